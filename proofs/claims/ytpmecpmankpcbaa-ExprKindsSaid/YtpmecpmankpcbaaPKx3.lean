/- Go functions of the program as plain functions, and that each call comes to them. Written by a program of this session (hprint.py) on the kit's print. No conditions. -/
import Derived.Test.YtpmecpmankpcbaaPKx0
import Derived.Test.YtpmecpmankpcbaaSq
namespace Go.Proofs.Ytpmecpmankpcbaa.PK
open Go.RowKit Go.Proofs.YtpmecpmankpcbaaW.PrintWords Go.Proofs.YtpmecpmankpcbaaW.PrintLast Go.Proofs.YtpmecpmankpcbaaW.PrintMore Go.Proofs.Ytpmecpmankpcbaa.Sq
set_option linter.unusedVariables false
set_option linter.unusedSimpArgs false

/-! ### expr_small: function 24 -/
mutual
def expr_small.l0 : Nat → Int → Int → Int → List S26 → Option (Bool × Int)
 | 0, _, _, _, _ => none
 | k + 1, d, i, p, l => if i < (l.length : Int) then (if 0 ≤ i then ((expr_small.f k (rd_T26 l i).f3 (wrap64 (d + 1)) p).bind fun b => (if b.1 = true then (expr_small.l0 k d (wrap64 (i + 1)) b.2 l) else (some (false, b.2)))) else (none)) else (some (true, p))
def expr_small.f : Nat → List S26 → Int → Int → Option (Bool × Int)
 | 0, _, _, _ => none
 | k + 1, l, d, p => if d > 64 then (some (false, wrap64 (p + 1))) else (if wrap64 (p + 1) > 4096 then (some (false, wrap64 (p + 1))) else (expr_small.l0 k d 0 (wrap64 (p + 1)) l))
end
theorem expr_small.mono_l : ∀ k, (∀ y0 y1 y2, LeO (expr_small.f k y0 y1 y2) (expr_small.f (k + 1) y0 y1 y2)) ∧ (∀ y0 y1 y2 y3, LeO (expr_small.l0 k y0 y1 y2 y3) (expr_small.l0 (k + 1) y0 y1 y2 y3))
 | 0 => ⟨fun _ _ _ r h => by simp [expr_small.f] at h, fun _ _ _ _ r h => by simp [expr_small.l0] at h⟩
 | k + 1 => by
  obtain ⟨ih0, ih1⟩ := expr_small.mono_l k
  refine ⟨?_, ?_⟩
  ·intro y0 y1 y2
   unfold expr_small.f
   repeat' first
   | (with_reducible exact LeO.refl _)
   | (with_reducible exact ih1 _ _ _ _)
   | (with_reducible refine LeO.ite ?_ ?_)
  ·intro y0 y1 y2 y3
   unfold expr_small.l0
   repeat' first
   | (with_reducible exact LeO.refl _)
   | (with_reducible exact ih0 _ _ _)
   | (with_reducible exact ih1 _ _ _ _)
   | (with_reducible refine LeO.ite ?_ ?_)
   | (with_reducible refine LeO.bind ?_ (fun _ => ?_))
theorem expr_small.mono (y0 : List S26) (y1 y2 : Int) (k : Nat) : LeO (expr_small.f k y0 y1 y2) (expr_small.f (k + 1) y0 y1 y2) := (expr_small.mono_l k).1 y0 y1 y2
set_option maxHeartbeats 8000000 in
set_option maxRecDepth 100000 in
theorem expr_small.calls (k : Nat) : ∀ (a0_0 : Int) (a0_1 : ByteArray) (a0_2 : Int) (a0_3 : Int) (a0_4 : ByteArray) (A0_5 : Option Addr) (c0_5 : Nat) (l0_5 : List (S26)) (a1 : Int) (pa : Nat) (p : Int) (r1 : Bool) (r2 : Int) (w0 w : World) (hr0_5 : Kd.C k26 w0 A0_5 l0_5.length l0_5) (hc0_5 : l0_5.length ≤ c0_5)
  (hB0 : Below w0.heap.size w0 w) (hp : w0.heap.size ≤ pa) (hcell : w.heap[pa]? = some (.cells #[.int .i64 p] 3 (0, 0))) (h : expr_small.f k l0_5 a1 p = some (r1, r2)),
  Calls Try.prog 24 #[.agg #[.int .i64 a0_0, .string a0_1, .int .i64 a0_2, .int .i64 a0_3, .string a0_4, .slice A0_5 l0_5.length c0_5], .int .i64 a1, .pointer (some ⟨pa, 0, none⟩)] w fun e w' => e = .returned (.bool r1) ∧ w'.heap[pa]? = some (.cells #[.int .i64 r2] 3 (0, 0)) ∧ Below w0.heap.size w0 w' := by
 induction k using Nat.strongRecOn with
 | _ k ih =>
 intro a0_0 a0_1 a0_2 a0_3 a0_4 A0_5 c0_5 l0_5 a1 pa p r1 r2 w0 w hr0_5 hc0_5 hB0 hp hcell h
 cases k with
 | zero => exact absurd h (by simp [expr_small.f])
 | succ k =>
 simp only [expr_small.f] at h
 have hu := Try.underlying26
 have HR := aM hr0_5
 have HC0 := aM hc0_5
 clear hr0_5 hc0_5
 have hBA : Below w0.heap.size w0 ((w.alloc (.cells #[.int .i64 a0_0, .string a0_1, .int .i64 a0_2, .int .i64 a0_3, .string a0_4, .slice A0_5 l0_5.length c0_5] 26)).setCell ⟨pa, 0, none⟩ (.int .i64 (wrap64 (p + 1)))) := below_set (below_alloc hB0 _) hp
 have hne : pa ≠ w.heap.size := by have := blk_lt hcell; omega
 have hPA : ((w.alloc (.cells #[.int .i64 a0_0, .string a0_1, .int .i64 a0_2, .int .i64 a0_3, .string a0_4, .slice A0_5 l0_5.length c0_5] 26)).setCell ⟨pa, 0, none⟩ (.int .i64 (wrap64 (p + 1)))).heap[pa]? = some (.cells #[.int .i64 (wrap64 (p + 1))] 3 (0, 0)) := blk_put (blk_alloc hcell _) 0 _ (by simp)
 have hbox : ((w.alloc (.cells #[.int .i64 a0_0, .string a0_1, .int .i64 a0_2, .int .i64 a0_3, .string a0_4, .slice A0_5 l0_5.length c0_5] 26)).setCell ⟨pa, 0, none⟩ (.int .i64 (wrap64 (p + 1)))).heap[w.heap.size]? = some (.cells #[.int .i64 a0_0, .string a0_1, .int .i64 a0_2, .int .i64 a0_3, .string a0_4, .slice A0_5 l0_5.length c0_5] 26 (0, 0)) := blk_far (blk_new w _) (Ne.symm hne) _
 have hz : ((w.alloc (.cells #[.int .i64 a0_0, .string a0_1, .int .i64 a0_2, .int .i64 a0_3, .string a0_4, .slice A0_5 l0_5.length c0_5] 26))).cell? ⟨pa, 0, none⟩ = some (.int .i64 p) := (blk_cell (blk_alloc hcell _) 0).trans rfl
 have hzf := blk_frozen (blk_alloc hcell (.cells #[.int .i64 a0_0, .string a0_1, .int .i64 a0_2, .int .i64 a0_3, .string a0_4, .slice A0_5 l0_5.length c0_5] 26)) 0
 have HBA := aM hBA
 have HPA := aM hPA
 have HBX := aM hbox
 have HP := aM hp
 have HBX0 := aM (below_size hB0)
 have HNE := aM hne
 clear hB0 hp hcell hBA hPA hbox hne
 have H := aM h
 clear h
 go_enter Try.func24, Try.ntmps24
 go_upto_region 2 with fail
 (try simp only [Act.put, sA, sB, sC])
 have hgb : w0.heap.size ≤ w.heap.size := HBX0.out
 generalize ((w.alloc (.cells #[.int .i64 a0_0, .string a0_1, .int .i64 a0_2, .int .i64 a0_3, .string a0_4, .slice A0_5 l0_5.length c0_5] 26)).setCell ⟨pa, 0, none⟩ (.int .i64 (wrap64 (p + 1)))) = W at HPA HBA HBX ⊢
 generalize w.heap.size = gb at HNE HBX hgb ⊢
 clear hz hzf HBX0
 have H1 := H.out
 clear H
 by_cases c1 : a1 > 64
 ·rw [if_pos c1] at H1
  have c1b : decide (64 < a1) = true := decide_eq_true c1
  clear c1
  simp only [Option.some.injEq, Prod.mk.injEq] at H1
  obtain ⟨rfl, rfl⟩ := H1
  go_wp2
  go_ret
  exact ⟨rfl, HPA.out, HBA.out⟩
 ·rw [if_neg c1] at H1
  have c1b : decide (64 < a1) = false := decide_eq_false c1
  clear c1
  have hz2 : W.cell? ⟨pa, 0, none⟩ = some (.int .i64 (wrap64 (p + 1))) := (blk_cell HPA.out 0).trans rfl
  by_cases c2 : wrap64 (p + 1) > 4096
  ·rw [if_pos c2] at H1
   have c2b : decide (4096 < wrap64 (p + 1)) = true := decide_eq_true c2
   clear c2
   simp only [Option.some.injEq, Prod.mk.injEq] at H1
   obtain ⟨rfl, rfl⟩ := H1
   go_wp2
   go_ret
   exact ⟨rfl, HPA.out, HBA.out⟩
  ·rw [if_neg c2] at H1
   have c2b : decide (4096 < wrap64 (p + 1)) = false := decide_eq_false c2
   clear c2
   have hbx5 : W.cell? ⟨gb, 5, none⟩ = some (.slice A0_5 l0_5.length c0_5) := (blk_cell HBX.out 5).trans rfl
   have H := aM H1
   clear H1
   go_wp2
   go_loopg [25] k (fun kq v25 wr => ∃ i : Int, v25 = .int .i64 i ∧ Aside0 (∃ q, expr_small.l0 kq a1 i q l0_5 = some (r1, r2) ∧ wr.heap[pa]? = some (.cells #[.int .i64 q] 3 (0, 0))) ∧ Aside0 (kq ≤ k) ∧ Aside0 (Below w0.heap.size w0 wr))
   case atStart => exact ⟨0, rfl, ⟨_, H.out, HPA.out⟩, ⟨Nat.le_refl _⟩, HBA⟩
   case round =>
    clear H hz2 hbx5 HPA HBA HBX
    obtain ⟨i, rfl, ⟨q, HA, HPA⟩, HK, HB⟩ := hrel
    have hne := HNE.out
    have hpl := blk_lt HPA
    have hge : w0.heap.size ≤ wr.heap.size := HB.out.size
    have hn1 : pa ≠ wr.heap.size := by omega
    have HPA := aM HPA
    have HGE := aM hge
    have HN1 := aM hn1
    clear hne hpl hge hn1
    cases gk with
    | zero => exact absurd HA (by simp [expr_small.l0])
    | succ k2 =>
     simp only [expr_small.l0] at HA
     by_cases c8 : i < (l0_5.length : Int)
     ·rw [if_pos c8] at HA
      by_cases c9 : 0 ≤ i
      ·rw [if_pos c9] at HA
       obtain ⟨⟨b1, b2⟩, hb0, HA⟩ := Option.bind_eq_some_iff.mp HA
       replace HA : (if b1 = true then (expr_small.l0 k2 a1 (wrap64 (i + 1)) b2 l0_5) else (some (false, b2))) = some (r1, r2) := HA
       have HBB := aM hb0
       have HA := aM HA
       clear hb0
       obtain ⟨ad, A', c', e0, hx0, hx1, hx2, hx3, hx4, hx5, hl', hC'⟩ := at_T26 HR.out i c9 c8
       cases e0
       replace hx0 := pw_cell_below HB.out hx0
       replace hx1 := pw_cell_below HB.out hx1
       replace hx2 := pw_cell_below HB.out hx2
       replace hx3 := pw_cell_below HB.out hx3
       replace hx4 := pw_cell_below HB.out hx4
       replace hx5 := pw_cell_below HB.out hx5
       have HL := aM hl'
       have HC := aM hC'
       clear hl' hC'
       have c8b : decide (i < (l0_5.length : Int)) = true := decide_eq_true c8
       replace c8 := eq_true c8
       replace c9 := eq_true c9
       cases b1
       ·have HA1 : (some (false, b2)) = some (r1, r2) := by have := HA.out; rw [if_neg (show ¬ (false = true) by decide)] at this; exact this
        clear HA
        simp only [Option.some.injEq, Prod.mk.injEq] at HA1
        obtain ⟨rfl, rfl⟩ := HA1
        go_wp2_with (go_at_call 24; refine (ih k2 (by have := HK.out; omega) _ _ _ _ _ A' c' (rd_T26 l0_5 i).f3 (wrap64 (a1 + 1)) pa q false b2 w0 _ HC.out HL.out (by repeat (first | exact HB.out | apply below_alloc | refine below_set ?_ HGE.out)) HP.out (by repeat (first | exact HPA.out | refine blk_far ?_ HN1.out _ | refine blk_alloc ?_ _)) HBB.out).mono ?_; rintro e w' ⟨rfl, hc', hb'⟩)
        go_ret
        exact ⟨rfl, hc', hb'⟩
       ·have HA1 : expr_small.l0 k2 a1 (wrap64 (i + 1)) b2 l0_5 = some (r1, r2) := by have := HA.out; rw [if_pos rfl] at this; exact this
        have HA1 := aM HA1
        clear HA
        go_wp2_with (go_at_call 24; refine (ih k2 (by have := HK.out; omega) _ _ _ _ _ A' c' (rd_T26 l0_5 i).f3 (wrap64 (a1 + 1)) pa q true b2 w0 _ HC.out HL.out (by repeat (first | exact HB.out | apply below_alloc | refine below_set ?_ HGE.out)) HP.out (by repeat (first | exact HPA.out | refine blk_far ?_ HN1.out _ | refine blk_alloc ?_ _)) HBB.out).mono ?_; rintro e w' ⟨rfl, hc', hb'⟩)
        go_roundg k2
        case measure => have := HK.out; omega
        case rel => exact ⟨wrap64 (i + 1), (by first | rfl | (simp; done)), ⟨b2, HA1.out, hc'⟩, ⟨by have := HK.out; omega⟩, ⟨hb'⟩⟩
      ·rw [if_neg c9] at HA
       exact absurd HA (by simp)
     ·rw [if_neg c8] at HA
      have c8b : decide (i < (l0_5.length : Int)) = false := decide_eq_false c8
      clear c8
      simp only [Option.some.injEq, Prod.mk.injEq] at HA
      obtain ⟨rfl, rfl⟩ := HA
      go_wp2
      go_ret
      exact ⟨rfl, HPA.out, HB.out⟩

end Go.Proofs.Ytpmecpmankpcbaa.PK
