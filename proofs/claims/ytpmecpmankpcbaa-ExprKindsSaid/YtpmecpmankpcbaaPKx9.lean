/- Go functions of the program as plain functions, and that each call comes to them. Written by a program of this session (hprint.py) on the kit's print. No conditions. -/
import Derived.Test.YtpmecpmankpcbaaPKx0
import Derived.Test.YtpmecpmankpcbaaPKx3
import Derived.Test.YtpmecpmankpcbaaPKx8
import Derived.Test.YtpmecpmankpcbaaSq
namespace Go.Proofs.Ytpmecpmankpcbaa.PK
open Go.RowKit Go.Proofs.YtpmecpmankpcbaaW.PrintWords Go.Proofs.YtpmecpmankpcbaaW.PrintLast Go.Proofs.YtpmecpmankpcbaaW.PrintMore Go.Proofs.Ytpmecpmankpcbaa.Sq
set_option linter.unusedVariables false
set_option linter.unusedSimpArgs false

/-! ### expr_Type: function 13 -/
def expr_Type.f (k : Nat) (a0_0 : ByteArray) (l0_1 : List (S57)) (a0_2 : Int) (a0_3 : Int) (a0_4 : Int) (l0_5 : List Int) (l0_6 : List Int) (l0_7 : List Int) (a0_8 : Int) (a0_9 : Int) (a0_10 : Int) (a1_0 : Int) (a1_1 : ByteArray) (a1_2 : Int) (a1_3 : Int) (a1_4 : ByteArray) (l1_5 : List (S26)) : Option (Int × Int) := (expr_small.f k l1_5 1 0).bind fun b => (if b.1 = true then (expr_typed.f k a0_0 l0_1 a0_2 a0_3 a0_4 l0_5 l0_6 l0_7 a0_8 a0_9 a0_10 a1_0 a1_1 a1_2 a1_3 a1_4 l1_5) else (some (0, 3)))
theorem expr_Type.mono : ∀ a0 a1 a2 a3 a4 a5 a6 a7 a8 a9 a10 a11 a12 a13 a14 a15 a16 k, LeO (expr_Type.f k a0 a1 a2 a3 a4 a5 a6 a7 a8 a9 a10 a11 a12 a13 a14 a15 a16) (expr_Type.f (k + 1) a0 a1 a2 a3 a4 a5 a6 a7 a8 a9 a10 a11 a12 a13 a14 a15 a16) := by
 intro a0 a1 a2 a3 a4 a5 a6 a7 a8 a9 a10 a11 a12 a13 a14 a15 a16 k
 unfold expr_Type.f
 refine LeO.bind (expr_small.mono _ _ _ _) (fun _ => ?_)
 exact LeO.ite (expr_typed.mono _ _ _ _ _ _ _ _ _ _ _ _ _ _ _ _ _ _) (LeO.refl _)
set_option maxHeartbeats 8000000 in
set_option maxRecDepth 100000 in
theorem expr_Type.calls (k : Nat) (a0_0 : ByteArray) (A0_1 : Option Addr) (c0_1 : Nat) (l0_1 : List (S57)) (a0_2 : Int) (a0_3 : Int) (a0_4 : Int) (A0_5 : Option Addr) (c0_5 : Nat) (l0_5 : List Int) (A0_6 : Option Addr) (c0_6 : Nat) (l0_6 : List Int) (A0_7 : Option Addr) (c0_7 : Nat) (l0_7 : List Int) (a0_8 : Int) (a0_9 : Int) (a0_10 : Int) (a1_0 : Int) (a1_1 : ByteArray) (a1_2 : Int) (a1_3 : Int) (a1_4 : ByteArray) (A1_5 : Option Addr) (c1_5 : Nat) (l1_5 : List (S26)) (r1 : Int) (r2 : Int) (w : World) (hr0_1 : Kd.C k57 w A0_1 l0_1.length l0_1) (hc0_1 : l0_1.length ≤ c0_1) (hr0_5 : Kd.C (Kd.int .i64) w A0_5 l0_5.length l0_5) (hc0_5 : l0_5.length ≤ c0_5) (hr0_6 : Kd.C (Kd.int .i64) w A0_6 l0_6.length l0_6) (hc0_6 : l0_6.length ≤ c0_6) (hr0_7 : Kd.C (Kd.int .i64) w A0_7 l0_7.length l0_7) (hc0_7 : l0_7.length ≤ c0_7) (hr1_5 : Kd.C k26 w A1_5 l1_5.length l1_5) (hc1_5 : l1_5.length ≤ c1_5) (h : expr_Type.f k a0_0 l0_1 a0_2 a0_3 a0_4 l0_5 l0_6 l0_7 a0_8 a0_9 a0_10 a1_0 a1_1 a1_2 a1_3 a1_4 l1_5 = some (r1, r2)) :
  Calls Try.prog 13 #[.agg #[.string a0_0, .slice A0_1 l0_1.length c0_1, .int .i64 a0_2, .int .i64 a0_3, .int .i64 a0_4, .slice A0_5 l0_5.length c0_5, .slice A0_6 l0_6.length c0_6, .slice A0_7 l0_7.length c0_7, .int .i64 a0_8, .int .i64 a0_9, .int .i64 a0_10], .agg #[.int .i64 a1_0, .string a1_1, .int .i64 a1_2, .int .i64 a1_3, .string a1_4, .slice A1_5 l1_5.length c1_5]] w fun e w' => e = .returned (.tuple #[.int .i64 r1, .int .i64 r2]) ∧ Below w.heap.size w w' := by
 have hu0 := Try.underlying32
 have hu1 := Try.underlying26
 have HR0_1 := aM hr0_1
 have HC0_1 := aM hc0_1
 have HR0_5 := aM hr0_5
 have HC0_5 := aM hc0_5
 have HR0_6 := aM hr0_6
 have HC0_6 := aM hc0_6
 have HR0_7 := aM hr0_7
 have HC0_7 := aM hc0_7
 have HR1_5 := aM hr1_5
 have HC1_5 := aM hc1_5
 clear hr0_1 hc0_1 hr0_5 hc0_5 hr0_6 hc0_6 hr0_7 hc0_7 hr1_5 hc1_5
 unfold expr_Type.f at h
 obtain ⟨⟨b1, b2⟩, hb0, HA⟩ := Option.bind_eq_some_iff.mp h
 replace HA : (if b1 = true then (expr_typed.f k a0_0 l0_1 a0_2 a0_3 a0_4 l0_5 l0_6 l0_7 a0_8 a0_9 a0_10 a1_0 a1_1 a1_2 a1_3 a1_4 l1_5) else (some (0, 3))) = some (r1, r2) := HA
 have HBB := aM hb0
 have HA := aM HA
 clear h hb0
 go_enter Try.func13, Try.ntmps13
 go_upto_region 1 with fail
 (try simp only [Act.put, sA, sB, sC])
 have hb0 : Below w.heap.size w ((w.alloc (.cells #[.string a0_0, .slice A0_1 l0_1.length c0_1, .int .i64 a0_2, .int .i64 a0_3, .int .i64 a0_4, .slice A0_5 l0_5.length c0_5, .slice A0_6 l0_6.length c0_6, .slice A0_7 l0_7.length c0_7, .int .i64 a0_8, .int .i64 a0_9, .int .i64 a0_10] 32)).alloc (.cells #[.int .i64 a1_0, .string a1_1, .int .i64 a1_2, .int .i64 a1_3, .string a1_4, .slice A1_5 l1_5.length c1_5] 26)) := below_alloc (below_alloc (Below.refl _ _) _) _
 have h32 : ((w.alloc (.cells #[.string a0_0, .slice A0_1 l0_1.length c0_1, .int .i64 a0_2, .int .i64 a0_3, .int .i64 a0_4, .slice A0_5 l0_5.length c0_5, .slice A0_6 l0_6.length c0_6, .slice A0_7 l0_7.length c0_7, .int .i64 a0_8, .int .i64 a0_9, .int .i64 a0_10] 32)).alloc (.cells #[.int .i64 a1_0, .string a1_1, .int .i64 a1_2, .int .i64 a1_3, .string a1_4, .slice A1_5 l1_5.length c1_5] 26)).heap[w.heap.size]? = some (.cells #[.string a0_0, .slice A0_1 l0_1.length c0_1, .int .i64 a0_2, .int .i64 a0_3, .int .i64 a0_4, .slice A0_5 l0_5.length c0_5, .slice A0_6 l0_6.length c0_6, .slice A0_7 l0_7.length c0_7, .int .i64 a0_8, .int .i64 a0_9, .int .i64 a0_10] 32 (0, 0)) := blk_alloc (blk_new w _) _
 have h26 : ((w.alloc (.cells #[.string a0_0, .slice A0_1 l0_1.length c0_1, .int .i64 a0_2, .int .i64 a0_3, .int .i64 a0_4, .slice A0_5 l0_5.length c0_5, .slice A0_6 l0_6.length c0_6, .slice A0_7 l0_7.length c0_7, .int .i64 a0_8, .int .i64 a0_9, .int .i64 a0_10] 32)).alloc (.cells #[.int .i64 a1_0, .string a1_1, .int .i64 a1_2, .int .i64 a1_3, .string a1_4, .slice A1_5 l1_5.length c1_5] 26)).heap[w.heap.size + 1]? = some (.cells #[.int .i64 a1_0, .string a1_1, .int .i64 a1_2, .int .i64 a1_3, .string a1_4, .slice A1_5 l1_5.length c1_5] 26 (0, 0)) := by
  have := blk_new (w.alloc (.cells #[.string a0_0, .slice A0_1 l0_1.length c0_1, .int .i64 a0_2, .int .i64 a0_3, .int .i64 a0_4, .slice A0_5 l0_5.length c0_5, .slice A0_6 l0_6.length c0_6, .slice A0_7 l0_7.length c0_7, .int .i64 a0_8, .int .i64 a0_9, .int .i64 a0_10] 32)) (.cells #[.int .i64 a1_0, .string a1_1, .int .i64 a1_2, .int .i64 a1_3, .string a1_4, .slice A1_5 l1_5.length c1_5] 26)
  simpa using this
 generalize ((w.alloc (.cells #[.string a0_0, .slice A0_1 l0_1.length c0_1, .int .i64 a0_2, .int .i64 a0_3, .int .i64 a0_4, .slice A0_5 l0_5.length c0_5, .slice A0_6 l0_6.length c0_6, .slice A0_7 l0_7.length c0_7, .int .i64 a0_8, .int .i64 a0_9, .int .i64 a0_10] 32)).alloc (.cells #[.int .i64 a1_0, .string a1_1, .int .i64 a1_2, .int .i64 a1_3, .string a1_4, .slice A1_5 l1_5.length c1_5] 26)) = w0 at hb0 h32 h26 ⊢
 go_upto_region 2 with fail
 (try simp only [Act.put, sA, sB, sC])
 have hb1 : Below w0.heap.size w0 (w0.alloc (.cells #[.int .i64 0] 3)) := below_alloc (Below.refl _ _) _
 have hpa : (w0.alloc (.cells #[.int .i64 0] 3)).heap[w0.heap.size]? = some (.cells #[.int .i64 0] 3 (0, 0)) := blk_new w0 _
 generalize (w0.alloc (.cells #[.int .i64 0] 3)) = w1 at hb1 hpa ⊢
 have h26a := blk_below h26 hb1
 have hd0 : w1.cell? ⟨w.heap.size + 1, 0, none⟩ = some (.int .i64 a1_0) := (blk_cell h26a 0).trans rfl
 have hd1 : w1.cell? ⟨w.heap.size + 1, 1, none⟩ = some (.string a1_1) := (blk_cell h26a 1).trans rfl
 have hd2 : w1.cell? ⟨w.heap.size + 1, 2, none⟩ = some (.int .i64 a1_2) := (blk_cell h26a 2).trans rfl
 have hd3 : w1.cell? ⟨w.heap.size + 1, 3, none⟩ = some (.int .i64 a1_3) := (blk_cell h26a 3).trans rfl
 have hd4 : w1.cell? ⟨w.heap.size + 1, 4, none⟩ = some (.string a1_4) := (blk_cell h26a 4).trans rfl
 have hd5 : w1.cell? ⟨w.heap.size + 1, 5, none⟩ = some (.slice A1_5 l1_5.length c1_5) := (blk_cell h26a 5).trans rfl
 cases b1
 ·have HA1 : (some (0, 3)) = some (r1, r2) := by have := HA.out; rw [if_neg (show ¬ (false = true) by decide)] at this; exact this
  clear HA
  simp only [Option.some.injEq, Prod.mk.injEq] at HA1
  obtain ⟨rfl, rfl⟩ := HA1
  go_wp2_with (go_at_call 24; refine (expr_small.calls k _ _ _ _ _ _ _ l1_5 1 w0.heap.size 0 false b2 w0 _ (Kd.C_below HR1_5.out hb0) HC1_5.out hb1 (Nat.le_refl _) hpa HBB.out).mono ?_; rintro e w2 ⟨rfl, _, hb2⟩)
  go_ret2
  exact ⟨rfl, below_step hb0 hb2⟩
 ·have HA1 : expr_typed.f k a0_0 l0_1 a0_2 a0_3 a0_4 l0_5 l0_6 l0_7 a0_8 a0_9 a0_10 a1_0 a1_1 a1_2 a1_3 a1_4 l1_5 = some (r1, r2) := by have := HA.out; rw [if_pos rfl] at this; exact this
  have HA1 := aM HA1
  clear HA
  go_upto_region 4 with (go_at_call 24; refine (expr_small.calls k _ _ _ _ _ _ _ l1_5 1 w0.heap.size 0 true b2 w0 _ (Kd.C_below HR1_5.out hb0) HC1_5.out hb1 (Nat.le_refl _) hpa HBB.out).mono ?_; rintro e w2 ⟨rfl, _, hb2⟩)
  (try simp only [Act.put, sA, sB, sC])
  have hb02 : Below w.heap.size w w2 := below_step hb0 hb2
  have h32b := blk_below h32 hb2
  have h26b := blk_below h26 hb2
  have he0 : w2.cell? ⟨w.heap.size, 0, none⟩ = some (.string a0_0) := (blk_cell h32b 0).trans rfl
  have he1 : w2.cell? ⟨w.heap.size, 1, none⟩ = some (.slice A0_1 l0_1.length c0_1) := (blk_cell h32b 1).trans rfl
  have he2 : w2.cell? ⟨w.heap.size, 2, none⟩ = some (.int .i64 a0_2) := (blk_cell h32b 2).trans rfl
  have he3 : w2.cell? ⟨w.heap.size, 3, none⟩ = some (.int .i64 a0_3) := (blk_cell h32b 3).trans rfl
  have he4 : w2.cell? ⟨w.heap.size, 4, none⟩ = some (.int .i64 a0_4) := (blk_cell h32b 4).trans rfl
  have he5 : w2.cell? ⟨w.heap.size, 5, none⟩ = some (.slice A0_5 l0_5.length c0_5) := (blk_cell h32b 5).trans rfl
  have he6 : w2.cell? ⟨w.heap.size, 6, none⟩ = some (.slice A0_6 l0_6.length c0_6) := (blk_cell h32b 6).trans rfl
  have he7 : w2.cell? ⟨w.heap.size, 7, none⟩ = some (.slice A0_7 l0_7.length c0_7) := (blk_cell h32b 7).trans rfl
  have he8 : w2.cell? ⟨w.heap.size, 8, none⟩ = some (.int .i64 a0_8) := (blk_cell h32b 8).trans rfl
  have he9 : w2.cell? ⟨w.heap.size, 9, none⟩ = some (.int .i64 a0_9) := (blk_cell h32b 9).trans rfl
  have he10 : w2.cell? ⟨w.heap.size, 10, none⟩ = some (.int .i64 a0_10) := (blk_cell h32b 10).trans rfl
  have hf0 : w2.cell? ⟨w.heap.size + 1, 0, none⟩ = some (.int .i64 a1_0) := (blk_cell h26b 0).trans rfl
  have hf1 : w2.cell? ⟨w.heap.size + 1, 1, none⟩ = some (.string a1_1) := (blk_cell h26b 1).trans rfl
  have hf2 : w2.cell? ⟨w.heap.size + 1, 2, none⟩ = some (.int .i64 a1_2) := (blk_cell h26b 2).trans rfl
  have hf3 : w2.cell? ⟨w.heap.size + 1, 3, none⟩ = some (.int .i64 a1_3) := (blk_cell h26b 3).trans rfl
  have hf4 : w2.cell? ⟨w.heap.size + 1, 4, none⟩ = some (.string a1_4) := (blk_cell h26b 4).trans rfl
  have hf5 : w2.cell? ⟨w.heap.size + 1, 5, none⟩ = some (.slice A1_5 l1_5.length c1_5) := (blk_cell h26b 5).trans rfl
  go_wp2_with (go_at_call 25; refine (expr_typed.calls k a0_0 _ _ l0_1 a0_2 a0_3 a0_4 _ _ l0_5 _ _ l0_6 _ _ l0_7 a0_8 a0_9 a0_10 a1_0 a1_1 a1_2 a1_3 a1_4 _ _ l1_5 r1 r2 _ (Kd.C_below HR0_1.out hb02) HC0_1.out (Kd.C_below HR0_5.out hb02) HC0_5.out (Kd.C_below HR0_6.out hb02) HC0_6.out (Kd.C_below HR0_7.out hb02) HC0_7.out (Kd.C_below HR1_5.out hb02) HC1_5.out HA1.out).mono ?_; rintro e w3 ⟨rfl, hb3⟩)
  go_ret2
  exact ⟨rfl, below_step hb02 hb3⟩

end Go.Proofs.Ytpmecpmankpcbaa.PK
