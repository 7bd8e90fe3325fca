/- Go functions of the program as plain functions, and that each call comes to them. Written by a program of this session (hprint.py) on the kit's print. No conditions. -/
import Derived.Test.YtpmecpmankpcbaaPKx0
import Derived.Test.YtpmecpmankpcbaaPKx5
import Derived.Test.YtpmecpmankpcbaaPKx13
import Derived.Test.YtpmecpmankpcbaaSq
namespace Go.Proofs.Ytpmecpmankpcbaa.PK
open Go.RowKit Go.Proofs.YtpmecpmankpcbaaW.PrintWords Go.Proofs.YtpmecpmankpcbaaW.PrintLast Go.Proofs.YtpmecpmankpcbaaW.PrintMore Go.Proofs.Ytpmecpmankpcbaa.Sq
set_option linter.unusedVariables false
set_option linter.unusedSimpArgs false

/-! ### expr_eval: function 29 -/
mutual
def expr_eval.l0 : Nat → List (S23) → List (S23) → List (S26) → Int → Int → ByteArray → List (S57) → Int → Int → Int → List Int → List Int → List Int → Int → Int → Int → Int → ByteArray → Int → Int → ByteArray → List (S26) → Option (Int × Int × ByteArray × Int)
 | 0, _, _, _, _, _, _, _, _, _, _, _, _, _, _, _, _, _, _, _, _, _, _ => none
 | k + 1, x1, x8, x29, x30, x31, x212000, x212001, x212002, x212003, x212004, x212005, x212006, x212007, x212008, x212009, x212010, x213000, x213001, x213002, x213003, x213004, x213005 => if x31 < x30 then (if 0 ≤ x31 then (if x31 < (x29.length : Int) then ((expr_eval.f k x212000 x212001 x212002 x212003 x212004 x212005 x212006 x212007 x212008 x212009 x212010 x1 ((rd_T26 x29 x31).f0) ((rd_T26 x29 x31).f1) ((rd_T26 x29 x31).f2.f0) ((rd_T26 x29 x31).f2.f1) ((rd_T26 x29 x31).f2.f2) ((rd_T26 x29 x31).f3)).bind fun bt218 => (if bt218.2.2.2 = 0 then (if x8.length < 4398046511104 then (expr_eval.l0 k x1 (x8 ++ [(⟨bt218.1, bt218.2.1, bt218.2.2.1⟩ : S23)]) x29 x30 (wrap64 (x31 + 1)) x212000 x212001 x212002 x212003 x212004 x212005 x212006 x212007 x212008 x212009 x212010 x213000 x213001 x213002 x213003 x213004 x213005) else (none)) else (some (0, 0, (⟨#[]⟩ : ByteArray), bt218.2.2.2)))) else (none)) else (none)) else ((expr_does.f k x213001 x8).bind fun bt226 => (some (bt226.1, bt226.2.1, bt226.2.2.1, bt226.2.2.2)))
def expr_eval.f : Nat → ByteArray → List (S57) → Int → Int → Int → List Int → List Int → List Int → Int → Int → Int → List (S23) → Int → ByteArray → Int → Int → ByteArray → List (S26) → Option (Int × Int × ByteArray × Int)
 | 0, _, _, _, _, _, _, _, _, _, _, _, _, _, _, _, _, _, _ => none
 | k + 1, a0_0, l0_1, a0_2, a0_3, a0_4, l0_5, l0_6, l0_7, a0_8, a0_9, a0_10, l1, a2_0, a2_1, a2_2, a2_3, a2_4, l2_5 => if a2_0 = 1 then (some (a2_2, a2_3, a2_4, 0)) else (if a2_0 = 2 then ((schema_Col.f a0_0 l0_1 a0_2 a0_3 a0_4 l0_5 l0_6 l0_7 a0_8 a0_9 a0_10 a2_1).bind fun t214 => (if 0 ≤ t214 then (if t214 < (l1.length : Int) then (some ((rd_T23 l1 t214).f0, (rd_T23 l1 t214).f1, (rd_T23 l1 t214).f2, 0)) else (none)) else (none))) else (expr_eval.l0 k l1 ([] : List (S23)) l2_5 (l2_5.length : Int) 0 a0_0 l0_1 a0_2 a0_3 a0_4 l0_5 l0_6 l0_7 a0_8 a0_9 a0_10 a2_0 a2_1 a2_2 a2_3 a2_4 l2_5))
end
theorem expr_eval.mono_l : ∀ k, (∀ y0 y1 y2 y3 y4 y5 y6 y7 y8 y9 y10 y11 y12 y13 y14 y15 y16 y17, LeO (expr_eval.f k y0 y1 y2 y3 y4 y5 y6 y7 y8 y9 y10 y11 y12 y13 y14 y15 y16 y17) (expr_eval.f (k + 1) y0 y1 y2 y3 y4 y5 y6 y7 y8 y9 y10 y11 y12 y13 y14 y15 y16 y17)) ∧ (∀ y0 y1 y2 y3 y4 y5 y6 y7 y8 y9 y10 y11 y12 y13 y14 y15 y16 y17 y18 y19 y20 y21, LeO (expr_eval.l0 k y0 y1 y2 y3 y4 y5 y6 y7 y8 y9 y10 y11 y12 y13 y14 y15 y16 y17 y18 y19 y20 y21) (expr_eval.l0 (k + 1) y0 y1 y2 y3 y4 y5 y6 y7 y8 y9 y10 y11 y12 y13 y14 y15 y16 y17 y18 y19 y20 y21))
 | 0 => ⟨fun _ _ _ _ _ _ _ _ _ _ _ _ _ _ _ _ _ _ r h => by simp [expr_eval.f] at h, fun _ _ _ _ _ _ _ _ _ _ _ _ _ _ _ _ _ _ _ _ _ _ r h => by simp [expr_eval.l0] at h⟩
 | k + 1 => by
  obtain ⟨ih0, ih1⟩ := expr_eval.mono_l k
  refine ⟨?_, ?_⟩
  ·intro y0 y1 y2 y3 y4 y5 y6 y7 y8 y9 y10 y11 y12 y13 y14 y15 y16 y17
   unfold expr_eval.f
   repeat' first
   | (with_reducible exact ih0 _ _ _ _ _ _ _ _ _ _ _ _ _ _ _ _ _ _)
   | (with_reducible exact ih1 _ _ _ _ _ _ _ _ _ _ _ _ _ _ _ _ _ _ _ _ _ _)
   | (with_reducible exact expr_does.mono _ _ _)
   | (with_reducible exact LeO.refl _)
   | (with_reducible exact LeO.none _)
   | (with_reducible refine LeO.ite ?_ ?_)
   | (with_reducible refine LeO.bind ?_ (fun _ => ?_))
   | exact ih0 _ _ _ _ _ _ _ _ _ _ _ _ _ _ _ _ _ _
   | exact ih1 _ _ _ _ _ _ _ _ _ _ _ _ _ _ _ _ _ _ _ _ _ _
   | exact expr_does.mono _ _ _
   | exact LeO.none _
   | refine LeO.ite ?_ ?_
   | refine LeO.bind ?_ (fun _ => ?_)
  ·intro y0 y1 y2 y3 y4 y5 y6 y7 y8 y9 y10 y11 y12 y13 y14 y15 y16 y17 y18 y19 y20 y21
   unfold expr_eval.l0
   repeat' first
   | (with_reducible exact ih0 _ _ _ _ _ _ _ _ _ _ _ _ _ _ _ _ _ _)
   | (with_reducible exact ih1 _ _ _ _ _ _ _ _ _ _ _ _ _ _ _ _ _ _ _ _ _ _)
   | (with_reducible exact expr_does.mono _ _ _)
   | (with_reducible exact LeO.refl _)
   | (with_reducible exact LeO.none _)
   | (with_reducible refine LeO.ite ?_ ?_)
   | (with_reducible refine LeO.bind ?_ (fun _ => ?_))
   | exact ih0 _ _ _ _ _ _ _ _ _ _ _ _ _ _ _ _ _ _
   | exact ih1 _ _ _ _ _ _ _ _ _ _ _ _ _ _ _ _ _ _ _ _ _ _
   | exact expr_does.mono _ _ _
   | exact LeO.none _
   | refine LeO.ite ?_ ?_
   | refine LeO.bind ?_ (fun _ => ?_)
theorem expr_eval.mono : ∀ a0 a1 a2 a3 a4 a5 a6 a7 a8 a9 a10 a11 a12 a13 a14 a15 a16 a17 k, LeO (expr_eval.f k a0 a1 a2 a3 a4 a5 a6 a7 a8 a9 a10 a11 a12 a13 a14 a15 a16 a17) (expr_eval.f (k + 1) a0 a1 a2 a3 a4 a5 a6 a7 a8 a9 a10 a11 a12 a13 a14 a15 a16 a17) := by
 intro a0 a1 a2 a3 a4 a5 a6 a7 a8 a9 a10 a11 a12 a13 a14 a15 a16 a17 k
 obtain ⟨ih0, ih1⟩ := expr_eval.mono_l k
 exact ih0 a0 a1 a2 a3 a4 a5 a6 a7 a8 a9 a10 a11 a12 a13 a14 a15 a16 a17
set_option maxHeartbeats 8000000 in
set_option maxRecDepth 100000 in
theorem expr_eval.calls (k : Nat) : ∀ (a0_0 : ByteArray) (A0_1 : Option Addr) (c0_1 : Nat) (l0_1 : List (S57)) (a0_2 : Int) (a0_3 : Int) (a0_4 : Int) (A0_5 : Option Addr) (c0_5 : Nat) (l0_5 : List Int) (A0_6 : Option Addr) (c0_6 : Nat) (l0_6 : List Int) (A0_7 : Option Addr) (c0_7 : Nat) (l0_7 : List Int) (a0_8 : Int) (a0_9 : Int) (a0_10 : Int) (A1 : Option Addr) (c1 : Nat) (l1 : List (S23)) (a2_0 : Int) (a2_1 : ByteArray) (a2_2 : Int) (a2_3 : Int) (a2_4 : ByteArray) (A2_5 : Option Addr) (c2_5 : Nat) (l2_5 : List (S26)) (r1 : Int) (r2 : Int) (r3 : ByteArray) (r4 : Int) (w : World) (hr0_1 : Kd.C k57 w A0_1 l0_1.length l0_1) (hc0_1 : l0_1.length ≤ c0_1) (hr0_5 : Kd.C (Kd.int .i64) w A0_5 l0_5.length l0_5) (hc0_5 : l0_5.length ≤ c0_5) (hr0_6 : Kd.C (Kd.int .i64) w A0_6 l0_6.length l0_6) (hc0_6 : l0_6.length ≤ c0_6) (hr0_7 : Kd.C (Kd.int .i64) w A0_7 l0_7.length l0_7) (hc0_7 : l0_7.length ≤ c0_7) (hr1 : Kd.C k23 w A1 l1.length l1) (hc1 : l1.length ≤ c1) (hr2_5 : Kd.C k26 w A2_5 l2_5.length l2_5) (hc2_5 : l2_5.length ≤ c2_5) (h : expr_eval.f k a0_0 l0_1 a0_2 a0_3 a0_4 l0_5 l0_6 l0_7 a0_8 a0_9 a0_10 l1 a2_0 a2_1 a2_2 a2_3 a2_4 l2_5 = some (r1, r2, r3, r4)),
  Calls Try.prog 29 #[.agg #[.string a0_0, .slice A0_1 l0_1.length c0_1, .int .i64 a0_2, .int .i64 a0_3, .int .i64 a0_4, .slice A0_5 l0_5.length c0_5, .slice A0_6 l0_6.length c0_6, .slice A0_7 l0_7.length c0_7, .int .i64 a0_8, .int .i64 a0_9, .int .i64 a0_10], .slice A1 l1.length c1, .agg #[.int .i64 a2_0, .string a2_1, .int .i64 a2_2, .int .i64 a2_3, .string a2_4, .slice A2_5 l2_5.length c2_5]] w fun e w' => e = .returned (.tuple #[.agg #[.int .i64 r1, .int .i64 r2, .string r3], .int .i64 r4]) ∧ Below w.heap.size w w' := by
 induction k using Nat.strongRecOn with
 | _ k ih =>
 intro a0_0 A0_1 c0_1 l0_1 a0_2 a0_3 a0_4 A0_5 c0_5 l0_5 A0_6 c0_6 l0_6 A0_7 c0_7 l0_7 a0_8 a0_9 a0_10 A1 c1 l1 a2_0 a2_1 a2_2 a2_3 a2_4 A2_5 c2_5 l2_5 r1 r2 r3 r4 w hr0_1 hc0_1 hr0_5 hc0_5 hr0_6 hc0_6 hr0_7 hc0_7 hr1 hc1 hr2_5 hc2_5 h
 cases k with
 | zero => exact absurd h (by simp [expr_eval.f])
 | succ k =>
 simp only [expr_eval.f] at h
 have hu32 := Try.underlying32
 have hu26 := Try.underlying26
 have hu23 := Try.underlying23
 have HR0_1 := aM hr0_1
 have HC0_1 := aM hc0_1
 clear hr0_1 hc0_1
 have HR0_5 := aM hr0_5
 have HC0_5 := aM hc0_5
 clear hr0_5 hc0_5
 have HR0_6 := aM hr0_6
 have HC0_6 := aM hc0_6
 clear hr0_6 hc0_6
 have HR0_7 := aM hr0_7
 have HC0_7 := aM hc0_7
 clear hr0_7 hc0_7
 have HR1 := aM hr1
 have HC1 := aM hc1
 clear hr1 hc1
 have HR2_5 := aM hr2_5
 have HC2_5 := aM hc2_5
 clear hr2_5 hc2_5
 have HB := aM (Below.refl w.heap.size w)
 have H : (if a2_0 = 1 then (some (a2_2, a2_3, a2_4, 0)) else (if a2_0 = 2 then ((schema_Col.f a0_0 l0_1 a0_2 a0_3 a0_4 l0_5 l0_6 l0_7 a0_8 a0_9 a0_10 a2_1).bind fun t214 => (if 0 ≤ t214 then (if t214 < (l1.length : Int) then (some ((rd_T23 l1 t214).f0, (rd_T23 l1 t214).f1, (rd_T23 l1 t214).f2, 0)) else (none)) else (none))) else (expr_eval.l0 k l1 ([] : List (S23)) l2_5 (l2_5.length : Int) 0 a0_0 l0_1 a0_2 a0_3 a0_4 l0_5 l0_6 l0_7 a0_8 a0_9 a0_10 a2_0 a2_1 a2_2 a2_3 a2_4 l2_5))) = some (r1, r2, r3, r4) := h
 clear h
 by_cases c4 : a2_0 = 1
 ·rw [if_pos c4] at H
  have c4b0 : (a2_0 == 1) = true := beq_iff_eq.mpr c4
  have c4b1 : (a2_0 != 1) = false := bne_eq_false_iff_eq.mpr c4
  clear c4
  simp only [Option.some.injEq, Prod.mk.injEq] at H
  obtain ⟨rfl, rfl, rfl, rfl⟩ := H
  go_enter Try.func29, Try.ntmps29
  go_wp2_with (first | ((with_reducible refine gate_dst (N := 3) rfl ?_); refine bE (N := 3) (cs := #[.string a0_0, .slice A0_1 l0_1.length c0_1, .int .i64 a0_2, .int .i64 a0_3, .int .i64 a0_4, .slice A0_5 l0_5.length c0_5, .slice A0_6 l0_6.length c0_6, .slice A0_7 l0_7.length c0_7, .int .i64 a0_8, .int .i64 a0_9, .int .i64 a0_10]) (t := 32) ?_; intro gb211 hg w5 hbox hb; have n0_ := aM (below_step (lO HB) hb); have n1_ := aM (hbox); have n2_ := aM (gO hg (lO HB)); have n3_ := aM (gO hg (lO HB)); clear HB; have HB := n0_; have BK211 := n1_; have GW211 := n2_; have GE211 := n3_; clear n0_ n1_ n2_ n3_; clear hb hbox hg) | ((with_reducible refine gate_dst (N := 5) rfl ?_); refine bE (N := 5) (cs := #[.int .i64 a2_0, .string a2_1, .int .i64 a2_2, .int .i64 a2_3, .string a2_4, .slice A2_5 l2_5.length c2_5]) (t := 26) ?_; intro gb212 hg w6 hbox hb; have n0_ := aM (blk_below (bO BK211) hb); have n1_ := aM (below_step (lO HB) hb); have n2_ := aM (hbox); have n3_ := aM (gO hg (lO HB)); have n4_ := aM (gO hg (lO HB)); have n5_ := aM (ne_lt hg (bO BK211)); have n6_ := aM (ne_gt hg (bO BK211)); clear BK211; clear HB; have BK211 := n0_; have HB := n1_; have BK212 := n2_; have GW212 := n3_; have GE212 := n4_; have NB211_212 := n5_; have NB212_211 := n6_; clear n0_ n1_ n2_ n3_ n4_ n5_ n6_; clear hb hbox hg) | ((with_reducible refine gate_dst (N := 6) rfl ?_); refine bE (N := 6) (cs := #[.int .i64 0, .int .i64 0, .string (⟨#[]⟩ : ByteArray)]) (t := 23) ?_; intro gb213 hg w7 hbox hb; have n0_ := aM (blk_below (bO BK211) hb); have n1_ := aM (blk_below (bO BK212) hb); have n2_ := aM (below_step (lO HB) hb); have n3_ := aM (hbox); have n4_ := aM (gO hg (lO HB)); have n5_ := aM (gO hg (lO HB)); have n6_ := aM (ne_lt hg (bO BK211)); have n7_ := aM (ne_gt hg (bO BK211)); have n8_ := aM (ne_lt hg (bO BK212)); have n9_ := aM (ne_gt hg (bO BK212)); clear BK211; clear BK212; clear HB; have BK211 := n0_; have BK212 := n1_; have HB := n2_; have BK213 := n3_; have GW213 := n4_; have GE213 := n5_; have NB211_213 := n6_; have NB213_211 := n7_; have NB212_213 := n8_; have NB213_212 := n9_; clear n0_ n1_ n2_ n3_ n4_ n5_ n6_ n7_ n8_ n9_; clear hb hbox hg; have hnb8 := NB212_211.out; have hnc8 := NB211_212.out; have hnb9 := NB212_213.out; have hnc9 := NB213_212.out; have C10_0 := c6_0 BK212; have C10_1 := c6_1 BK212; have C10_2 := c6_2 BK212; have C10_3 := c6_3 BK212; have C10_4 := c6_4 BK212; have C10_5 := c6_5 BK212; have F10_0 := fz BK212 0; have F10_1 := fz BK212 1; have F10_2 := fz BK212 2; have F10_3 := fz BK212 3; have F10_4 := fz BK212 4; have F10_5 := fz BK212 5; have hnb11 := NB213_211.out; have hnc11 := NB211_213.out; have C12_0 := c3_0 BK213; have C12_1 := c3_1 BK213; have C12_2 := c3_2 BK213; have F12_0 := fz BK213 0; have F12_1 := fz BK213 1; have F12_2 := fz BK213 2))
  refine bodyPost_ret (results_ct rfl _ _ gb213 23 #[.int .i64 a2_2, .int .i64 a2_3, .string a2_4] (0, 0) _ rfl (by (with_reducible repeat (first | refine blk_drewN ?_ _ | refine blk_drew ?_ | refine blk_alloc ?_ _)); refine blk_put (cs := #[.int .i64 a2_2, .int .i64 a2_3, .string (⟨#[]⟩ : ByteArray)]) ?_ 2 _ rfl; (with_reducible repeat (first | refine blk_drewN ?_ _ | refine blk_drew ?_ | refine blk_alloc ?_ _)); refine blk_put (cs := #[.int .i64 a2_2, .int .i64 0, .string (⟨#[]⟩ : ByteArray)]) ?_ 1 _ rfl; (with_reducible repeat (first | refine blk_drewN ?_ _ | refine blk_drew ?_ | refine blk_alloc ?_ _)); refine blk_put (cs := #[.int .i64 0, .int .i64 0, .string (⟨#[]⟩ : ByteArray)]) ?_ 0 _ rfl; (with_reducible repeat (first | refine blk_drewN ?_ _ | refine blk_drew ?_ | refine blk_alloc ?_ _)); exact BK213.out) Try.underlying23 rfl (by kernel_rfl)) rfl ?_
  exact ⟨by first | rfl | (simp [errW_none, errW_some] <;> rfl) | (simp [*, errW_none, errW_some] <;> rfl), (lO HB)⟩
 ·rw [if_neg c4] at H
  have c4b0 : (a2_0 == 1) = false := beq_eq_false_iff_ne.mpr c4
  have c4b1 : (a2_0 != 1) = true := bne_iff_ne.mpr c4
  by_cases c13 : a2_0 = 2
  ·rw [if_pos c13] at H
   have c13b0 : (a2_0 == 2) = true := beq_iff_eq.mpr c13
   have c13b1 : (a2_0 != 2) = false := bne_eq_false_iff_eq.mpr c13
   clear c13
   replace H := Option.bind_eq_some_iff.mp H
   obtain ⟨t214, A140, H⟩ := H
   replace H : (if 0 ≤ t214 then (if t214 < (l1.length : Int) then (some ((rd_T23 l1 t214).f0, (rd_T23 l1 t214).f1, (rd_T23 l1 t214).f2, 0)) else (none)) else (none)) = some (r1, r2, r3, r4) := H
   have A14 := aM A140
   clear A140
   by_cases c15 : 0 ≤ t214
   ·rw [if_pos c15] at H
    have c15b0 : decide (0 ≤ t214) = true := decide_eq_true c15
    clear c15
    by_cases c16 : t214 < (l1.length : Int)
    ·rw [if_pos c16] at H
     have c16b0 : decide (t214 < (l1.length : Int)) = true := decide_eq_true c16
     clear c16
     simp only [Option.some.injEq, Prod.mk.injEq] at H
     obtain ⟨rfl, rfl, rfl, rfl⟩ := H
     go_enter Try.func29, Try.ntmps29
     go_wp2_with (first | ((with_reducible refine gate_dst (N := 3) rfl ?_); refine bE (N := 3) (cs := #[.string a0_0, .slice A0_1 l0_1.length c0_1, .int .i64 a0_2, .int .i64 a0_3, .int .i64 a0_4, .slice A0_5 l0_5.length c0_5, .slice A0_6 l0_6.length c0_6, .slice A0_7 l0_7.length c0_7, .int .i64 a0_8, .int .i64 a0_9, .int .i64 a0_10]) (t := 32) ?_; intro gb211 hg w17 hbox hb; have n0_ := aM (below_step (lO HB) hb); have n1_ := aM (hbox); have n2_ := aM (gO hg (lO HB)); have n3_ := aM (gO hg (lO HB)); clear HB; have HB := n0_; have BK211 := n1_; have GW211 := n2_; have GE211 := n3_; clear n0_ n1_ n2_ n3_; clear hb hbox hg) | ((with_reducible refine gate_dst (N := 5) rfl ?_); refine bE (N := 5) (cs := #[.int .i64 a2_0, .string a2_1, .int .i64 a2_2, .int .i64 a2_3, .string a2_4, .slice A2_5 l2_5.length c2_5]) (t := 26) ?_; intro gb212 hg w18 hbox hb; have n0_ := aM (blk_below (bO BK211) hb); have n1_ := aM (below_step (lO HB) hb); have n2_ := aM (hbox); have n3_ := aM (gO hg (lO HB)); have n4_ := aM (gO hg (lO HB)); have n5_ := aM (ne_lt hg (bO BK211)); have n6_ := aM (ne_gt hg (bO BK211)); clear BK211; clear HB; have BK211 := n0_; have HB := n1_; have BK212 := n2_; have GW212 := n3_; have GE212 := n4_; have NB211_212 := n5_; have NB212_211 := n6_; clear n0_ n1_ n2_ n3_ n4_ n5_ n6_; clear hb hbox hg) | ((with_reducible refine gate_dst (N := 6) rfl ?_); refine bE (N := 6) (cs := #[.int .i64 0, .int .i64 0, .string (⟨#[]⟩ : ByteArray)]) (t := 23) ?_; intro gb213 hg w19 hbox hb; have n0_ := aM (blk_below (bO BK211) hb); have n1_ := aM (blk_below (bO BK212) hb); have n2_ := aM (below_step (lO HB) hb); have n3_ := aM (hbox); have n4_ := aM (gO hg (lO HB)); have n5_ := aM (gO hg (lO HB)); have n6_ := aM (ne_lt hg (bO BK211)); have n7_ := aM (ne_gt hg (bO BK211)); have n8_ := aM (ne_lt hg (bO BK212)); have n9_ := aM (ne_gt hg (bO BK212)); clear BK211; clear BK212; clear HB; have BK211 := n0_; have BK212 := n1_; have HB := n2_; have BK213 := n3_; have GW213 := n4_; have GE213 := n5_; have NB211_213 := n6_; have NB213_211 := n7_; have NB212_213 := n8_; have NB213_212 := n9_; clear n0_ n1_ n2_ n3_ n4_ n5_ n6_ n7_ n8_ n9_; clear hb hbox hg; have hnb20 := NB212_211.out; have hnc20 := NB211_212.out; have hnb21 := NB212_213.out; have hnc21 := NB213_212.out; have C22_0 := c6_0 BK212; have C22_1 := c6_1 BK212; have C22_2 := c6_2 BK212; have C22_3 := c6_3 BK212; have C22_4 := c6_4 BK212; have C22_5 := c6_5 BK212; have F22_0 := fz BK212 0; have F22_1 := fz BK212 1; have F22_2 := fz BK212 2; have F22_3 := fz BK212 3; have F22_4 := fz BK212 4; have F22_5 := fz BK212 5; have hnb23 := NB211_213.out; have hnc23 := NB213_211.out; have C24_0 := c11_0 BK211; have C24_1 := c11_1 BK211; have C24_2 := c11_2 BK211; have C24_3 := c11_3 BK211; have C24_4 := c11_4 BK211; have C24_5 := c11_5 BK211; have C24_6 := c11_6 BK211; have C24_7 := c11_7 BK211; have C24_8 := c11_8 BK211; have C24_9 := c11_9 BK211; have C24_10 := c11_10 BK211; have F24_0 := fz BK211 0; have F24_1 := fz BK211 1; have F24_2 := fz BK211 2; have F24_3 := fz BK211 3; have F24_4 := fz BK211 4; have F24_5 := fz BK211 5; have F24_6 := fz BK211 6; have F24_7 := fz BK211 7; have F24_8 := fz BK211 8; have F24_9 := fz BK211 9; have F24_10 := fz BK211 10) | ((with_reducible refine gate_callee (f := 33) rfl ?_); refine gL (some 25) rfl rfl Try.func33 (by kernel_rfl) rfl #[.agg #[.string a0_0, .slice A0_1 l0_1.length c0_1, .int .i64 a0_2, .int .i64 a0_3, .int .i64 a0_4, .slice A0_5 l0_5.length c0_5, .slice A0_6 l0_6.length c0_6, .slice A0_7 l0_7.length c0_7, .int .i64 a0_8, .int .i64 a0_9, .int .i64 a0_10], .string a2_1] rfl ?_; (with_reducible refine (schema_Col.calls a0_0 _ _ l0_1 a0_2 a0_3 a0_4 _ _ l0_5 _ _ l0_6 _ _ l0_7 a0_8 a0_9 a0_10 a2_1 t214 _ ?side1 ?side2 ?side3 ?side4 ?side5 ?side6 ?side7 ?side8 A14.out).mono ?_); (case side1 => exact cO (Kd.C_below HR0_1.out HB.out)); (case side2 => exact HC0_1.out); (case side3 => exact cO (Kd.C_below HR0_5.out HB.out)); (case side4 => exact HC0_5.out); (case side5 => exact cO (Kd.C_below HR0_6.out HB.out)); (case side6 => exact HC0_6.out); (case side7 => exact cO (Kd.C_below HR0_7.out HB.out)); (case side8 => exact HC0_7.out); rintro e w25 ⟨rfl, hb⟩; refine ⟨_, rfl, ?_⟩; have n0_ := aM (blk_below (bO BK211) hb); have n1_ := aM (blk_below (bO BK212) hb); have n2_ := aM (blk_below (bO BK213) hb); have n3_ := aM (below_step (lO HB) hb); clear BK211; clear BK212; clear BK213; clear HB; have BK211 := n0_; have BK212 := n1_; have BK213 := n2_; have HB := n3_; clear n0_ n1_ n2_ n3_; (try clear hb); (try clear hb2); (try clear hk); (try clear hi); have p215 : 0 ≤ (t214 : Int) := of_decide_eq_true (by first | (with_reducible assumption) | assumption); have q215 : t214 < (l1.length : Int) := of_decide_eq_true (by first | (with_reducible assumption) | assumption); obtain ⟨ad215, e215, hx215_0, hx215_1, hx215_2⟩ := at_T23 HR1.out t214 p215 q215; cases e215; replace hx215_0 := (HB.out.cell (World.block_lt_of_cell? w _ hx215_0)).trans hx215_0; replace hx215_1 := (HB.out.cell (World.block_lt_of_cell? w _ hx215_1)).trans hx215_1; replace hx215_2 := (HB.out.cell (World.block_lt_of_cell? w _ hx215_2)).trans hx215_2; replace p215 := eq_true p215; replace q215 := eq_true q215; have C26_0 := c3_0 BK213; have C26_1 := c3_1 BK213; have C26_2 := c3_2 BK213; have F26_0 := fz BK213 0; have F26_1 := fz BK213 1; have F26_2 := fz BK213 2))
     refine bodyPost_ret (results_ct rfl _ _ gb213 23 #[.int .i64 ((rd_T23 l1 t214).f0), .int .i64 ((rd_T23 l1 t214).f1), .string ((rd_T23 l1 t214).f2)] (0, 0) _ rfl (by (with_reducible repeat (first | refine blk_drewN ?_ _ | refine blk_drew ?_ | refine blk_alloc ?_ _)); refine blk_put (cs := #[.int .i64 ((rd_T23 l1 t214).f0), .int .i64 ((rd_T23 l1 t214).f1), .string (⟨#[]⟩ : ByteArray)]) ?_ 2 _ rfl; (with_reducible repeat (first | refine blk_drewN ?_ _ | refine blk_drew ?_ | refine blk_alloc ?_ _)); refine blk_put (cs := #[.int .i64 ((rd_T23 l1 t214).f0), .int .i64 0, .string (⟨#[]⟩ : ByteArray)]) ?_ 1 _ rfl; (with_reducible repeat (first | refine blk_drewN ?_ _ | refine blk_drew ?_ | refine blk_alloc ?_ _)); refine blk_put (cs := #[.int .i64 0, .int .i64 0, .string (⟨#[]⟩ : ByteArray)]) ?_ 0 _ rfl; (with_reducible repeat (first | refine blk_drewN ?_ _ | refine blk_drew ?_ | refine blk_alloc ?_ _)); exact BK213.out) Try.underlying23 rfl (by kernel_rfl)) rfl ?_
     exact ⟨by first | rfl | (simp [errW_none, errW_some] <;> rfl) | (simp [*, errW_none, errW_some] <;> rfl), (lO HB)⟩
    ·rw [if_neg c16] at H
     exact absurd H (by simp)
   ·rw [if_neg c15] at H
    exact absurd H (by simp)
  ·rw [if_neg c13] at H
   have c13b0 : (a2_0 == 2) = false := beq_eq_false_iff_ne.mpr c13
   have c13b1 : (a2_0 != 2) = true := bne_iff_ne.mpr c13
   have H' := aM H
   clear H
   go_enter Try.func29, Try.ntmps29
   go_wp2_with (first | ((with_reducible refine gate_dst (N := 3) rfl ?_); refine bE (N := 3) (cs := #[.string a0_0, .slice A0_1 l0_1.length c0_1, .int .i64 a0_2, .int .i64 a0_3, .int .i64 a0_4, .slice A0_5 l0_5.length c0_5, .slice A0_6 l0_6.length c0_6, .slice A0_7 l0_7.length c0_7, .int .i64 a0_8, .int .i64 a0_9, .int .i64 a0_10]) (t := 32) ?_; intro gb211 hg w27 hbox hb; have n0_ := aM (below_step (lO HB) hb); have n1_ := aM (hbox); have n2_ := aM (gO hg (lO HB)); have n3_ := aM (gO hg (lO HB)); clear HB; have HB := n0_; have BK211 := n1_; have GW211 := n2_; have GE211 := n3_; clear n0_ n1_ n2_ n3_; clear hb hbox hg) | ((with_reducible refine gate_dst (N := 5) rfl ?_); refine bE (N := 5) (cs := #[.int .i64 a2_0, .string a2_1, .int .i64 a2_2, .int .i64 a2_3, .string a2_4, .slice A2_5 l2_5.length c2_5]) (t := 26) ?_; intro gb212 hg w28 hbox hb; have n0_ := aM (blk_below (bO BK211) hb); have n1_ := aM (below_step (lO HB) hb); have n2_ := aM (hbox); have n3_ := aM (gO hg (lO HB)); have n4_ := aM (gO hg (lO HB)); have n5_ := aM (ne_lt hg (bO BK211)); have n6_ := aM (ne_gt hg (bO BK211)); clear BK211; clear HB; have BK211 := n0_; have HB := n1_; have BK212 := n2_; have GW212 := n3_; have GE212 := n4_; have NB211_212 := n5_; have NB212_211 := n6_; clear n0_ n1_ n2_ n3_ n4_ n5_ n6_; clear hb hbox hg) | ((with_reducible refine gate_dst (N := 6) rfl ?_); refine bE (N := 6) (cs := #[.int .i64 0, .int .i64 0, .string (⟨#[]⟩ : ByteArray)]) (t := 23) ?_; intro gb213 hg w29 hbox hb; have n0_ := aM (blk_below (bO BK211) hb); have n1_ := aM (blk_below (bO BK212) hb); have n2_ := aM (below_step (lO HB) hb); have n3_ := aM (hbox); have n4_ := aM (gO hg (lO HB)); have n5_ := aM (gO hg (lO HB)); have n6_ := aM (ne_lt hg (bO BK211)); have n7_ := aM (ne_gt hg (bO BK211)); have n8_ := aM (ne_lt hg (bO BK212)); have n9_ := aM (ne_gt hg (bO BK212)); clear BK211; clear BK212; clear HB; have BK211 := n0_; have BK212 := n1_; have HB := n2_; have BK213 := n3_; have GW213 := n4_; have GE213 := n5_; have NB211_213 := n6_; have NB213_211 := n7_; have NB212_213 := n8_; have NB213_212 := n9_; clear n0_ n1_ n2_ n3_ n4_ n5_ n6_ n7_ n8_ n9_; clear hb hbox hg; have hnb30 := NB212_211.out; have hnc30 := NB211_212.out; have hnb31 := NB212_213.out; have hnc31 := NB213_212.out; have C32_0 := c6_0 BK212; have C32_1 := c6_1 BK212; have C32_2 := c6_2 BK212; have C32_3 := c6_3 BK212; have C32_4 := c6_4 BK212; have C32_5 := c6_5 BK212; have F32_0 := fz BK212 0; have F32_1 := fz BK212 1; have F32_2 := fz BK212 2; have F32_3 := fz BK212 3; have F32_4 := fz BK212 4; have F32_5 := fz BK212 5))
   go_loopg [8, 31] k (fun kq v8 v31 w' => ∃ (x8_1 : List (S23)) (x31_1 : Int) (x214000_1 : Int) (x214001_1 : Int) (x214002_1 : ByteArray), v31 = .int .i64 x31_1 ∧ Aside0 (expr_eval.l0 kq l1 x8_1 l2_5 (l2_5.length : Int) x31_1 a0_0 l0_1 a0_2 a0_3 a0_4 l0_5 l0_6 l0_7 a0_8 a0_9 a0_10 a2_0 a2_1 a2_2 a2_3 a2_4 l2_5 = some (r1, r2, r3, r4)) ∧ Aside0 (kq ≤ k) ∧ Aside0 (Kd.R k23 23 w' w.heap.size (fun k_ => k_ ≠ gb213) v8 x8_1) ∧ Aside0 (w'.heap[gb211]? = some (.cells #[.string a0_0, (.slice A0_1 l0_1.length c0_1), .int .i64 a0_2, .int .i64 a0_3, .int .i64 a0_4, (.slice A0_5 l0_5.length c0_5), (.slice A0_6 l0_6.length c0_6), (.slice A0_7 l0_7.length c0_7), .int .i64 a0_8, .int .i64 a0_9, .int .i64 a0_10] 32 (0, 0))) ∧ Aside0 (w'.heap[gb212]? = some (.cells #[.int .i64 a2_0, .string a2_1, .int .i64 a2_2, .int .i64 a2_3, .string a2_4, (.slice A2_5 l2_5.length c2_5)] 26 (0, 0))) ∧ Aside0 (w'.heap[gb213]? = some (.cells #[.int .i64 x214000_1, .int .i64 x214001_1, .string x214002_1] 23 (0, 0))) ∧ Aside0 (Below w.heap.size w w'))
   case atStart => exact ⟨(([] : List (S23))), (0), (0), (0), ((⟨#[]⟩ : ByteArray)), (by first | rfl | (simp; done) | (simp [*]; done)), H', ⟨Nat.le_refl _⟩, ⟨by first | exact Kd.R_nil _ _ _ _ _ | exact Kd.N_nil _ _ _ _ _ | exact Kd.V_nil _ _ _ _ _ | exact Kd.Q_nil _ _ _ _ _ | exact Kd.S_nil _ _ _ _ _⟩, ⟨bO BK211⟩, ⟨bO BK212⟩, ⟨bO BK213⟩, ⟨(lO HB)⟩⟩
   case round =>
    clear H'
    try clear c1
    try clear c2
    try clear p2
    try clear q2
    try clear hx2
    try clear c3
    try clear c4
    try clear c4b0
    try clear c4b1
    try clear c8
    try clear c9
    try clear c11
    try clear c13
    try clear c13b0
    try clear c13b1
    try clear c15
    try clear c15b0
    try clear c16
    try clear c16b0
    try clear c20
    try clear c21
    try clear p21
    try clear q21
    try clear hx21
    try clear c23
    try clear c29
    try clear c30
    try clear c31
    try clear C10_0
    try clear C10_1
    try clear C10_2
    try clear C10_3
    try clear C10_4
    try clear C10_5
    try clear C12_0
    try clear C12_1
    try clear C12_2
    try clear C22_0
    try clear C22_1
    try clear C22_2
    try clear C22_3
    try clear C22_4
    try clear C22_5
    try clear C24_0
    try clear C24_1
    try clear C24_10
    try clear C24_2
    try clear C24_3
    try clear C24_4
    try clear C24_5
    try clear C24_6
    try clear C24_7
    try clear C24_8
    try clear C24_9
    try clear C26_0
    try clear C26_1
    try clear C26_2
    try clear C32_0
    try clear C32_1
    try clear C32_2
    try clear C32_3
    try clear C32_4
    try clear C32_5
    try clear F10_0
    try clear F10_1
    try clear F10_2
    try clear F10_3
    try clear F10_4
    try clear F10_5
    try clear F12_0
    try clear F12_1
    try clear F12_2
    try clear F22_0
    try clear F22_1
    try clear F22_2
    try clear F22_3
    try clear F22_4
    try clear F22_5
    try clear F24_0
    try clear F24_1
    try clear F24_10
    try clear F24_2
    try clear F24_3
    try clear F24_4
    try clear F24_5
    try clear F24_6
    try clear F24_7
    try clear F24_8
    try clear F24_9
    try clear F26_0
    try clear F26_1
    try clear F26_2
    try clear F32_0
    try clear F32_1
    try clear F32_2
    try clear F32_3
    try clear F32_4
    try clear F32_5
    try clear hx215_0
    try clear hx215_1
    try clear hx215_2
    try clear p215
    try clear q215
    obtain ⟨x8_1, x31_1, x214000_1, x214001_1, x214002_1, rfl, HA, HK1, HO_8, BK211, BK212, BK213, HB⟩ := hrel
    cases gk with
    | zero => exact absurd HA.out (by simp [expr_eval.l0])
    | succ k1 =>
     have H := HA.out
     clear HA
     simp only [expr_eval.l0] at H
     by_cases c33 : x31_1 < (l2_5.length : Int)
     ·rw [if_pos c33] at H
      have c33b0 : decide (x31_1 < (l2_5.length : Int)) = true := decide_eq_true c33
      clear c33
      by_cases c34 : 0 ≤ x31_1
      ·rw [if_pos c34] at H
       have c34b0 : decide (0 ≤ x31_1) = true := decide_eq_true c34
       clear c34
       by_cases c35 : x31_1 < (l2_5.length : Int)
       ·rw [if_pos c35] at H
        have c35b0 : decide (x31_1 < (l2_5.length : Int)) = true := decide_eq_true c35
        clear c35
        replace H := Option.bind_eq_some_iff.mp H
        obtain ⟨⟨t218, t219, t220, t221⟩, A360, H⟩ := H
        replace H : (if t221 = 0 then (if x8_1.length < 4398046511104 then (expr_eval.l0 k1 l1 (x8_1 ++ [(⟨t218, t219, t220⟩ : S23)]) l2_5 (l2_5.length : Int) (wrap64 (x31_1 + 1)) a0_0 l0_1 a0_2 a0_3 a0_4 l0_5 l0_6 l0_7 a0_8 a0_9 a0_10 a2_0 a2_1 a2_2 a2_3 a2_4 l2_5) else (none)) else (some (0, 0, (⟨#[]⟩ : ByteArray), t221))) = some (r1, r2, r3, r4) := H
        have A36 := aM A360
        clear A360
        by_cases c37 : t221 = 0
        ·rw [if_pos c37] at H
         have c37b0 : (t221 == 0) = true := beq_iff_eq.mpr c37
         have c37b1 : (t221 != 0) = false := bne_eq_false_iff_eq.mpr c37
         clear c37
         by_cases c38 : x8_1.length < 4398046511104
         ·rw [if_pos c38] at H
          have LMc38 := aM c38
          clear c38
          obtain ⟨y223, hy223⟩ : ∃ y_ : List (S23), y_ = (x8_1 ++ [(⟨t218, t219, t220⟩ : S23)]) := ⟨_, rfl⟩
          replace H : (expr_eval.l0 k1 l1 y223 l2_5 (l2_5.length : Int) (wrap64 (x31_1 + 1)) a0_0 l0_1 a0_2 a0_3 a0_4 l0_5 l0_6 l0_7 a0_8 a0_9 a0_10 a2_0 a2_1 a2_2 a2_3 a2_4 l2_5) = some (r1, r2, r3, r4) := by first | (rw [hy223]; with_reducible exact H) | (have H2_ := (Option.bind_some _ _).symm.trans H; rw [hy223]; with_reducible exact H2_) | (have H2_ := (Option.bind_some _ _).symm.trans H; with_reducible exact H2_) | with_reducible exact H | (rw [hy223]; exact H) | exact H
          have Ny223 := aM hy223
          clear hy223
          have H' := aM H
          clear H
          have p216 : 0 ≤ (x31_1 : Int) := of_decide_eq_true (by first | (with_reducible assumption) | assumption)
          have q216 : x31_1 < (l2_5.length : Int) := of_decide_eq_true (by first | (with_reducible assumption) | assumption)
          obtain ⟨ad216, A216_5, c216_5, e216, hx216_0, hx216_1, hx216_2, hx216_3, hx216_4, hx216_5, hl216_5, hi216_5⟩ := at_T26 HR2_5.out x31_1 p216 q216
          cases e216
          replace hx216_0 := (HB.out.cell (World.block_lt_of_cell? w _ hx216_0)).trans hx216_0
          replace hx216_1 := (HB.out.cell (World.block_lt_of_cell? w _ hx216_1)).trans hx216_1
          replace hx216_2 := (HB.out.cell (World.block_lt_of_cell? w _ hx216_2)).trans hx216_2
          replace hx216_3 := (HB.out.cell (World.block_lt_of_cell? w _ hx216_3)).trans hx216_3
          replace hx216_4 := (HB.out.cell (World.block_lt_of_cell? w _ hx216_4)).trans hx216_4
          replace hx216_5 := (HB.out.cell (World.block_lt_of_cell? w _ hx216_5)).trans hx216_5
          have HR216_5 := aM hi216_5
          have HC216_5 := aM hl216_5
          clear hi216_5 hl216_5
          replace p216 := eq_true p216
          replace q216 := eq_true q216
          go_wp2_with (first | ((with_reducible refine gate_dst (N := 10) rfl ?_); refine bE (N := 10) (cs := #[.int .i64 0, .string (⟨#[]⟩ : ByteArray), .int .i64 0, .int .i64 0, .string (⟨#[]⟩ : ByteArray), .slice none 0 0]) (t := 26) ?_; intro gb217 hg w39 hbox hb; have n0_ := aM (Kd.R_below (rO HO_8) hb); have n1_ := aM (blk_below (bO BK211) hb); have n2_ := aM (blk_below (bO BK212) hb); have n3_ := aM (blk_below (bO BK213) hb); have n4_ := aM (below_step (lO HB) hb); have n5_ := aM (hbox); have n6_ := aM (gO hg (lO HB)); have n7_ := aM (gO hg (lO HB)); have n8_ := aM (ne_lt hg (bO BK211)); have n9_ := aM (ne_gt hg (bO BK211)); have n10_ := aM (ne_lt hg (bO BK212)); have n11_ := aM (ne_gt hg (bO BK212)); have n12_ := aM (ne_lt hg (bO BK213)); have n13_ := aM (ne_gt hg (bO BK213)); clear HO_8; clear BK211; clear BK212; clear BK213; clear HB; have HO_8 := n0_; have BK211 := n1_; have BK212 := n2_; have BK213 := n3_; have HB := n4_; have BK217 := n5_; have GW217 := n6_; have GE217 := n7_; have NB211_217 := n8_; have NB217_211 := n9_; have NB212_217 := n10_; have NB217_212 := n11_; have NB213_217 := n12_; have NB217_213 := n13_; clear n0_ n1_ n2_ n3_ n4_ n5_ n6_ n7_ n8_ n9_ n10_ n11_ n12_ n13_; clear hb hbox hg; have hnb40 := NB217_211.out; have hnc40 := NB211_217.out; have hnb41 := NB217_212.out; have hnc41 := NB212_217.out; have hnb42 := NB217_213.out; have hnc42 := NB213_217.out; have C43_0 := c6_0 BK217; have C43_1 := c6_1 BK217; have C43_2 := c6_2 BK217; have C43_3 := c6_3 BK217; have C43_4 := c6_4 BK217; have C43_5 := c6_5 BK217; have F43_0 := fz BK217 0; have F43_1 := fz BK217 1; have F43_2 := fz BK217 2; have F43_3 := fz BK217 3; have F43_4 := fz BK217 4; have F43_5 := fz BK217 5; have hnb44 := NB211_212.out; have hnc44 := NB212_211.out; have hnb45 := NB211_213.out; have hnc45 := NB213_211.out; have C46_0 := c11_0 BK211; have C46_1 := c11_1 BK211; have C46_2 := c11_2 BK211; have C46_3 := c11_3 BK211; have C46_4 := c11_4 BK211; have C46_5 := c11_5 BK211; have C46_6 := c11_6 BK211; have C46_7 := c11_7 BK211; have C46_8 := c11_8 BK211; have C46_9 := c11_9 BK211; have C46_10 := c11_10 BK211; have F46_0 := fz BK211 0; have F46_1 := fz BK211 1; have F46_2 := fz BK211 2; have F46_3 := fz BK211 3; have F46_4 := fz BK211 4; have F46_5 := fz BK211 5; have F46_6 := fz BK211 6; have F46_7 := fz BK211 7; have F46_8 := fz BK211 8; have F46_9 := fz BK211 9; have F46_10 := fz BK211 10) | ((with_reducible refine gate_callee (f := 29) rfl ?_); refine gL (some 39) rfl rfl Try.func29 (by kernel_rfl) rfl #[.agg #[.string a0_0, .slice A0_1 l0_1.length c0_1, .int .i64 a0_2, .int .i64 a0_3, .int .i64 a0_4, .slice A0_5 l0_5.length c0_5, .slice A0_6 l0_6.length c0_6, .slice A0_7 l0_7.length c0_7, .int .i64 a0_8, .int .i64 a0_9, .int .i64 a0_10], .slice A1 l1.length c1, .agg #[.int .i64 ((rd_T26 l2_5 x31_1).f0), .string ((rd_T26 l2_5 x31_1).f1), .int .i64 ((rd_T26 l2_5 x31_1).f2.f0), .int .i64 ((rd_T26 l2_5 x31_1).f2.f1), .string ((rd_T26 l2_5 x31_1).f2.f2), .slice A216_5 ((rd_T26 l2_5 x31_1).f3).length c216_5]] rfl ?_; (with_reducible refine (ih k1 (by have := HK1.out; omega) a0_0 _ _ l0_1 a0_2 a0_3 a0_4 _ _ l0_5 _ _ l0_6 _ _ l0_7 a0_8 a0_9 a0_10 _ _ l1 ((rd_T26 l2_5 x31_1).f0) ((rd_T26 l2_5 x31_1).f1) ((rd_T26 l2_5 x31_1).f2.f0) ((rd_T26 l2_5 x31_1).f2.f1) ((rd_T26 l2_5 x31_1).f2.f2) _ _ ((rd_T26 l2_5 x31_1).f3) t218 t219 t220 t221 _ ?side1 ?side2 ?side3 ?side4 ?side5 ?side6 ?side7 ?side8 ?side9 ?side10 ?side11 ?side12 A36.out).mono ?_); (case side1 => exact Kd.C_below HR0_1.out (lO HB)); (case side2 => exact HC0_1.out); (case side3 => exact Kd.C_below HR0_5.out (lO HB)); (case side4 => exact HC0_5.out); (case side5 => exact Kd.C_below HR0_6.out (lO HB)); (case side6 => exact HC0_6.out); (case side7 => exact Kd.C_below HR0_7.out (lO HB)); (case side8 => exact HC0_7.out); (case side9 => exact Kd.C_below HR1.out (lO HB)); (case side10 => exact HC1.out); (case side11 => exact Kd.C_below HR216_5.out (lO HB)); (case side12 => exact HC216_5.out); rintro e w47 ⟨rfl, hb⟩; refine ⟨_, rfl, ?_⟩; have n0_ := aM (Kd.R_below (by (with_reducible repeat (first | apply Kd.R_alloc | apply Kd.R_drewN | apply Kd.R_drew)); exact (Kd.R_mono (Kd.R_far (p := ⟨gb217, 5, none⟩) (Kd.R_far (p := ⟨gb217, 4, none⟩) (Kd.R_far (p := ⟨gb217, 3, none⟩) (Kd.R_far (p := ⟨gb217, 2, none⟩) (Kd.R_far (p := ⟨gb217, 1, none⟩) (Kd.R_far (p := ⟨gb217, 0, none⟩) (Kd.R_types HO_8.out BK217.out (by decide)) (fun _ hk => hk.2) (.int .i64 ((rd_T26 l2_5 x31_1).f0))) (fun _ hk => hk.2) (.string ((rd_T26 l2_5 x31_1).f1))) (fun _ hk => hk.2) (.int .i64 ((rd_T26 l2_5 x31_1).f2.f0))) (fun _ hk => hk.2) (.int .i64 ((rd_T26 l2_5 x31_1).f2.f1))) (fun _ hk => hk.2) (.string ((rd_T26 l2_5 x31_1).f2.f2))) (fun _ hk => hk.2) (.slice A216_5 ((rd_T26 l2_5 x31_1).f3).length c216_5)) (fun _ h_ => h_.1))) hb); have n1_ := aM (blk_below (g := gb211) (o := .cells #[.string a0_0, .slice A0_1 l0_1.length c0_1, .int .i64 a0_2, .int .i64 a0_3, .int .i64 a0_4, .slice A0_5 l0_5.length c0_5, .slice A0_6 l0_6.length c0_6, .slice A0_7 l0_7.length c0_7, .int .i64 a0_8, .int .i64 a0_9, .int .i64 a0_10] 32 (0, 0)) (by (with_reducible repeat (first | refine blk_drewN ?_ _ | refine blk_drew ?_ | refine blk_alloc ?_ _)); refine blk_far ?_ NB211_217.out _; (with_reducible repeat (first | refine blk_drewN ?_ _ | refine blk_drew ?_ | refine blk_alloc ?_ _)); refine blk_far ?_ NB211_217.out _; (with_reducible repeat (first | refine blk_drewN ?_ _ | refine blk_drew ?_ | refine blk_alloc ?_ _)); refine blk_far ?_ NB211_217.out _; (with_reducible repeat (first | refine blk_drewN ?_ _ | refine blk_drew ?_ | refine blk_alloc ?_ _)); refine blk_far ?_ NB211_217.out _; (with_reducible repeat (first | refine blk_drewN ?_ _ | refine blk_drew ?_ | refine blk_alloc ?_ _)); refine blk_far ?_ NB211_217.out _; (with_reducible repeat (first | refine blk_drewN ?_ _ | refine blk_drew ?_ | refine blk_alloc ?_ _)); refine blk_far ?_ NB211_217.out _; (with_reducible repeat (first | refine blk_drewN ?_ _ | refine blk_drew ?_ | refine blk_alloc ?_ _)); exact BK211.out) hb); have n2_ := aM (blk_below (g := gb212) (o := .cells #[.int .i64 a2_0, .string a2_1, .int .i64 a2_2, .int .i64 a2_3, .string a2_4, .slice (some ad216) l2_5.length c2_5] 26 (0, 0)) (by (with_reducible repeat (first | refine blk_drewN ?_ _ | refine blk_drew ?_ | refine blk_alloc ?_ _)); refine blk_far ?_ NB212_217.out _; (with_reducible repeat (first | refine blk_drewN ?_ _ | refine blk_drew ?_ | refine blk_alloc ?_ _)); refine blk_far ?_ NB212_217.out _; (with_reducible repeat (first | refine blk_drewN ?_ _ | refine blk_drew ?_ | refine blk_alloc ?_ _)); refine blk_far ?_ NB212_217.out _; (with_reducible repeat (first | refine blk_drewN ?_ _ | refine blk_drew ?_ | refine blk_alloc ?_ _)); refine blk_far ?_ NB212_217.out _; (with_reducible repeat (first | refine blk_drewN ?_ _ | refine blk_drew ?_ | refine blk_alloc ?_ _)); refine blk_far ?_ NB212_217.out _; (with_reducible repeat (first | refine blk_drewN ?_ _ | refine blk_drew ?_ | refine blk_alloc ?_ _)); refine blk_far ?_ NB212_217.out _; (with_reducible repeat (first | refine blk_drewN ?_ _ | refine blk_drew ?_ | refine blk_alloc ?_ _)); exact BK212.out) hb); have n3_ := aM (blk_below (g := gb213) (o := .cells #[.int .i64 x214000_1, .int .i64 x214001_1, .string x214002_1] 23 (0, 0)) (by (with_reducible repeat (first | refine blk_drewN ?_ _ | refine blk_drew ?_ | refine blk_alloc ?_ _)); refine blk_far ?_ NB213_217.out _; (with_reducible repeat (first | refine blk_drewN ?_ _ | refine blk_drew ?_ | refine blk_alloc ?_ _)); refine blk_far ?_ NB213_217.out _; (with_reducible repeat (first | refine blk_drewN ?_ _ | refine blk_drew ?_ | refine blk_alloc ?_ _)); refine blk_far ?_ NB213_217.out _; (with_reducible repeat (first | refine blk_drewN ?_ _ | refine blk_drew ?_ | refine blk_alloc ?_ _)); refine blk_far ?_ NB213_217.out _; (with_reducible repeat (first | refine blk_drewN ?_ _ | refine blk_drew ?_ | refine blk_alloc ?_ _)); refine blk_far ?_ NB213_217.out _; (with_reducible repeat (first | refine blk_drewN ?_ _ | refine blk_drew ?_ | refine blk_alloc ?_ _)); refine blk_far ?_ NB213_217.out _; (with_reducible repeat (first | refine blk_drewN ?_ _ | refine blk_drew ?_ | refine blk_alloc ?_ _)); exact BK213.out) hb); have n4_ := aM (blk_below (g := gb217) (o := .cells #[.int .i64 ((rd_T26 l2_5 x31_1).f0), .string ((rd_T26 l2_5 x31_1).f1), .int .i64 ((rd_T26 l2_5 x31_1).f2.f0), .int .i64 ((rd_T26 l2_5 x31_1).f2.f1), .string ((rd_T26 l2_5 x31_1).f2.f2), .slice A216_5 ((rd_T26 l2_5 x31_1).f3).length c216_5] 26 (0, 0)) (by (with_reducible repeat (first | refine blk_drewN ?_ _ | refine blk_drew ?_ | refine blk_alloc ?_ _)); refine blk_put (cs := #[.int .i64 ((rd_T26 l2_5 x31_1).f0), .string ((rd_T26 l2_5 x31_1).f1), .int .i64 ((rd_T26 l2_5 x31_1).f2.f0), .int .i64 ((rd_T26 l2_5 x31_1).f2.f1), .string ((rd_T26 l2_5 x31_1).f2.f2), .slice none 0 0]) ?_ 5 _ rfl; (with_reducible repeat (first | refine blk_drewN ?_ _ | refine blk_drew ?_ | refine blk_alloc ?_ _)); refine blk_put (cs := #[.int .i64 ((rd_T26 l2_5 x31_1).f0), .string ((rd_T26 l2_5 x31_1).f1), .int .i64 ((rd_T26 l2_5 x31_1).f2.f0), .int .i64 ((rd_T26 l2_5 x31_1).f2.f1), .string (⟨#[]⟩ : ByteArray), .slice none 0 0]) ?_ 4 _ rfl; (with_reducible repeat (first | refine blk_drewN ?_ _ | refine blk_drew ?_ | refine blk_alloc ?_ _)); refine blk_put (cs := #[.int .i64 ((rd_T26 l2_5 x31_1).f0), .string ((rd_T26 l2_5 x31_1).f1), .int .i64 ((rd_T26 l2_5 x31_1).f2.f0), .int .i64 0, .string (⟨#[]⟩ : ByteArray), .slice none 0 0]) ?_ 3 _ rfl; (with_reducible repeat (first | refine blk_drewN ?_ _ | refine blk_drew ?_ | refine blk_alloc ?_ _)); refine blk_put (cs := #[.int .i64 ((rd_T26 l2_5 x31_1).f0), .string ((rd_T26 l2_5 x31_1).f1), .int .i64 0, .int .i64 0, .string (⟨#[]⟩ : ByteArray), .slice none 0 0]) ?_ 2 _ rfl; (with_reducible repeat (first | refine blk_drewN ?_ _ | refine blk_drew ?_ | refine blk_alloc ?_ _)); refine blk_put (cs := #[.int .i64 ((rd_T26 l2_5 x31_1).f0), .string (⟨#[]⟩ : ByteArray), .int .i64 0, .int .i64 0, .string (⟨#[]⟩ : ByteArray), .slice none 0 0]) ?_ 1 _ rfl; (with_reducible repeat (first | refine blk_drewN ?_ _ | refine blk_drew ?_ | refine blk_alloc ?_ _)); refine blk_put (cs := #[.int .i64 0, .string (⟨#[]⟩ : ByteArray), .int .i64 0, .int .i64 0, .string (⟨#[]⟩ : ByteArray), .slice none 0 0]) ?_ 0 _ rfl; (with_reducible repeat (first | refine blk_drewN ?_ _ | refine blk_drew ?_ | refine blk_alloc ?_ _)); exact BK217.out) hb); have n5_ := aM (below_step (lO HB) hb); clear HO_8; clear BK211; clear BK212; clear BK213; clear BK217; clear HB; have HO_8 := n0_; have BK211 := n1_; have BK212 := n2_; have BK213 := n3_; have BK217 := n4_; have HB := n5_; clear n0_ n1_ n2_ n3_ n4_ n5_; (try clear hb); (try clear hb2); (try clear hk); (try clear hi)) | ((with_reducible refine gate_dst (N := 11) rfl ?_); refine bE (N := 11) (cs := #[.int .i64 0, .int .i64 0, .string (⟨#[]⟩ : ByteArray)]) (t := 23) ?_; intro gb222 hg w48 hbox hb; have n0_ := aM (Kd.R_below (Kd.R_elderB (rO HO_8) gb222 (Nat.le_of_eq hg.symm)) hb); have n1_ := aM (blk_below (bO BK211) hb); have n2_ := aM (blk_below (bO BK212) hb); have n3_ := aM (blk_below (bO BK213) hb); have n4_ := aM (blk_below (bO BK217) hb); have n5_ := aM (below_step (lO HB) hb); have n6_ := aM (hbox); have n7_ := aM (gO hg (lO HB)); have n8_ := aM (gO hg (lO HB)); have n9_ := aM (ne_lt hg (bO BK211)); have n10_ := aM (ne_gt hg (bO BK211)); have n11_ := aM (ne_lt hg (bO BK212)); have n12_ := aM (ne_gt hg (bO BK212)); have n13_ := aM (ne_lt hg (bO BK213)); have n14_ := aM (ne_gt hg (bO BK213)); have n15_ := aM (ne_lt hg (bO BK217)); have n16_ := aM (ne_gt hg (bO BK217)); clear HO_8; clear BK211; clear BK212; clear BK213; clear BK217; clear HB; have HO_8 := n0_; have BK211 := n1_; have BK212 := n2_; have BK213 := n3_; have BK217 := n4_; have HB := n5_; have BK222 := n6_; have GW222 := n7_; have GE222 := n8_; have NB211_222 := n9_; have NB222_211 := n10_; have NB212_222 := n11_; have NB222_212 := n12_; have NB213_222 := n13_; have NB222_213 := n14_; have NB217_222 := n15_; have NB222_217 := n16_; clear n0_ n1_ n2_ n3_ n4_ n5_ n6_ n7_ n8_ n9_ n10_ n11_ n12_ n13_ n14_ n15_ n16_; clear hb hbox hg; have hnb49 := NB222_211.out; have hnc49 := NB211_222.out; have hnb50 := NB222_212.out; have hnc50 := NB212_222.out; have hnb51 := NB222_213.out; have hnc51 := NB213_222.out; have hnb52 := NB222_217.out; have hnc52 := NB217_222.out; have C53_0 := c3_0 BK222; have C53_1 := c3_1 BK222; have C53_2 := c3_2 BK222; have F53_0 := fz BK222 0; have F53_1 := fz BK222 1; have F53_2 := fz BK222 2) | ((with_reducible refine gate_builtin (b := .append) (xs := #[.tmp 46, .tmp 48]) rfl ?_); at_builtin; refine Kd.R_append k23 (w0 := w) w.heap.size rfl (.tmp 46) (.tmp 48) 40 23 (.agg #[(.int .i64 0), (.int .i64 0), (.string ⟨#[]⟩)]) 32 rfl Try.underlying40 info23 rfl (by decide) (by omega) u8 x8_1 (⟨t218, t219, t220⟩ : S23) [.int .i64 t218, .int .i64 t219, .string t220] (fun k_ => k_ ≠ gb213 ∧ k_ ≠ gb222) (fun _ => False) rfl (by first | (go_simp; done) | (go_simp; rfl)) ?aP (fun _ hk => hk.elim) ?aF ?aO ?aB ?aS ?aL ?_; (case aP => exact k23_mkM _ _ _ (⟨t218, t219, t220⟩ : S23)); (case aB => exact (lO HB)); (case aF => exact (fun k_ hk => ⟨Kd.freshB (g := gb213) (o := .cells #[.int .i64 x214000_1, .int .i64 x214001_1, .string x214002_1] 23 (0, 0)) (by (with_reducible repeat (first | refine blk_drewN ?_ _ | refine blk_drew ?_ | refine blk_alloc ?_ _)); refine blk_far ?_ NB213_222.out _; (with_reducible repeat (first | refine blk_drewN ?_ _ | refine blk_drew ?_ | refine blk_alloc ?_ _)); refine blk_far ?_ NB213_222.out _; (with_reducible repeat (first | refine blk_drewN ?_ _ | refine blk_drew ?_ | refine blk_alloc ?_ _)); refine blk_far ?_ NB213_222.out _; (with_reducible repeat (first | refine blk_drewN ?_ _ | refine blk_drew ?_ | refine blk_alloc ?_ _)); exact BK213.out) k_ hk, Kd.freshB (g := gb222) (o := .cells #[.int .i64 t218, .int .i64 t219, .string t220] 23 (0, 0)) (by (with_reducible repeat (first | refine blk_drewN ?_ _ | refine blk_drew ?_ | refine blk_alloc ?_ _)); refine blk_put (cs := #[.int .i64 t218, .int .i64 t219, .string (⟨#[]⟩ : ByteArray)]) ?_ 2 _ rfl; (with_reducible repeat (first | refine blk_drewN ?_ _ | refine blk_drew ?_ | refine blk_alloc ?_ _)); refine blk_put (cs := #[.int .i64 t218, .int .i64 0, .string (⟨#[]⟩ : ByteArray)]) ?_ 1 _ rfl; (with_reducible repeat (first | refine blk_drewN ?_ _ | refine blk_drew ?_ | refine blk_alloc ?_ _)); refine blk_put (cs := #[.int .i64 0, .int .i64 0, .string (⟨#[]⟩ : ByteArray)]) ?_ 0 _ rfl; (with_reducible repeat (first | refine blk_drewN ?_ _ | refine blk_drew ?_ | refine blk_alloc ?_ _)); exact BK222.out) k_ hk⟩)); (case aO => exact (by (with_reducible repeat (first | apply Kd.R_alloc | apply Kd.R_drewN | apply Kd.R_drew)); exact Kd.R_mono (Kd.R_far (p := ⟨gb222, 2, none⟩) (Kd.R_far (p := ⟨gb222, 1, none⟩) (Kd.R_far (p := ⟨gb222, 0, none⟩) (Kd.R_mono HO_8.out (fun k_ hk => (⟨hk, hk.2⟩ : _ ∧ k_ ≠ gb222))) (fun _ hk => hk.2) (.int .i64 t218)) (fun _ hk => hk.2) (.int .i64 t219)) (fun _ hk => hk.2) (.string t220)) (fun _ hk => ⟨hk.1.1, hk.1.2⟩))); (case aS => exact (below_size (lO HB))); (case aL => have := LMc38.out; omega); intro v224 w54 ho hb hg hat; rw [← Ny223.out] at ho; have n0_ := aM (blk_grown (g := gb211) (o := .cells #[.string a0_0, .slice A0_1 l0_1.length c0_1, .int .i64 a0_2, .int .i64 a0_3, .int .i64 a0_4, .slice A0_5 l0_5.length c0_5, .slice A0_6 l0_6.length c0_6, .slice A0_7 l0_7.length c0_7, .int .i64 a0_8, .int .i64 a0_9, .int .i64 a0_10] 32 (0, 0)) (by (with_reducible repeat (first | refine blk_drewN ?_ _ | refine blk_drew ?_ | refine blk_alloc ?_ _)); refine blk_far ?_ NB211_222.out _; (with_reducible repeat (first | refine blk_drewN ?_ _ | refine blk_drew ?_ | refine blk_alloc ?_ _)); refine blk_far ?_ NB211_222.out _; (with_reducible repeat (first | refine blk_drewN ?_ _ | refine blk_drew ?_ | refine blk_alloc ?_ _)); refine blk_far ?_ NB211_222.out _; (with_reducible repeat (first | refine blk_drewN ?_ _ | refine blk_drew ?_ | refine blk_alloc ?_ _)); exact BK211.out) hg (Kd.R_ne HO_8.out BK211.out (by decide))); have n1_ := aM (blk_grown (g := gb212) (o := .cells #[.int .i64 a2_0, .string a2_1, .int .i64 a2_2, .int .i64 a2_3, .string a2_4, .slice (some ad216) l2_5.length c2_5] 26 (0, 0)) (by (with_reducible repeat (first | refine blk_drewN ?_ _ | refine blk_drew ?_ | refine blk_alloc ?_ _)); refine blk_far ?_ NB212_222.out _; (with_reducible repeat (first | refine blk_drewN ?_ _ | refine blk_drew ?_ | refine blk_alloc ?_ _)); refine blk_far ?_ NB212_222.out _; (with_reducible repeat (first | refine blk_drewN ?_ _ | refine blk_drew ?_ | refine blk_alloc ?_ _)); refine blk_far ?_ NB212_222.out _; (with_reducible repeat (first | refine blk_drewN ?_ _ | refine blk_drew ?_ | refine blk_alloc ?_ _)); exact BK212.out) hg (Kd.R_ne HO_8.out BK212.out (by decide))); have n2_ := aM (blk_grown (g := gb213) (o := .cells #[.int .i64 x214000_1, .int .i64 x214001_1, .string x214002_1] 23 (0, 0)) (by (with_reducible repeat (first | refine blk_drewN ?_ _ | refine blk_drew ?_ | refine blk_alloc ?_ _)); refine blk_far ?_ NB213_222.out _; (with_reducible repeat (first | refine blk_drewN ?_ _ | refine blk_drew ?_ | refine blk_alloc ?_ _)); refine blk_far ?_ NB213_222.out _; (with_reducible repeat (first | refine blk_drewN ?_ _ | refine blk_drew ?_ | refine blk_alloc ?_ _)); refine blk_far ?_ NB213_222.out _; (with_reducible repeat (first | refine blk_drewN ?_ _ | refine blk_drew ?_ | refine blk_alloc ?_ _)); exact BK213.out) hg (Kd.R_away HO_8.out (fun _ hk => hk.1))); have n3_ := aM (blk_grown (g := gb217) (o := .cells #[.int .i64 ((rd_T26 l2_5 x31_1).f0), .string ((rd_T26 l2_5 x31_1).f1), .int .i64 ((rd_T26 l2_5 x31_1).f2.f0), .int .i64 ((rd_T26 l2_5 x31_1).f2.f1), .string ((rd_T26 l2_5 x31_1).f2.f2), .slice A216_5 ((rd_T26 l2_5 x31_1).f3).length c216_5] 26 (0, 0)) (by (with_reducible repeat (first | refine blk_drewN ?_ _ | refine blk_drew ?_ | refine blk_alloc ?_ _)); refine blk_far ?_ NB217_222.out _; (with_reducible repeat (first | refine blk_drewN ?_ _ | refine blk_drew ?_ | refine blk_alloc ?_ _)); refine blk_far ?_ NB217_222.out _; (with_reducible repeat (first | refine blk_drewN ?_ _ | refine blk_drew ?_ | refine blk_alloc ?_ _)); refine blk_far ?_ NB217_222.out _; (with_reducible repeat (first | refine blk_drewN ?_ _ | refine blk_drew ?_ | refine blk_alloc ?_ _)); exact BK217.out) hg (Kd.R_ne HO_8.out BK217.out (by decide))); have n4_ := aM (blk_grown (g := gb222) (o := .cells #[.int .i64 t218, .int .i64 t219, .string t220] 23 (0, 0)) (by (with_reducible repeat (first | refine blk_drewN ?_ _ | refine blk_drew ?_ | refine blk_alloc ?_ _)); refine blk_put (cs := #[.int .i64 t218, .int .i64 t219, .string (⟨#[]⟩ : ByteArray)]) ?_ 2 _ rfl; (with_reducible repeat (first | refine blk_drewN ?_ _ | refine blk_drew ?_ | refine blk_alloc ?_ _)); refine blk_put (cs := #[.int .i64 t218, .int .i64 0, .string (⟨#[]⟩ : ByteArray)]) ?_ 1 _ rfl; (with_reducible repeat (first | refine blk_drewN ?_ _ | refine blk_drew ?_ | refine blk_alloc ?_ _)); refine blk_put (cs := #[.int .i64 0, .int .i64 0, .string (⟨#[]⟩ : ByteArray)]) ?_ 0 _ rfl; (with_reducible repeat (first | refine blk_drewN ?_ _ | refine blk_drew ?_ | refine blk_alloc ?_ _)); exact BK222.out) hg (Kd.R_away HO_8.out (fun _ hk => hk.2))); have n5_ := aM (hb); have n6_ := aM (ho); clear BK211; clear BK212; clear BK213; clear BK217; clear BK222; clear HB; clear HO_8; have BK211 := n0_; have BK212 := n1_; have BK213 := n2_; have BK217 := n3_; have BK222 := n4_; have HB := n5_; have HO225 := n6_; clear n0_ n1_ n2_ n3_ n4_ n5_ n6_; clear ho hb hg hat))
          go_roundg k1
          case measure => have := HK1.out; omega
          case rel => exact ⟨(y223), (wrap64 (x31_1 + 1)), (x214000_1), (x214001_1), (x214002_1), (by first | rfl | (simp; done) | (simp [*]; done)), H', ⟨by have := HK1.out; omega⟩, ⟨by (with_reducible repeat (first | apply Kd.R_alloc | apply Kd.R_drewN | apply Kd.R_drew)); exact Kd.R_mono HO225.out (fun _ hk => hk.1)⟩, ⟨bO BK211⟩, ⟨bO BK212⟩, ⟨bO BK213⟩, ⟨(lO HB)⟩⟩
         ·rw [if_neg c38] at H
          exact absurd H (by simp)
        ·rw [if_neg c37] at H
         have c37b0 : (t221 == 0) = false := beq_eq_false_iff_ne.mpr c37
         have c37b1 : (t221 != 0) = true := bne_iff_ne.mpr c37
         simp only [Option.some.injEq, Prod.mk.injEq] at H
         obtain ⟨rfl, rfl, rfl, rfl⟩ := H
         have p216 : 0 ≤ (x31_1 : Int) := of_decide_eq_true (by first | (with_reducible assumption) | assumption)
         have q216 : x31_1 < (l2_5.length : Int) := of_decide_eq_true (by first | (with_reducible assumption) | assumption)
         obtain ⟨ad216, A216_5, c216_5, e216, hx216_0, hx216_1, hx216_2, hx216_3, hx216_4, hx216_5, hl216_5, hi216_5⟩ := at_T26 HR2_5.out x31_1 p216 q216
         cases e216
         replace hx216_0 := (HB.out.cell (World.block_lt_of_cell? w _ hx216_0)).trans hx216_0
         replace hx216_1 := (HB.out.cell (World.block_lt_of_cell? w _ hx216_1)).trans hx216_1
         replace hx216_2 := (HB.out.cell (World.block_lt_of_cell? w _ hx216_2)).trans hx216_2
         replace hx216_3 := (HB.out.cell (World.block_lt_of_cell? w _ hx216_3)).trans hx216_3
         replace hx216_4 := (HB.out.cell (World.block_lt_of_cell? w _ hx216_4)).trans hx216_4
         replace hx216_5 := (HB.out.cell (World.block_lt_of_cell? w _ hx216_5)).trans hx216_5
         have HR216_5 := aM hi216_5
         have HC216_5 := aM hl216_5
         clear hi216_5 hl216_5
         replace p216 := eq_true p216
         replace q216 := eq_true q216
         go_wp2_with (first | ((with_reducible refine gate_dst (N := 10) rfl ?_); refine bE (N := 10) (cs := #[.int .i64 0, .string (⟨#[]⟩ : ByteArray), .int .i64 0, .int .i64 0, .string (⟨#[]⟩ : ByteArray), .slice none 0 0]) (t := 26) ?_; intro gb217 hg w55 hbox hb; have n0_ := aM (Kd.R_below (rO HO_8) hb); have n1_ := aM (blk_below (bO BK211) hb); have n2_ := aM (blk_below (bO BK212) hb); have n3_ := aM (blk_below (bO BK213) hb); have n4_ := aM (below_step (lO HB) hb); have n5_ := aM (hbox); have n6_ := aM (gO hg (lO HB)); have n7_ := aM (gO hg (lO HB)); have n8_ := aM (ne_lt hg (bO BK211)); have n9_ := aM (ne_gt hg (bO BK211)); have n10_ := aM (ne_lt hg (bO BK212)); have n11_ := aM (ne_gt hg (bO BK212)); have n12_ := aM (ne_lt hg (bO BK213)); have n13_ := aM (ne_gt hg (bO BK213)); clear HO_8; clear BK211; clear BK212; clear BK213; clear HB; have HO_8 := n0_; have BK211 := n1_; have BK212 := n2_; have BK213 := n3_; have HB := n4_; have BK217 := n5_; have GW217 := n6_; have GE217 := n7_; have NB211_217 := n8_; have NB217_211 := n9_; have NB212_217 := n10_; have NB217_212 := n11_; have NB213_217 := n12_; have NB217_213 := n13_; clear n0_ n1_ n2_ n3_ n4_ n5_ n6_ n7_ n8_ n9_ n10_ n11_ n12_ n13_; clear hb hbox hg; have hnb56 := NB217_211.out; have hnc56 := NB211_217.out; have hnb57 := NB217_212.out; have hnc57 := NB212_217.out; have hnb58 := NB217_213.out; have hnc58 := NB213_217.out; have C59_0 := c6_0 BK217; have C59_1 := c6_1 BK217; have C59_2 := c6_2 BK217; have C59_3 := c6_3 BK217; have C59_4 := c6_4 BK217; have C59_5 := c6_5 BK217; have F59_0 := fz BK217 0; have F59_1 := fz BK217 1; have F59_2 := fz BK217 2; have F59_3 := fz BK217 3; have F59_4 := fz BK217 4; have F59_5 := fz BK217 5; have hnb60 := NB211_212.out; have hnc60 := NB212_211.out; have hnb61 := NB211_213.out; have hnc61 := NB213_211.out; have C62_0 := c11_0 BK211; have C62_1 := c11_1 BK211; have C62_2 := c11_2 BK211; have C62_3 := c11_3 BK211; have C62_4 := c11_4 BK211; have C62_5 := c11_5 BK211; have C62_6 := c11_6 BK211; have C62_7 := c11_7 BK211; have C62_8 := c11_8 BK211; have C62_9 := c11_9 BK211; have C62_10 := c11_10 BK211; have F62_0 := fz BK211 0; have F62_1 := fz BK211 1; have F62_2 := fz BK211 2; have F62_3 := fz BK211 3; have F62_4 := fz BK211 4; have F62_5 := fz BK211 5; have F62_6 := fz BK211 6; have F62_7 := fz BK211 7; have F62_8 := fz BK211 8; have F62_9 := fz BK211 9; have F62_10 := fz BK211 10) | ((with_reducible refine gate_callee (f := 29) rfl ?_); refine gL (some 39) rfl rfl Try.func29 (by kernel_rfl) rfl #[.agg #[.string a0_0, .slice A0_1 l0_1.length c0_1, .int .i64 a0_2, .int .i64 a0_3, .int .i64 a0_4, .slice A0_5 l0_5.length c0_5, .slice A0_6 l0_6.length c0_6, .slice A0_7 l0_7.length c0_7, .int .i64 a0_8, .int .i64 a0_9, .int .i64 a0_10], .slice A1 l1.length c1, .agg #[.int .i64 ((rd_T26 l2_5 x31_1).f0), .string ((rd_T26 l2_5 x31_1).f1), .int .i64 ((rd_T26 l2_5 x31_1).f2.f0), .int .i64 ((rd_T26 l2_5 x31_1).f2.f1), .string ((rd_T26 l2_5 x31_1).f2.f2), .slice A216_5 ((rd_T26 l2_5 x31_1).f3).length c216_5]] rfl ?_; (with_reducible refine (ih k1 (by have := HK1.out; omega) a0_0 _ _ l0_1 a0_2 a0_3 a0_4 _ _ l0_5 _ _ l0_6 _ _ l0_7 a0_8 a0_9 a0_10 _ _ l1 ((rd_T26 l2_5 x31_1).f0) ((rd_T26 l2_5 x31_1).f1) ((rd_T26 l2_5 x31_1).f2.f0) ((rd_T26 l2_5 x31_1).f2.f1) ((rd_T26 l2_5 x31_1).f2.f2) _ _ ((rd_T26 l2_5 x31_1).f3) t218 t219 t220 t221 _ ?side1 ?side2 ?side3 ?side4 ?side5 ?side6 ?side7 ?side8 ?side9 ?side10 ?side11 ?side12 A36.out).mono ?_); (case side1 => exact Kd.C_below HR0_1.out (lO HB)); (case side2 => exact HC0_1.out); (case side3 => exact Kd.C_below HR0_5.out (lO HB)); (case side4 => exact HC0_5.out); (case side5 => exact Kd.C_below HR0_6.out (lO HB)); (case side6 => exact HC0_6.out); (case side7 => exact Kd.C_below HR0_7.out (lO HB)); (case side8 => exact HC0_7.out); (case side9 => exact Kd.C_below HR1.out (lO HB)); (case side10 => exact HC1.out); (case side11 => exact Kd.C_below HR216_5.out (lO HB)); (case side12 => exact HC216_5.out); rintro e w63 ⟨rfl, hb⟩; refine ⟨_, rfl, ?_⟩; have n0_ := aM (Kd.R_below (by (with_reducible repeat (first | apply Kd.R_alloc | apply Kd.R_drewN | apply Kd.R_drew)); exact (Kd.R_mono (Kd.R_far (p := ⟨gb217, 5, none⟩) (Kd.R_far (p := ⟨gb217, 4, none⟩) (Kd.R_far (p := ⟨gb217, 3, none⟩) (Kd.R_far (p := ⟨gb217, 2, none⟩) (Kd.R_far (p := ⟨gb217, 1, none⟩) (Kd.R_far (p := ⟨gb217, 0, none⟩) (Kd.R_types HO_8.out BK217.out (by decide)) (fun _ hk => hk.2) (.int .i64 ((rd_T26 l2_5 x31_1).f0))) (fun _ hk => hk.2) (.string ((rd_T26 l2_5 x31_1).f1))) (fun _ hk => hk.2) (.int .i64 ((rd_T26 l2_5 x31_1).f2.f0))) (fun _ hk => hk.2) (.int .i64 ((rd_T26 l2_5 x31_1).f2.f1))) (fun _ hk => hk.2) (.string ((rd_T26 l2_5 x31_1).f2.f2))) (fun _ hk => hk.2) (.slice A216_5 ((rd_T26 l2_5 x31_1).f3).length c216_5)) (fun _ h_ => h_.1))) hb); have n1_ := aM (blk_below (g := gb211) (o := .cells #[.string a0_0, .slice A0_1 l0_1.length c0_1, .int .i64 a0_2, .int .i64 a0_3, .int .i64 a0_4, .slice A0_5 l0_5.length c0_5, .slice A0_6 l0_6.length c0_6, .slice A0_7 l0_7.length c0_7, .int .i64 a0_8, .int .i64 a0_9, .int .i64 a0_10] 32 (0, 0)) (by (with_reducible repeat (first | refine blk_drewN ?_ _ | refine blk_drew ?_ | refine blk_alloc ?_ _)); refine blk_far ?_ NB211_217.out _; (with_reducible repeat (first | refine blk_drewN ?_ _ | refine blk_drew ?_ | refine blk_alloc ?_ _)); refine blk_far ?_ NB211_217.out _; (with_reducible repeat (first | refine blk_drewN ?_ _ | refine blk_drew ?_ | refine blk_alloc ?_ _)); refine blk_far ?_ NB211_217.out _; (with_reducible repeat (first | refine blk_drewN ?_ _ | refine blk_drew ?_ | refine blk_alloc ?_ _)); refine blk_far ?_ NB211_217.out _; (with_reducible repeat (first | refine blk_drewN ?_ _ | refine blk_drew ?_ | refine blk_alloc ?_ _)); refine blk_far ?_ NB211_217.out _; (with_reducible repeat (first | refine blk_drewN ?_ _ | refine blk_drew ?_ | refine blk_alloc ?_ _)); refine blk_far ?_ NB211_217.out _; (with_reducible repeat (first | refine blk_drewN ?_ _ | refine blk_drew ?_ | refine blk_alloc ?_ _)); exact BK211.out) hb); have n2_ := aM (blk_below (g := gb212) (o := .cells #[.int .i64 a2_0, .string a2_1, .int .i64 a2_2, .int .i64 a2_3, .string a2_4, .slice (some ad216) l2_5.length c2_5] 26 (0, 0)) (by (with_reducible repeat (first | refine blk_drewN ?_ _ | refine blk_drew ?_ | refine blk_alloc ?_ _)); refine blk_far ?_ NB212_217.out _; (with_reducible repeat (first | refine blk_drewN ?_ _ | refine blk_drew ?_ | refine blk_alloc ?_ _)); refine blk_far ?_ NB212_217.out _; (with_reducible repeat (first | refine blk_drewN ?_ _ | refine blk_drew ?_ | refine blk_alloc ?_ _)); refine blk_far ?_ NB212_217.out _; (with_reducible repeat (first | refine blk_drewN ?_ _ | refine blk_drew ?_ | refine blk_alloc ?_ _)); refine blk_far ?_ NB212_217.out _; (with_reducible repeat (first | refine blk_drewN ?_ _ | refine blk_drew ?_ | refine blk_alloc ?_ _)); refine blk_far ?_ NB212_217.out _; (with_reducible repeat (first | refine blk_drewN ?_ _ | refine blk_drew ?_ | refine blk_alloc ?_ _)); refine blk_far ?_ NB212_217.out _; (with_reducible repeat (first | refine blk_drewN ?_ _ | refine blk_drew ?_ | refine blk_alloc ?_ _)); exact BK212.out) hb); have n3_ := aM (blk_below (g := gb213) (o := .cells #[.int .i64 x214000_1, .int .i64 x214001_1, .string x214002_1] 23 (0, 0)) (by (with_reducible repeat (first | refine blk_drewN ?_ _ | refine blk_drew ?_ | refine blk_alloc ?_ _)); refine blk_far ?_ NB213_217.out _; (with_reducible repeat (first | refine blk_drewN ?_ _ | refine blk_drew ?_ | refine blk_alloc ?_ _)); refine blk_far ?_ NB213_217.out _; (with_reducible repeat (first | refine blk_drewN ?_ _ | refine blk_drew ?_ | refine blk_alloc ?_ _)); refine blk_far ?_ NB213_217.out _; (with_reducible repeat (first | refine blk_drewN ?_ _ | refine blk_drew ?_ | refine blk_alloc ?_ _)); refine blk_far ?_ NB213_217.out _; (with_reducible repeat (first | refine blk_drewN ?_ _ | refine blk_drew ?_ | refine blk_alloc ?_ _)); refine blk_far ?_ NB213_217.out _; (with_reducible repeat (first | refine blk_drewN ?_ _ | refine blk_drew ?_ | refine blk_alloc ?_ _)); refine blk_far ?_ NB213_217.out _; (with_reducible repeat (first | refine blk_drewN ?_ _ | refine blk_drew ?_ | refine blk_alloc ?_ _)); exact BK213.out) hb); have n4_ := aM (blk_below (g := gb217) (o := .cells #[.int .i64 ((rd_T26 l2_5 x31_1).f0), .string ((rd_T26 l2_5 x31_1).f1), .int .i64 ((rd_T26 l2_5 x31_1).f2.f0), .int .i64 ((rd_T26 l2_5 x31_1).f2.f1), .string ((rd_T26 l2_5 x31_1).f2.f2), .slice A216_5 ((rd_T26 l2_5 x31_1).f3).length c216_5] 26 (0, 0)) (by (with_reducible repeat (first | refine blk_drewN ?_ _ | refine blk_drew ?_ | refine blk_alloc ?_ _)); refine blk_put (cs := #[.int .i64 ((rd_T26 l2_5 x31_1).f0), .string ((rd_T26 l2_5 x31_1).f1), .int .i64 ((rd_T26 l2_5 x31_1).f2.f0), .int .i64 ((rd_T26 l2_5 x31_1).f2.f1), .string ((rd_T26 l2_5 x31_1).f2.f2), .slice none 0 0]) ?_ 5 _ rfl; (with_reducible repeat (first | refine blk_drewN ?_ _ | refine blk_drew ?_ | refine blk_alloc ?_ _)); refine blk_put (cs := #[.int .i64 ((rd_T26 l2_5 x31_1).f0), .string ((rd_T26 l2_5 x31_1).f1), .int .i64 ((rd_T26 l2_5 x31_1).f2.f0), .int .i64 ((rd_T26 l2_5 x31_1).f2.f1), .string (⟨#[]⟩ : ByteArray), .slice none 0 0]) ?_ 4 _ rfl; (with_reducible repeat (first | refine blk_drewN ?_ _ | refine blk_drew ?_ | refine blk_alloc ?_ _)); refine blk_put (cs := #[.int .i64 ((rd_T26 l2_5 x31_1).f0), .string ((rd_T26 l2_5 x31_1).f1), .int .i64 ((rd_T26 l2_5 x31_1).f2.f0), .int .i64 0, .string (⟨#[]⟩ : ByteArray), .slice none 0 0]) ?_ 3 _ rfl; (with_reducible repeat (first | refine blk_drewN ?_ _ | refine blk_drew ?_ | refine blk_alloc ?_ _)); refine blk_put (cs := #[.int .i64 ((rd_T26 l2_5 x31_1).f0), .string ((rd_T26 l2_5 x31_1).f1), .int .i64 0, .int .i64 0, .string (⟨#[]⟩ : ByteArray), .slice none 0 0]) ?_ 2 _ rfl; (with_reducible repeat (first | refine blk_drewN ?_ _ | refine blk_drew ?_ | refine blk_alloc ?_ _)); refine blk_put (cs := #[.int .i64 ((rd_T26 l2_5 x31_1).f0), .string (⟨#[]⟩ : ByteArray), .int .i64 0, .int .i64 0, .string (⟨#[]⟩ : ByteArray), .slice none 0 0]) ?_ 1 _ rfl; (with_reducible repeat (first | refine blk_drewN ?_ _ | refine blk_drew ?_ | refine blk_alloc ?_ _)); refine blk_put (cs := #[.int .i64 0, .string (⟨#[]⟩ : ByteArray), .int .i64 0, .int .i64 0, .string (⟨#[]⟩ : ByteArray), .slice none 0 0]) ?_ 0 _ rfl; (with_reducible repeat (first | refine blk_drewN ?_ _ | refine blk_drew ?_ | refine blk_alloc ?_ _)); exact BK217.out) hb); have n5_ := aM (below_step (lO HB) hb); clear HO_8; clear BK211; clear BK212; clear BK213; clear BK217; clear HB; have HO_8 := n0_; have BK211 := n1_; have BK212 := n2_; have BK213 := n3_; have BK217 := n4_; have HB := n5_; clear n0_ n1_ n2_ n3_ n4_ n5_; (try clear hb); (try clear hb2); (try clear hk); (try clear hi)) | ((with_reducible refine gate_dst (N := 11) rfl ?_); refine bE (N := 11) (cs := #[.int .i64 0, .int .i64 0, .string (⟨#[]⟩ : ByteArray)]) (t := 23) ?_; intro gb222 hg w64 hbox hb; have n0_ := aM (Kd.R_below (Kd.R_elderB (rO HO_8) gb222 (Nat.le_of_eq hg.symm)) hb); have n1_ := aM (blk_below (bO BK211) hb); have n2_ := aM (blk_below (bO BK212) hb); have n3_ := aM (blk_below (bO BK213) hb); have n4_ := aM (blk_below (bO BK217) hb); have n5_ := aM (below_step (lO HB) hb); have n6_ := aM (hbox); have n7_ := aM (gO hg (lO HB)); have n8_ := aM (gO hg (lO HB)); have n9_ := aM (ne_lt hg (bO BK211)); have n10_ := aM (ne_gt hg (bO BK211)); have n11_ := aM (ne_lt hg (bO BK212)); have n12_ := aM (ne_gt hg (bO BK212)); have n13_ := aM (ne_lt hg (bO BK213)); have n14_ := aM (ne_gt hg (bO BK213)); have n15_ := aM (ne_lt hg (bO BK217)); have n16_ := aM (ne_gt hg (bO BK217)); clear HO_8; clear BK211; clear BK212; clear BK213; clear BK217; clear HB; have HO_8 := n0_; have BK211 := n1_; have BK212 := n2_; have BK213 := n3_; have BK217 := n4_; have HB := n5_; have BK222 := n6_; have GW222 := n7_; have GE222 := n8_; have NB211_222 := n9_; have NB222_211 := n10_; have NB212_222 := n11_; have NB222_212 := n12_; have NB213_222 := n13_; have NB222_213 := n14_; have NB217_222 := n15_; have NB222_217 := n16_; clear n0_ n1_ n2_ n3_ n4_ n5_ n6_ n7_ n8_ n9_ n10_ n11_ n12_ n13_ n14_ n15_ n16_; clear hb hbox hg; have hnb65 := NB222_211.out; have hnc65 := NB211_222.out; have hnb66 := NB222_212.out; have hnc66 := NB212_222.out; have hnb67 := NB222_213.out; have hnc67 := NB213_222.out; have hnb68 := NB222_217.out; have hnc68 := NB217_222.out; have C69_0 := c3_0 BK222; have C69_1 := c3_1 BK222; have C69_2 := c3_2 BK222; have F69_0 := fz BK222 0; have F69_1 := fz BK222 1; have F69_2 := fz BK222 2; have hnb70 := NB213_212.out; have hnc70 := NB212_213.out; have C71_0 := c3_0 BK213; have C71_1 := c3_1 BK213; have C71_2 := c3_2 BK213; have F71_0 := fz BK213 0; have F71_1 := fz BK213 1; have F71_2 := fz BK213 2))
         refine bodyPost_ret (results_ct rfl _ _ gb213 23 #[.int .i64 0, .int .i64 0, .string (⟨#[]⟩ : ByteArray)] (0, 0) _ rfl (by (with_reducible repeat (first | refine blk_drewN ?_ _ | refine blk_drew ?_ | refine blk_alloc ?_ _)); refine blk_put (cs := #[.int .i64 0, .int .i64 0, .string x214002_1]) ?_ 2 _ rfl; (with_reducible repeat (first | refine blk_drewN ?_ _ | refine blk_drew ?_ | refine blk_alloc ?_ _)); refine blk_put (cs := #[.int .i64 0, .int .i64 x214001_1, .string x214002_1]) ?_ 1 _ rfl; (with_reducible repeat (first | refine blk_drewN ?_ _ | refine blk_drew ?_ | refine blk_alloc ?_ _)); refine blk_put (cs := #[.int .i64 x214000_1, .int .i64 x214001_1, .string x214002_1]) ?_ 0 _ rfl; (with_reducible repeat (first | refine blk_drewN ?_ _ | refine blk_drew ?_ | refine blk_alloc ?_ _)); refine blk_far ?_ NB213_222.out _; (with_reducible repeat (first | refine blk_drewN ?_ _ | refine blk_drew ?_ | refine blk_alloc ?_ _)); refine blk_far ?_ NB213_222.out _; (with_reducible repeat (first | refine blk_drewN ?_ _ | refine blk_drew ?_ | refine blk_alloc ?_ _)); refine blk_far ?_ NB213_222.out _; (with_reducible repeat (first | refine blk_drewN ?_ _ | refine blk_drew ?_ | refine blk_alloc ?_ _)); exact BK213.out) Try.underlying23 rfl (by kernel_rfl)) rfl ?_
         exact ⟨by first | rfl | (simp [errW_none, errW_some] <;> rfl) | (simp [*, errW_none, errW_some] <;> rfl), (lO HB)⟩
       ·rw [if_neg c35] at H
        exact absurd H (by simp)
      ·rw [if_neg c34] at H
       exact absurd H (by simp)
     ·rw [if_neg c33] at H
      have c33b0 : decide (x31_1 < (l2_5.length : Int)) = false := decide_eq_false c33
      clear c33
      replace H := Option.bind_eq_some_iff.mp H
      obtain ⟨⟨t226, t227, t228, t229⟩, A720, H⟩ := H
      replace H : (some (t226, t227, t228, t229)) = some (r1, r2, r3, r4) := H
      have A72 := aM A720
      clear A720
      simp only [Option.some.injEq, Prod.mk.injEq] at H
      obtain ⟨rfl, rfl, rfl, rfl⟩ := H
      have hnb73 := NB212_211.out
      have hnc73 := NB211_212.out
      have hnb74 := NB212_213.out
      have hnc74 := NB213_212.out
      have C75_0 := c6_0 BK212
      have C75_1 := c6_1 BK212
      have C75_2 := c6_2 BK212
      have C75_3 := c6_3 BK212
      have C75_4 := c6_4 BK212
      have C75_5 := c6_5 BK212
      have F75_0 := fz BK212 0
      have F75_1 := fz BK212 1
      have F75_2 := fz BK212 2
      have F75_3 := fz BK212 3
      have F75_4 := fz BK212 4
      have F75_5 := fz BK212 5
      obtain ⟨Ao76, co76, eo76⟩ := Kd.R_slice HO_8.out
      subst eo76
      go_wp2_with (first | ((with_reducible refine gate_callee (f := 38) rfl ?_); refine gL (some 54) rfl rfl Try.func38 (by kernel_rfl) rfl #[.string a2_1, .slice Ao76 x8_1.length co76] rfl ?_; (with_reducible refine (expr_does.calls k1 a2_1 _ _ x8_1 t226 t227 t228 t229 _ ?side1 ?side2 A72.out).mono ?_); (case side1 => exact cO (Kd.R_reads' HO_8.out).2.2); (case side2 => exact (Kd.R_reads' HO_8.out).2.1); rintro e w77 ⟨rfl, hb⟩; refine ⟨_, rfl, ?_⟩; have n0_ := aM (Kd.R_below (rO HO_8) hb); have n1_ := aM (blk_below (bO BK211) hb); have n2_ := aM (blk_below (bO BK212) hb); have n3_ := aM (blk_below (bO BK213) hb); have n4_ := aM (below_step (lO HB) hb); clear HO_8; clear BK211; clear BK212; clear BK213; clear HB; have HO_8 := n0_; have BK211 := n1_; have BK212 := n2_; have BK213 := n3_; have HB := n4_; clear n0_ n1_ n2_ n3_ n4_; (try clear hb); (try clear hb2); (try clear hk); (try clear hi); have hnb78 := NB213_211.out; have hnc78 := NB211_213.out; have C79_0 := c3_0 BK213; have C79_1 := c3_1 BK213; have C79_2 := c3_2 BK213; have F79_0 := fz BK213 0; have F79_1 := fz BK213 1; have F79_2 := fz BK213 2))
      refine bodyPost_ret (results_ct rfl _ _ gb213 23 #[.int .i64 t226, .int .i64 t227, .string t228] (0, 0) _ rfl (by (with_reducible repeat (first | refine blk_drewN ?_ _ | refine blk_drew ?_ | refine blk_alloc ?_ _)); refine blk_put (cs := #[.int .i64 t226, .int .i64 t227, .string x214002_1]) ?_ 2 _ rfl; (with_reducible repeat (first | refine blk_drewN ?_ _ | refine blk_drew ?_ | refine blk_alloc ?_ _)); refine blk_put (cs := #[.int .i64 t226, .int .i64 x214001_1, .string x214002_1]) ?_ 1 _ rfl; (with_reducible repeat (first | refine blk_drewN ?_ _ | refine blk_drew ?_ | refine blk_alloc ?_ _)); refine blk_put (cs := #[.int .i64 x214000_1, .int .i64 x214001_1, .string x214002_1]) ?_ 0 _ rfl; (with_reducible repeat (first | refine blk_drewN ?_ _ | refine blk_drew ?_ | refine blk_alloc ?_ _)); exact BK213.out) Try.underlying23 rfl (by kernel_rfl)) rfl ?_
      exact ⟨by first | rfl | (simp [errW_none, errW_some] <;> rfl) | (simp [*, errW_none, errW_some] <;> rfl), (lO HB)⟩

end Go.Proofs.Ytpmecpmankpcbaa.PK
