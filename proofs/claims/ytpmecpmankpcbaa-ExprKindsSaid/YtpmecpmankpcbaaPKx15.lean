/- Go functions of the program as plain functions, and that each call comes to them. Written by a program of this session (hprint.py) on the kit's print. No conditions. -/
import Derived.Test.YtpmecpmankpcbaaPKx0
import Derived.Test.YtpmecpmankpcbaaPKx4
import Derived.Test.YtpmecpmankpcbaaPKx9
import Derived.Test.YtpmecpmankpcbaaPKx14
import Derived.Test.YtpmecpmankpcbaaSq
namespace Go.Proofs.Ytpmecpmankpcbaa.PK
open Go.RowKit Go.Proofs.YtpmecpmankpcbaaW.PrintWords Go.Proofs.YtpmecpmankpcbaaW.PrintLast Go.Proofs.YtpmecpmankpcbaaW.PrintMore Go.Proofs.Ytpmecpmankpcbaa.Sq
set_option linter.unusedVariables false
set_option linter.unusedSimpArgs false

/-! ### expr_Eval: function 15 -/
def expr_Eval.l0 : Nat → List (S23) → List (S23) → Int → Int → ByteArray → List (S57) → Int → Int → Int → List Int → List Int → List Int → Int → Int → Int → Int → ByteArray → Int → Int → ByteArray → List (S26) → Option (Int × Int × ByteArray × Int)
 | 0, _, _, _, _, _, _, _, _, _, _, _, _, _, _, _, _, _, _, _, _, _ => none
 | k + 1, x1, x29, x30, x31, x231000, x231001, x231002, x231003, x231004, x231005, x231006, x231007, x231008, x231009, x231010, x232000, x232001, x232002, x232003, x232004, x232005 => if x31 < x30 then (if 0 ≤ x31 then (if x31 < (x29.length : Int) then ((value_May.f ((rd_T23 x29 x31).f0) ((rd_T23 x29 x31).f1) ((rd_T23 x29 x31).f2)).bind fun t237 => (if t237 = true then (if x31 < (x231001.length : Int) then (if ((rd_T23 x29 x31).f0) = ((rd_T57 x231001 x31).f1) then (expr_Eval.l0 k x1 x29 x30 (wrap64 (x31 + 1)) x231000 x231001 x231002 x231003 x231004 x231005 x231006 x231007 x231008 x231009 x231010 x232000 x232001 x232002 x232003 x232004 x232005) else (if ((rd_T23 x29 x31).f0) = 0 then (expr_Eval.l0 k x1 x29 x30 (wrap64 (x31 + 1)) x231000 x231001 x231002 x231003 x231004 x231005 x231006 x231007 x231008 x231009 x231010 x232000 x232001 x232002 x232003 x232004 x232005) else (some (0, 0, (⟨#[]⟩ : ByteArray), 9)))) else (none)) else (some (0, 0, (⟨#[]⟩ : ByteArray), 9)))) else (none)) else (none)) else ((expr_eval.f k x231000 x231001 x231002 x231003 x231004 x231005 x231006 x231007 x231008 x231009 x231010 x1 x232000 x232001 x232002 x232003 x232004 x232005).bind fun bt239 => (some (bt239.1, bt239.2.1, bt239.2.2.1, bt239.2.2.2)))
def expr_Eval.f (k : Nat) (a0_0 : ByteArray) (l0_1 : List (S57)) (a0_2 : Int) (a0_3 : Int) (a0_4 : Int) (l0_5 : List Int) (l0_6 : List Int) (l0_7 : List Int) (a0_8 : Int) (a0_9 : Int) (a0_10 : Int) (l1 : List (S23)) (a2_0 : Int) (a2_1 : ByteArray) (a2_2 : Int) (a2_3 : Int) (a2_4 : ByteArray) (l2_5 : List (S26)) : Option (Int × Int × ByteArray × Int) := (expr_Type.f k a0_0 l0_1 a0_2 a0_3 a0_4 l0_5 l0_6 l0_7 a0_8 a0_9 a0_10 a2_0 a2_1 a2_2 a2_3 a2_4 l2_5).bind fun bt233 => (if bt233.2 = 0 then (if (l1.length : Int) = (l0_1.length : Int) then (expr_Eval.l0 k l1 l1 (l1.length : Int) 0 a0_0 l0_1 a0_2 a0_3 a0_4 l0_5 l0_6 l0_7 a0_8 a0_9 a0_10 a2_0 a2_1 a2_2 a2_3 a2_4 l2_5) else (some (0, 0, (⟨#[]⟩ : ByteArray), 9))) else (some (0, 0, (⟨#[]⟩ : ByteArray), bt233.2)))
theorem expr_Eval.mono_l : ∀ k, (∀ y0 y1 y2 y3 y4 y5 y6 y7 y8 y9 y10 y11 y12 y13 y14 y15 y16 y17 y18 y19 y20, LeO (expr_Eval.l0 k y0 y1 y2 y3 y4 y5 y6 y7 y8 y9 y10 y11 y12 y13 y14 y15 y16 y17 y18 y19 y20) (expr_Eval.l0 (k + 1) y0 y1 y2 y3 y4 y5 y6 y7 y8 y9 y10 y11 y12 y13 y14 y15 y16 y17 y18 y19 y20))
 | 0 => fun _ _ _ _ _ _ _ _ _ _ _ _ _ _ _ _ _ _ _ _ _ r h => by simp [expr_Eval.l0] at h
 | k + 1 => by
  have ih0 := expr_Eval.mono_l k
  ·intro y0 y1 y2 y3 y4 y5 y6 y7 y8 y9 y10 y11 y12 y13 y14 y15 y16 y17 y18 y19 y20
   unfold expr_Eval.l0
   repeat' first
   | (with_reducible exact ih0 _ _ _ _ _ _ _ _ _ _ _ _ _ _ _ _ _ _ _ _ _)
   | (with_reducible exact expr_Type.mono _ _ _ _ _ _ _ _ _ _ _ _ _ _ _ _ _ _)
   | (with_reducible exact expr_eval.mono _ _ _ _ _ _ _ _ _ _ _ _ _ _ _ _ _ _ _)
   | (with_reducible exact LeO.refl _)
   | (with_reducible exact LeO.none _)
   | (with_reducible refine LeO.ite ?_ ?_)
   | (with_reducible refine LeO.bind ?_ (fun _ => ?_))
   | exact ih0 _ _ _ _ _ _ _ _ _ _ _ _ _ _ _ _ _ _ _ _ _
   | exact expr_Type.mono _ _ _ _ _ _ _ _ _ _ _ _ _ _ _ _ _ _
   | exact expr_eval.mono _ _ _ _ _ _ _ _ _ _ _ _ _ _ _ _ _ _ _
   | exact LeO.none _
   | refine LeO.ite ?_ ?_
   | refine LeO.bind ?_ (fun _ => ?_)
theorem expr_Eval.mono : ∀ a0 a1 a2 a3 a4 a5 a6 a7 a8 a9 a10 a11 a12 a13 a14 a15 a16 a17 k, LeO (expr_Eval.f k a0 a1 a2 a3 a4 a5 a6 a7 a8 a9 a10 a11 a12 a13 a14 a15 a16 a17) (expr_Eval.f (k + 1) a0 a1 a2 a3 a4 a5 a6 a7 a8 a9 a10 a11 a12 a13 a14 a15 a16 a17) := by
 intro a0 a1 a2 a3 a4 a5 a6 a7 a8 a9 a10 a11 a12 a13 a14 a15 a16 a17 k
 have ih0 := expr_Eval.mono_l k
 unfold expr_Eval.f
 repeat' first
   | (with_reducible exact ih0 _ _ _ _ _ _ _ _ _ _ _ _ _ _ _ _ _ _ _ _ _)
   | (with_reducible exact expr_Type.mono _ _ _ _ _ _ _ _ _ _ _ _ _ _ _ _ _ _)
   | (with_reducible exact expr_eval.mono _ _ _ _ _ _ _ _ _ _ _ _ _ _ _ _ _ _ _)
   | (with_reducible exact LeO.refl _)
   | (with_reducible exact LeO.none _)
   | (with_reducible refine LeO.ite ?_ ?_)
   | (with_reducible refine LeO.bind ?_ (fun _ => ?_))
   | exact ih0 _ _ _ _ _ _ _ _ _ _ _ _ _ _ _ _ _ _ _ _ _
   | exact expr_Type.mono _ _ _ _ _ _ _ _ _ _ _ _ _ _ _ _ _ _
   | exact expr_eval.mono _ _ _ _ _ _ _ _ _ _ _ _ _ _ _ _ _ _ _
   | exact LeO.none _
   | refine LeO.ite ?_ ?_
   | refine LeO.bind ?_ (fun _ => ?_)
def expr_Eval.T9 : Bool × List (List Nat × List Nat) := (true, [([], []), ([0], [0]), ([1], [1]), ([2, 1], [2]), ([3], [3]), ([4, 3], [3, 4]), ([3], [3]), ([6, 3], [3, 6]), ([3], [3]), ([7, 8, 3], [3, 7, 8]), ([9, 3], [3, 9]), ([10, 3], [3, 10]), ([5, 11, 3], [3, 5, 11]), ([12, 3, 3], [3, 12]), ([13], [13]), ([14, 13], [13, 14]), ([15, 13], [13, 15]), ([13, 16, 3], [3, 13, 16]), ([3, 17], [3, 17])])
def expr_Eval.B9 : List Nat := [0, 1, 3, 7, 15, 31, 15, 79, 15, 463, 975, 1999, 4095, 8191, 16383, 32767, 65535, 131071, 262143]
theorem expr_Eval.tab9 : rtab .any (opsOf Try.f15 9) = expr_Eval.T9 := by kernel_rfl
theorem expr_Eval.bits9 : waitsOk expr_Eval.T9.2 expr_Eval.B9 = true := by kernel_rfl
set_option maxHeartbeats 8000000 in
set_option maxRecDepth 100000 in
theorem expr_Eval.calls (k : Nat) (a0_0 : ByteArray) (A0_1 : Option Addr) (c0_1 : Nat) (l0_1 : List (S57)) (a0_2 : Int) (a0_3 : Int) (a0_4 : Int) (A0_5 : Option Addr) (c0_5 : Nat) (l0_5 : List Int) (A0_6 : Option Addr) (c0_6 : Nat) (l0_6 : List Int) (A0_7 : Option Addr) (c0_7 : Nat) (l0_7 : List Int) (a0_8 : Int) (a0_9 : Int) (a0_10 : Int) (A1 : Option Addr) (c1 : Nat) (l1 : List (S23)) (a2_0 : Int) (a2_1 : ByteArray) (a2_2 : Int) (a2_3 : Int) (a2_4 : ByteArray) (A2_5 : Option Addr) (c2_5 : Nat) (l2_5 : List (S26)) (r1 : Int) (r2 : Int) (r3 : ByteArray) (r4 : Int) (w : World) (hr0_1 : Kd.C k57 w A0_1 l0_1.length l0_1) (hc0_1 : l0_1.length ≤ c0_1) (hr0_5 : Kd.C (Kd.int .i64) w A0_5 l0_5.length l0_5) (hc0_5 : l0_5.length ≤ c0_5) (hr0_6 : Kd.C (Kd.int .i64) w A0_6 l0_6.length l0_6) (hc0_6 : l0_6.length ≤ c0_6) (hr0_7 : Kd.C (Kd.int .i64) w A0_7 l0_7.length l0_7) (hc0_7 : l0_7.length ≤ c0_7) (hr1 : Kd.C k23 w A1 l1.length l1) (hc1 : l1.length ≤ c1) (hr2_5 : Kd.C k26 w A2_5 l2_5.length l2_5) (hc2_5 : l2_5.length ≤ c2_5) (h : expr_Eval.f k a0_0 l0_1 a0_2 a0_3 a0_4 l0_5 l0_6 l0_7 a0_8 a0_9 a0_10 l1 a2_0 a2_1 a2_2 a2_3 a2_4 l2_5 = some (r1, r2, r3, r4)) :
  Calls Try.prog 15 #[.agg #[.string a0_0, .slice A0_1 l0_1.length c0_1, .int .i64 a0_2, .int .i64 a0_3, .int .i64 a0_4, .slice A0_5 l0_5.length c0_5, .slice A0_6 l0_6.length c0_6, .slice A0_7 l0_7.length c0_7, .int .i64 a0_8, .int .i64 a0_9, .int .i64 a0_10], .slice A1 l1.length c1, .agg #[.int .i64 a2_0, .string a2_1, .int .i64 a2_2, .int .i64 a2_3, .string a2_4, .slice A2_5 l2_5.length c2_5]] w fun e w' => e = .returned (.tuple #[.agg #[.int .i64 r1, .int .i64 r2, .string r3], .int .i64 r4]) ∧ Below w.heap.size w w' := by
 have hu32 := Try.underlying32
 have hu26 := Try.underlying26
 have hu23 := Try.underlying23
 have HR0_1 := aM hr0_1
 have HC0_1 := aM hc0_1
 clear hr0_1 hc0_1
 have HR0_5 := aM hr0_5
 have HC0_5 := aM hc0_5
 clear hr0_5 hc0_5
 have HR0_6 := aM hr0_6
 have HC0_6 := aM hc0_6
 clear hr0_6 hc0_6
 have HR0_7 := aM hr0_7
 have HC0_7 := aM hc0_7
 clear hr0_7 hc0_7
 have HR1 := aM hr1
 have HC1 := aM hc1
 clear hr1 hc1
 have HR2_5 := aM hr2_5
 have HC2_5 := aM hc2_5
 clear hr2_5 hc2_5
 have HB := aM (Below.refl w.heap.size w)
 have H : ((expr_Type.f k a0_0 l0_1 a0_2 a0_3 a0_4 l0_5 l0_6 l0_7 a0_8 a0_9 a0_10 a2_0 a2_1 a2_2 a2_3 a2_4 l2_5).bind fun bt233 => (if bt233.2 = 0 then (if (l1.length : Int) = (l0_1.length : Int) then (expr_Eval.l0 k l1 l1 (l1.length : Int) 0 a0_0 l0_1 a0_2 a0_3 a0_4 l0_5 l0_6 l0_7 a0_8 a0_9 a0_10 a2_0 a2_1 a2_2 a2_3 a2_4 l2_5) else (some (0, 0, (⟨#[]⟩ : ByteArray), 9))) else (some (0, 0, (⟨#[]⟩ : ByteArray), bt233.2)))) = some (r1, r2, r3, r4) := h
 clear h
 replace H := Option.bind_eq_some_iff.mp H
 obtain ⟨⟨t233, t234⟩, A40, H⟩ := H
 replace H : (if t234 = 0 then (if (l1.length : Int) = (l0_1.length : Int) then (expr_Eval.l0 k l1 l1 (l1.length : Int) 0 a0_0 l0_1 a0_2 a0_3 a0_4 l0_5 l0_6 l0_7 a0_8 a0_9 a0_10 a2_0 a2_1 a2_2 a2_3 a2_4 l2_5) else (some (0, 0, (⟨#[]⟩ : ByteArray), 9))) else (some (0, 0, (⟨#[]⟩ : ByteArray), t234))) = some (r1, r2, r3, r4) := H
 have A4 := aM A40
 clear A40
 by_cases c5 : t234 = 0
 ·rw [if_pos c5] at H
  have c5b0 : (t234 == 0) = true := beq_iff_eq.mpr c5
  have c5b1 : (t234 != 0) = false := bne_eq_false_iff_eq.mpr c5
  clear c5
  by_cases c6 : (l1.length : Int) = (l0_1.length : Int)
  ·rw [if_pos c6] at H
   have c6b0 : ((l1.length : Int) == (l0_1.length : Int)) = true := beq_iff_eq.mpr c6
   have c6b1 : ((l1.length : Int) != (l0_1.length : Int)) = false := bne_eq_false_iff_eq.mpr c6
   have c6b2 : (l1.length == l0_1.length) = true := by first | simpa using c6 | (simp at c6 ⊢; omega)
   clear c6
   have H' := aM H
   clear H
   go_enter Try.func15, Try.ntmps15
   go_wp2_with (first | ((with_reducible refine gate_dst (N := 3) rfl ?_); refine bE (N := 3) (cs := #[.string a0_0, .slice A0_1 l0_1.length c0_1, .int .i64 a0_2, .int .i64 a0_3, .int .i64 a0_4, .slice A0_5 l0_5.length c0_5, .slice A0_6 l0_6.length c0_6, .slice A0_7 l0_7.length c0_7, .int .i64 a0_8, .int .i64 a0_9, .int .i64 a0_10]) (t := 32) ?_; intro gb230 hg w7 hbox hb; have n0_ := aM (below_step (lO HB) hb); have n1_ := aM (hbox); have n2_ := aM (gO hg (lO HB)); have n3_ := aM (gO hg (lO HB)); clear HB; have HB := n0_; have BK230 := n1_; have GW230 := n2_; have GE230 := n3_; clear n0_ n1_ n2_ n3_; clear hb hbox hg) | ((with_reducible refine gate_dst (N := 5) rfl ?_); refine bE (N := 5) (cs := #[.int .i64 a2_0, .string a2_1, .int .i64 a2_2, .int .i64 a2_3, .string a2_4, .slice A2_5 l2_5.length c2_5]) (t := 26) ?_; intro gb231 hg w8 hbox hb; have n0_ := aM (blk_below (bO BK230) hb); have n1_ := aM (below_step (lO HB) hb); have n2_ := aM (hbox); have n3_ := aM (gO hg (lO HB)); have n4_ := aM (gO hg (lO HB)); have n5_ := aM (ne_lt hg (bO BK230)); have n6_ := aM (ne_gt hg (bO BK230)); clear BK230; clear HB; have BK230 := n0_; have HB := n1_; have BK231 := n2_; have GW231 := n3_; have GE231 := n4_; have NB230_231 := n5_; have NB231_230 := n6_; clear n0_ n1_ n2_ n3_ n4_ n5_ n6_; clear hb hbox hg) | ((with_reducible refine gate_dst (N := 6) rfl ?_); refine bE (N := 6) (cs := #[.int .i64 0, .int .i64 0, .string (⟨#[]⟩ : ByteArray)]) (t := 23) ?_; intro gb232 hg w9 hbox hb; have n0_ := aM (blk_below (bO BK230) hb); have n1_ := aM (blk_below (bO BK231) hb); have n2_ := aM (below_step (lO HB) hb); have n3_ := aM (hbox); have n4_ := aM (gO hg (lO HB)); have n5_ := aM (gO hg (lO HB)); have n6_ := aM (ne_lt hg (bO BK230)); have n7_ := aM (ne_gt hg (bO BK230)); have n8_ := aM (ne_lt hg (bO BK231)); have n9_ := aM (ne_gt hg (bO BK231)); clear BK230; clear BK231; clear HB; have BK230 := n0_; have BK231 := n1_; have HB := n2_; have BK232 := n3_; have GW232 := n4_; have GE232 := n5_; have NB230_232 := n6_; have NB232_230 := n7_; have NB231_232 := n8_; have NB232_231 := n9_; clear n0_ n1_ n2_ n3_ n4_ n5_ n6_ n7_ n8_ n9_; clear hb hbox hg; have hnb10 := NB230_231.out; have hnc10 := NB231_230.out; have hnb11 := NB230_232.out; have hnc11 := NB232_230.out; have C12_0 := c11_0 BK230; have C12_1 := c11_1 BK230; have C12_2 := c11_2 BK230; have C12_3 := c11_3 BK230; have C12_4 := c11_4 BK230; have C12_5 := c11_5 BK230; have C12_6 := c11_6 BK230; have C12_7 := c11_7 BK230; have C12_8 := c11_8 BK230; have C12_9 := c11_9 BK230; have C12_10 := c11_10 BK230; have F12_0 := fz BK230 0; have F12_1 := fz BK230 1; have F12_2 := fz BK230 2; have F12_3 := fz BK230 3; have F12_4 := fz BK230 4; have F12_5 := fz BK230 5; have F12_6 := fz BK230 6; have F12_7 := fz BK230 7; have F12_8 := fz BK230 8; have F12_9 := fz BK230 9; have F12_10 := fz BK230 10; have hnb13 := NB231_232.out; have hnc13 := NB232_231.out; have C14_0 := c6_0 BK231; have C14_1 := c6_1 BK231; have C14_2 := c6_2 BK231; have C14_3 := c6_3 BK231; have C14_4 := c6_4 BK231; have C14_5 := c6_5 BK231; have F14_0 := fz BK231 0; have F14_1 := fz BK231 1; have F14_2 := fz BK231 2; have F14_3 := fz BK231 3; have F14_4 := fz BK231 4; have F14_5 := fz BK231 5) | ((with_reducible refine gate_callee (f := 13) rfl ?_); refine gL (some 15) rfl rfl Try.func13 (by kernel_rfl) rfl #[.agg #[.string a0_0, .slice A0_1 l0_1.length c0_1, .int .i64 a0_2, .int .i64 a0_3, .int .i64 a0_4, .slice A0_5 l0_5.length c0_5, .slice A0_6 l0_6.length c0_6, .slice A0_7 l0_7.length c0_7, .int .i64 a0_8, .int .i64 a0_9, .int .i64 a0_10], .agg #[.int .i64 a2_0, .string a2_1, .int .i64 a2_2, .int .i64 a2_3, .string a2_4, .slice A2_5 l2_5.length c2_5]] rfl ?_; (with_reducible refine (expr_Type.calls k a0_0 _ _ l0_1 a0_2 a0_3 a0_4 _ _ l0_5 _ _ l0_6 _ _ l0_7 a0_8 a0_9 a0_10 a2_0 a2_1 a2_2 a2_3 a2_4 _ _ l2_5 t233 t234 _ ?side1 ?side2 ?side3 ?side4 ?side5 ?side6 ?side7 ?side8 ?side9 ?side10 A4.out).mono ?_); (case side1 => exact cO (Kd.C_below HR0_1.out HB.out)); (case side2 => exact HC0_1.out); (case side3 => exact cO (Kd.C_below HR0_5.out HB.out)); (case side4 => exact HC0_5.out); (case side5 => exact cO (Kd.C_below HR0_6.out HB.out)); (case side6 => exact HC0_6.out); (case side7 => exact cO (Kd.C_below HR0_7.out HB.out)); (case side8 => exact HC0_7.out); (case side9 => exact cO (Kd.C_below HR2_5.out HB.out)); (case side10 => exact HC2_5.out); rintro e w15 ⟨rfl, hb⟩; refine ⟨_, rfl, ?_⟩; have n0_ := aM (blk_below (bO BK230) hb); have n1_ := aM (blk_below (bO BK231) hb); have n2_ := aM (blk_below (bO BK232) hb); have n3_ := aM (below_step (lO HB) hb); clear BK230; clear BK231; clear BK232; clear HB; have BK230 := n0_; have BK231 := n1_; have BK232 := n2_; have HB := n3_; clear n0_ n1_ n2_ n3_; (try clear hb); (try clear hb2); (try clear hk); (try clear hi); have C16_0 := c11_0 BK230; have C16_1 := c11_1 BK230; have C16_2 := c11_2 BK230; have C16_3 := c11_3 BK230; have C16_4 := c11_4 BK230; have C16_5 := c11_5 BK230; have C16_6 := c11_6 BK230; have C16_7 := c11_7 BK230; have C16_8 := c11_8 BK230; have C16_9 := c11_9 BK230; have C16_10 := c11_10 BK230; have F16_0 := fz BK230 0; have F16_1 := fz BK230 1; have F16_2 := fz BK230 2; have F16_3 := fz BK230 3; have F16_4 := fz BK230 4; have F16_5 := fz BK230 5; have F16_6 := fz BK230 6; have F16_7 := fz BK230 7; have F16_8 := fz BK230 8; have F16_9 := fz BK230 9; have F16_10 := fz BK230 10))
   go_loopg [31] k (fun kq v31 w' => ∃ (x31_1 : Int) (x233000_1 : Int) (x233001_1 : Int) (x233002_1 : ByteArray), v31 = .int .i64 x31_1 ∧ Aside0 (expr_Eval.l0 kq l1 l1 (l1.length : Int) x31_1 a0_0 l0_1 a0_2 a0_3 a0_4 l0_5 l0_6 l0_7 a0_8 a0_9 a0_10 a2_0 a2_1 a2_2 a2_3 a2_4 l2_5 = some (r1, r2, r3, r4)) ∧ Aside0 (kq ≤ k) ∧ Aside0 (w'.heap[gb230]? = some (.cells #[.string a0_0, (.slice A0_1 l0_1.length c0_1), .int .i64 a0_2, .int .i64 a0_3, .int .i64 a0_4, (.slice A0_5 l0_5.length c0_5), (.slice A0_6 l0_6.length c0_6), (.slice A0_7 l0_7.length c0_7), .int .i64 a0_8, .int .i64 a0_9, .int .i64 a0_10] 32 (0, 0))) ∧ Aside0 (w'.heap[gb231]? = some (.cells #[.int .i64 a2_0, .string a2_1, .int .i64 a2_2, .int .i64 a2_3, .string a2_4, (.slice A2_5 l2_5.length c2_5)] 26 (0, 0))) ∧ Aside0 (w'.heap[gb232]? = some (.cells #[.int .i64 x233000_1, .int .i64 x233001_1, .string x233002_1] 23 (0, 0))) ∧ Aside0 (Below w.heap.size w w'))
   case atStart => exact ⟨(0), (0), (0), ((⟨#[]⟩ : ByteArray)), (by first | rfl | (simp; done) | (simp [*]; done)), H', ⟨Nat.le_refl _⟩, ⟨bO BK230⟩, ⟨bO BK231⟩, ⟨bO BK232⟩, ⟨(lO HB)⟩⟩
   case round =>
    clear H'
    try clear c1
    try clear c2
    try clear p2
    try clear c5
    try clear c5b0
    try clear c5b1
    try clear c6
    try clear c6b0
    try clear c6b1
    try clear c6b2
    try clear c10
    try clear c11
    try clear c13
    try clear c15
    try clear C12_0
    try clear C12_1
    try clear C12_10
    try clear C12_2
    try clear C12_3
    try clear C12_4
    try clear C12_5
    try clear C12_6
    try clear C12_7
    try clear C12_8
    try clear C12_9
    try clear C14_0
    try clear C14_1
    try clear C14_2
    try clear C14_3
    try clear C14_4
    try clear C14_5
    try clear C16_0
    try clear C16_1
    try clear C16_10
    try clear C16_2
    try clear C16_3
    try clear C16_4
    try clear C16_5
    try clear C16_6
    try clear C16_7
    try clear C16_8
    try clear C16_9
    try clear F12_0
    try clear F12_1
    try clear F12_10
    try clear F12_2
    try clear F12_3
    try clear F12_4
    try clear F12_5
    try clear F12_6
    try clear F12_7
    try clear F12_8
    try clear F12_9
    try clear F14_0
    try clear F14_1
    try clear F14_2
    try clear F14_3
    try clear F14_4
    try clear F14_5
    try clear F16_0
    try clear F16_1
    try clear F16_10
    try clear F16_2
    try clear F16_3
    try clear F16_4
    try clear F16_5
    try clear F16_6
    try clear F16_7
    try clear F16_8
    try clear F16_9
    obtain ⟨x31_1, x233000_1, x233001_1, x233002_1, rfl, HA, HK1, BK230, BK231, BK232, HB⟩ := hrel
    cases gk with
    | zero => exact absurd HA.out (by simp [expr_Eval.l0])
    | succ k1 =>
     have H := HA.out
     clear HA
     simp only [expr_Eval.l0] at H
     by_cases c17 : x31_1 < (l1.length : Int)
     ·rw [if_pos c17] at H
      have c17b0 : decide (x31_1 < (l1.length : Int)) = true := decide_eq_true c17
      clear c17
      by_cases c18 : 0 ≤ x31_1
      ·rw [if_pos c18] at H
       have c18b0 : decide (0 ≤ x31_1) = true := decide_eq_true c18
       clear c18
       by_cases c19 : x31_1 < (l1.length : Int)
       ·rw [if_pos c19] at H
        have c19b0 : decide (x31_1 < (l1.length : Int)) = true := decide_eq_true c19
        clear c19
        replace H := Option.bind_eq_some_iff.mp H
        obtain ⟨t237, A200, H⟩ := H
        replace H : (if t237 = true then (if x31_1 < (l0_1.length : Int) then (if ((rd_T23 l1 x31_1).f0) = ((rd_T57 l0_1 x31_1).f1) then (expr_Eval.l0 k1 l1 l1 (l1.length : Int) (wrap64 (x31_1 + 1)) a0_0 l0_1 a0_2 a0_3 a0_4 l0_5 l0_6 l0_7 a0_8 a0_9 a0_10 a2_0 a2_1 a2_2 a2_3 a2_4 l2_5) else (if ((rd_T23 l1 x31_1).f0) = 0 then (expr_Eval.l0 k1 l1 l1 (l1.length : Int) (wrap64 (x31_1 + 1)) a0_0 l0_1 a0_2 a0_3 a0_4 l0_5 l0_6 l0_7 a0_8 a0_9 a0_10 a2_0 a2_1 a2_2 a2_3 a2_4 l2_5) else (some (0, 0, (⟨#[]⟩ : ByteArray), 9)))) else (none)) else (some (0, 0, (⟨#[]⟩ : ByteArray), 9))) = some (r1, r2, r3, r4) := H
        have A20 := aM A200
        clear A200
        by_cases c21 : t237 = true
        ·subst c21
         have H1 : (if x31_1 < (l0_1.length : Int) then (if ((rd_T23 l1 x31_1).f0) = ((rd_T57 l0_1 x31_1).f1) then (expr_Eval.l0 k1 l1 l1 (l1.length : Int) (wrap64 (x31_1 + 1)) a0_0 l0_1 a0_2 a0_3 a0_4 l0_5 l0_6 l0_7 a0_8 a0_9 a0_10 a2_0 a2_1 a2_2 a2_3 a2_4 l2_5) else (if ((rd_T23 l1 x31_1).f0) = 0 then (expr_Eval.l0 k1 l1 l1 (l1.length : Int) (wrap64 (x31_1 + 1)) a0_0 l0_1 a0_2 a0_3 a0_4 l0_5 l0_6 l0_7 a0_8 a0_9 a0_10 a2_0 a2_1 a2_2 a2_3 a2_4 l2_5) else (some (0, 0, (⟨#[]⟩ : ByteArray), 9)))) else (none)) = some (r1, r2, r3, r4) := by rw [if_pos rfl] at H; exact H
         clear H
         have H := H1
         clear H1
         by_cases c22 : x31_1 < (l0_1.length : Int)
         ·rw [if_pos c22] at H
          have c22b0 : decide (x31_1 < (l0_1.length : Int)) = true := decide_eq_true c22
          clear c22
          by_cases c23 : ((rd_T23 l1 x31_1).f0) = ((rd_T57 l0_1 x31_1).f1)
          ·rw [if_pos c23] at H
           have c23b0 : (((rd_T23 l1 x31_1).f0) == ((rd_T57 l0_1 x31_1).f1)) = true := beq_iff_eq.mpr c23
           have c23b1 : (((rd_T23 l1 x31_1).f0) != ((rd_T57 l0_1 x31_1).f1)) = false := bne_eq_false_iff_eq.mpr c23
           clear c23
           have H' := aM H
           clear H
           have p235 : 0 ≤ (x31_1 : Int) := of_decide_eq_true (by first | (with_reducible assumption) | assumption)
           have q235 : x31_1 < (l1.length : Int) := of_decide_eq_true (by first | (with_reducible assumption) | assumption)
           obtain ⟨ad235, e235, hx235_0, hx235_1, hx235_2⟩ := at_T23 HR1.out x31_1 p235 q235
           cases e235
           replace hx235_0 := (HB.out.cell (World.block_lt_of_cell? w _ hx235_0)).trans hx235_0
           replace hx235_1 := (HB.out.cell (World.block_lt_of_cell? w _ hx235_1)).trans hx235_1
           replace hx235_2 := (HB.out.cell (World.block_lt_of_cell? w _ hx235_2)).trans hx235_2
           replace p235 := eq_true p235
           replace q235 := eq_true q235
           try go_wp2_with (first | ((with_reducible refine gate_dst (N := 11) rfl ?_); refine bE (N := 11) (cs := #[.int .i64 0, .int .i64 0, .string (⟨#[]⟩ : ByteArray)]) (t := 23) ?_; intro gb236 hg w24 hbox hb; have n0_ := aM (blk_below (bO BK230) hb); have n1_ := aM (blk_below (bO BK231) hb); have n2_ := aM (blk_below (bO BK232) hb); have n3_ := aM (below_step (lO HB) hb); have n4_ := aM (hbox); have n5_ := aM (gO hg (lO HB)); have n6_ := aM (gO hg (lO HB)); have n7_ := aM (ne_lt hg (bO BK230)); have n8_ := aM (ne_gt hg (bO BK230)); have n9_ := aM (ne_lt hg (bO BK231)); have n10_ := aM (ne_gt hg (bO BK231)); have n11_ := aM (ne_lt hg (bO BK232)); have n12_ := aM (ne_gt hg (bO BK232)); clear BK230; clear BK231; clear BK232; clear HB; have BK230 := n0_; have BK231 := n1_; have BK232 := n2_; have HB := n3_; have BK236 := n4_; have GW236 := n5_; have GE236 := n6_; have NB230_236 := n7_; have NB236_230 := n8_; have NB231_236 := n9_; have NB236_231 := n10_; have NB232_236 := n11_; have NB236_232 := n12_; clear n0_ n1_ n2_ n3_ n4_ n5_ n6_ n7_ n8_ n9_ n10_ n11_ n12_; clear hb hbox hg; have hnb25 := NB236_230.out; have hnc25 := NB230_236.out; have hnb26 := NB236_231.out; have hnc26 := NB231_236.out; have hnb27 := NB236_232.out; have hnc27 := NB232_236.out; have C28_0 := c3_0 BK236; have C28_1 := c3_1 BK236; have C28_2 := c3_2 BK236; have F28_0 := fz BK236 0; have F28_1 := fz BK236 1; have F28_2 := fz BK236 2))
           have n0_ : Aside0 ((((w24.setCell ⟨gb236, 0, none⟩ (.int .i64 ((rd_T23 l1 x31_1).f0))).setCell ⟨gb236, 1, none⟩ (.int .i64 ((rd_T23 l1 x31_1).f1))).setCell ⟨gb236, 2, none⟩ (.string ((rd_T23 l1 x31_1).f2))).heap[gb230]? = some (.cells #[.string a0_0, .slice A0_1 l0_1.length c0_1, .int .i64 a0_2, .int .i64 a0_3, .int .i64 a0_4, .slice A0_5 l0_5.length c0_5, .slice A0_6 l0_6.length c0_6, .slice A0_7 l0_7.length c0_7, .int .i64 a0_8, .int .i64 a0_9, .int .i64 a0_10] 32 (0, 0))) := ⟨by (with_reducible repeat (first | refine blk_drewN ?_ _ | refine blk_drew ?_ | refine blk_alloc ?_ _)); refine blk_far ?_ NB230_236.out _; (with_reducible repeat (first | refine blk_drewN ?_ _ | refine blk_drew ?_ | refine blk_alloc ?_ _)); refine blk_far ?_ NB230_236.out _; (with_reducible repeat (first | refine blk_drewN ?_ _ | refine blk_drew ?_ | refine blk_alloc ?_ _)); refine blk_far ?_ NB230_236.out _; (with_reducible repeat (first | refine blk_drewN ?_ _ | refine blk_drew ?_ | refine blk_alloc ?_ _)); exact BK230.out⟩
           have n1_ : Aside0 ((((w24.setCell ⟨gb236, 0, none⟩ (.int .i64 ((rd_T23 l1 x31_1).f0))).setCell ⟨gb236, 1, none⟩ (.int .i64 ((rd_T23 l1 x31_1).f1))).setCell ⟨gb236, 2, none⟩ (.string ((rd_T23 l1 x31_1).f2))).heap[gb231]? = some (.cells #[.int .i64 a2_0, .string a2_1, .int .i64 a2_2, .int .i64 a2_3, .string a2_4, .slice A2_5 l2_5.length c2_5] 26 (0, 0))) := ⟨by (with_reducible repeat (first | refine blk_drewN ?_ _ | refine blk_drew ?_ | refine blk_alloc ?_ _)); refine blk_far ?_ NB231_236.out _; (with_reducible repeat (first | refine blk_drewN ?_ _ | refine blk_drew ?_ | refine blk_alloc ?_ _)); refine blk_far ?_ NB231_236.out _; (with_reducible repeat (first | refine blk_drewN ?_ _ | refine blk_drew ?_ | refine blk_alloc ?_ _)); refine blk_far ?_ NB231_236.out _; (with_reducible repeat (first | refine blk_drewN ?_ _ | refine blk_drew ?_ | refine blk_alloc ?_ _)); exact BK231.out⟩
           have n2_ : Aside0 ((((w24.setCell ⟨gb236, 0, none⟩ (.int .i64 ((rd_T23 l1 x31_1).f0))).setCell ⟨gb236, 1, none⟩ (.int .i64 ((rd_T23 l1 x31_1).f1))).setCell ⟨gb236, 2, none⟩ (.string ((rd_T23 l1 x31_1).f2))).heap[gb232]? = some (.cells #[.int .i64 x233000_1, .int .i64 x233001_1, .string x233002_1] 23 (0, 0))) := ⟨by (with_reducible repeat (first | refine blk_drewN ?_ _ | refine blk_drew ?_ | refine blk_alloc ?_ _)); refine blk_far ?_ NB232_236.out _; (with_reducible repeat (first | refine blk_drewN ?_ _ | refine blk_drew ?_ | refine blk_alloc ?_ _)); refine blk_far ?_ NB232_236.out _; (with_reducible repeat (first | refine blk_drewN ?_ _ | refine blk_drew ?_ | refine blk_alloc ?_ _)); refine blk_far ?_ NB232_236.out _; (with_reducible repeat (first | refine blk_drewN ?_ _ | refine blk_drew ?_ | refine blk_alloc ?_ _)); exact BK232.out⟩
           have n3_ : Aside0 ((((w24.setCell ⟨gb236, 0, none⟩ (.int .i64 ((rd_T23 l1 x31_1).f0))).setCell ⟨gb236, 1, none⟩ (.int .i64 ((rd_T23 l1 x31_1).f1))).setCell ⟨gb236, 2, none⟩ (.string ((rd_T23 l1 x31_1).f2))).heap[gb236]? = some (.cells #[.int .i64 ((rd_T23 l1 x31_1).f0), .int .i64 ((rd_T23 l1 x31_1).f1), .string ((rd_T23 l1 x31_1).f2)] 23 (0, 0))) := ⟨by (with_reducible repeat (first | refine blk_drewN ?_ _ | refine blk_drew ?_ | refine blk_alloc ?_ _)); refine blk_put (cs := #[.int .i64 ((rd_T23 l1 x31_1).f0), .int .i64 ((rd_T23 l1 x31_1).f1), .string (⟨#[]⟩ : ByteArray)]) ?_ 2 _ rfl; (with_reducible repeat (first | refine blk_drewN ?_ _ | refine blk_drew ?_ | refine blk_alloc ?_ _)); refine blk_put (cs := #[.int .i64 ((rd_T23 l1 x31_1).f0), .int .i64 0, .string (⟨#[]⟩ : ByteArray)]) ?_ 1 _ rfl; (with_reducible repeat (first | refine blk_drewN ?_ _ | refine blk_drew ?_ | refine blk_alloc ?_ _)); refine blk_put (cs := #[.int .i64 0, .int .i64 0, .string (⟨#[]⟩ : ByteArray)]) ?_ 0 _ rfl; (with_reducible repeat (first | refine blk_drewN ?_ _ | refine blk_drew ?_ | refine blk_alloc ?_ _)); exact BK236.out⟩
           have n4_ : Aside0 (Below w.heap.size w (((w24.setCell ⟨gb236, 0, none⟩ (.int .i64 ((rd_T23 l1 x31_1).f0))).setCell ⟨gb236, 1, none⟩ (.int .i64 ((rd_T23 l1 x31_1).f1))).setCell ⟨gb236, 2, none⟩ (.string ((rd_T23 l1 x31_1).f2)))) := ⟨(lO HB)⟩
           (try clear BK230)
           (try clear BK231)
           (try clear BK232)
           (try clear BK236)
           (try clear HB)
           generalize (((w24.setCell ⟨gb236, 0, none⟩ (.int .i64 ((rd_T23 l1 x31_1).f0))).setCell ⟨gb236, 1, none⟩ (.int .i64 ((rd_T23 l1 x31_1).f1))).setCell ⟨gb236, 2, none⟩ (.string ((rd_T23 l1 x31_1).f2))) = w29 at n0_ n1_ n2_ n3_ n4_ ⊢
           have BK230 := n0_
           have BK231 := n1_
           have BK232 := n2_
           have BK236 := n3_
           have HB := n4_
           clear n0_ n1_ n2_ n3_ n4_
           have n0_ := aM (blk_drew BK230.out)
           have n1_ := aM (blk_drew BK231.out)
           have n2_ := aM (blk_drew BK232.out)
           have n3_ := aM (blk_drew BK236.out)
           have n4_ := aM (below_drew1 HB.out)
           clear BK230
           clear BK231
           clear BK232
           clear BK236
           clear HB
           have BK230 := n0_
           have BK231 := n1_
           have BK232 := n2_
           have BK236 := n3_
           have HB := n4_
           clear n0_ n1_ n2_ n3_ n4_
           have p238 : 0 ≤ (x31_1 : Int) := of_decide_eq_true (by first | (with_reducible assumption) | assumption)
           have q238 : x31_1 < (l0_1.length : Int) := of_decide_eq_true (by first | (with_reducible assumption) | assumption)
           obtain ⟨ad238, e238, hx238_0, hx238_1, hx238_2⟩ := at_T57 HR0_1.out x31_1 p238 q238
           have hw238_2 := hx238_2
           have hw238_1 := hx238_1
           have hw238_0 := hx238_0
           cases e238
           replace hx238_0 := (HB.out.cell (World.block_lt_of_cell? w _ hx238_0)).trans hx238_0
           replace hx238_1 := (HB.out.cell (World.block_lt_of_cell? w _ hx238_1)).trans hx238_1
           replace hx238_2 := (HB.out.cell (World.block_lt_of_cell? w _ hx238_2)).trans hx238_2
           replace p238 := eq_true p238
           replace q238 := eq_true q238
           refine start_ (n := 19) (S := fun w' => w'.cell? ⟨gb236, 0, none⟩ = some (.int .i64 ((rd_T23 l1 x31_1).f0)) ∧ w'.cell? ⟨gb236, 1, none⟩ = some (.int .i64 ((rd_T23 l1 x31_1).f1)) ∧ w'.cell? ⟨gb236, 2, none⟩ = some (.string ((rd_T23 l1 x31_1).f2)) ∧ w'.cell? ⟨gb230, 0, none⟩ = some (.string a0_0) ∧ w'.cell? ⟨gb230, 1, none⟩ = some (.slice (some ad238) l0_1.length c0_1) ∧ w'.cell? ⟨gb230, 2, none⟩ = some (.int .i64 a0_2) ∧ w'.cell? ⟨gb230, 3, none⟩ = some (.int .i64 a0_3) ∧ w'.cell? ⟨gb230, 4, none⟩ = some (.int .i64 a0_4) ∧ w'.cell? ⟨gb230, 5, none⟩ = some (.slice A0_5 l0_5.length c0_5) ∧ w'.cell? ⟨gb230, 6, none⟩ = some (.slice A0_6 l0_6.length c0_6) ∧ w'.cell? ⟨gb230, 7, none⟩ = some (.slice A0_7 l0_7.length c0_7) ∧ w'.cell? ⟨gb230, 8, none⟩ = some (.int .i64 a0_8) ∧ w'.cell? ⟨gb230, 9, none⟩ = some (.int .i64 a0_9) ∧ w'.cell? ⟨gb230, 10, none⟩ = some (.int .i64 a0_10) ∧ w'.cell? (ad238.add ((x31_1).toNat * 3)) = some (.string ((rd_T57 l0_1 x31_1).f0)) ∧ w'.cell? ⟨(ad238.add ((x31_1).toNat * 3)).block, (ad238.add ((x31_1).toNat * 3)).off + 1, none⟩ = some (.int .i64 ((rd_T57 l0_1 x31_1).f1)) ∧ w'.cell? ⟨(ad238.add ((x31_1).toNat * 3)).block, (ad238.add ((x31_1).toNat * 3)).off + 2, none⟩ = some (.bool ((rd_T57 l0_1 x31_1).f2))) (ds := []) #[false, false, false, false, false, false, false, false, false, false, false, false, false, false, false, false, false, false, false] (by kernel_rfl) rfl rfl ⟨(blk_cell BK236.out 0).trans rfl, (blk_cell BK236.out 1).trans rfl, (blk_cell BK236.out 2).trans rfl, (blk_cell BK230.out 0).trans rfl, (blk_cell BK230.out 1).trans rfl, (blk_cell BK230.out 2).trans rfl, (blk_cell BK230.out 3).trans rfl, (blk_cell BK230.out 4).trans rfl, (blk_cell BK230.out 5).trans rfl, (blk_cell BK230.out 6).trans rfl, (blk_cell BK230.out 7).trans rfl, (blk_cell BK230.out 8).trans rfl, (blk_cell BK230.out 9).trans rfl, (blk_cell BK230.out 10).trans rfl, ((HB.out.cell (World.block_lt_of_cell? w _ hw238_0)).trans hw238_0), ((HB.out.cell (World.block_lt_of_cell? w _ hw238_1)).trans hw238_1), ((HB.out.cell (World.block_lt_of_cell? w _ hw238_2)).trans hw238_2)⟩ (fun hHeld => ?_); refine with_tabW expr_Eval.tab9 expr_Eval.bits9 (fun HT_ HW_ => ?_)
           generalize w29.drew = w30 at BK230 BK231 BK232 BK236 HB hx238_0 hx238_1 hx238_2 hHeld ⊢
           refine take_ (i := 0) (N := some 36) (v := ?_) (a' := ?_) #[true, false, false, false, false, false, false, false, false, false, false, false, false, false, false, false, false, false, false] rfl rfl (take_ofW HT_.out HW_.out (by kernel_rfl)) (fun _ _ _ h => h) (Or.inl ⟨by rfl, ?_⟩) hHeld ?_ ?_
           rotate_left
           ·rintro w' ⟨s0, s1, s2, s3, s4, s5, s6, s7, s8, s9, s10, s11, s12, s13, s14, s15, s16⟩
            go_simp
            with_reducible rfl
           rotate_left
           ·simp only [Act.put, sA, sB, sC, i64_w, i32_w]
            rfl
           refine one_ (i := 1) (N := some 37) #[true, true, false, false, false, false, false, false, false, false, false, false, false, false, false, false, false, false, false] rfl rfl (one_of HT_.out (by kernel_rfl)) (by decide) (fun K hK => ?_)
           refine goes_ Try.func28 (by kernel_rfl) rfl #[.agg #[.int .i64 ((rd_T23 l1 x31_1).f0), .int .i64 ((rd_T23 l1 x31_1).f1), .string ((rd_T23 l1 x31_1).f2)]] (by rfl) rfl rfl (by (try simp only [List.map_toArray, List.map_cons, List.map_nil]); first | done | rfl | (simp only [List.length_drop, List.length_take]; rfl)) ?_
           with_reducible refine (value_May.calls ((rd_T23 l1 x31_1).f0) ((rd_T23 l1 x31_1).f1) ((rd_T23 l1 x31_1).f2) true _ A20.out).mono ?_
           rintro e w31 ⟨rfl, hb⟩
           refine ⟨_, rfl, ?_⟩
           have n0_ := aM (blk_below (bO BK230) hb)
           have n1_ := aM (blk_below (bO BK231) hb)
           have n2_ := aM (blk_below (bO BK232) hb)
           have n3_ := aM (blk_below (bO BK236) hb)
           have n4_ := aM (below_step (lO HB) hb)
           clear BK230
           clear BK231
           clear BK232
           clear BK236
           clear HB
           have BK230 := n0_
           have BK231 := n1_
           have BK232 := n2_
           have BK236 := n3_
           have HB := n4_
           clear n0_ n1_ n2_ n3_ n4_
           (try clear hb)
           (try clear hb2)
           (try clear hk)
           (try clear hi)
           refine hK.out _ _ ⟨(blk_cell BK236.out 0).trans rfl, (blk_cell BK236.out 1).trans rfl, (blk_cell BK236.out 2).trans rfl, (blk_cell BK230.out 0).trans rfl, (blk_cell BK230.out 1).trans rfl, (blk_cell BK230.out 2).trans rfl, (blk_cell BK230.out 3).trans rfl, (blk_cell BK230.out 4).trans rfl, (blk_cell BK230.out 5).trans rfl, (blk_cell BK230.out 6).trans rfl, (blk_cell BK230.out 7).trans rfl, (blk_cell BK230.out 8).trans rfl, (blk_cell BK230.out 9).trans rfl, (blk_cell BK230.out 10).trans rfl, ((HB.out.cell (World.block_lt_of_cell? w _ hw238_0)).trans hw238_0), ((HB.out.cell (World.block_lt_of_cell? w _ hw238_1)).trans hw238_1), ((HB.out.cell (World.block_lt_of_cell? w _ hw238_2)).trans hw238_2)⟩ (fun hHeld => ?_)
           clear hK K
           refine norm_ (a' := ?_) ?_ ?_
           rotate_left
           ·show Act.put _ (some 37) _ = _
            simp only [Act.put, sA, sB, sC, i64_w, i32_w]
            rfl
           refine pure_ (i := 2) (N := some 38) (v := ?_) (a' := ?_) #[true, true, true, false, false, false, false, false, false, false, false, false, false, false, false, false, false, false, false] rfl rfl (any_of HT_.out (by kernel_rfl)) (fun _ _ _ h => h) (Or.inl ⟨by rfl, ?_⟩) ?_ ?_
           rotate_left
           ·intro w'
            go_simp
            with_reducible rfl
           rotate_left
           ·simp only [Act.put, sA, sB, sC, i64_w, i32_w]
            rfl
           refine pure_ (i := 3) (N := some 39) (v := ?_) (a' := ?_) #[true, true, true, true, false, false, false, false, false, false, false, false, false, false, false, false, false, false, false] rfl rfl (any_of HT_.out (by kernel_rfl)) (fun _ _ _ h => h) (Or.inl ⟨by rfl, ?_⟩) ?_ ?_
           rotate_left
           ·intro w'
            go_simp
            with_reducible rfl
           rotate_left
           ·simp only [Act.put, sA, sB, sC, i64_w, i32_w]
            rfl
           refine pure_ (i := 4) (N := some 40) (v := ?_) (a' := ?_) #[true, true, true, true, true, false, false, false, false, false, false, false, false, false, false, false, false, false, false] rfl rfl (any_of HT_.out (by kernel_rfl)) (fun _ _ _ h => h) (Or.inl ⟨by rfl, ?_⟩) ?_ ?_
           rotate_left
           ·intro w'
            go_simp
            with_reducible rfl
           rotate_left
           ·simp only [Act.put, sA, sB, sC, i64_w, i32_w]
            rfl
           refine pure_ (i := 6) (N := some 42) (v := ?_) (a' := ?_) #[true, true, true, true, true, false, true, false, false, false, false, false, false, false, false, false, false, false, false] rfl rfl (any_of HT_.out (by kernel_rfl)) (fun _ _ _ h => h) (Or.inl ⟨by rfl, ?_⟩) ?_ ?_
           rotate_left
           ·intro w'
            go_simp
            with_reducible rfl
           rotate_left
           ·simp only [Act.put, sA, sB, sC, i64_w, i32_w]
            rfl
           refine pure_ (i := 8) (N := some 44) (v := ?_) (a' := ?_) #[true, true, true, true, true, false, true, false, true, false, false, false, false, false, false, false, false, false, false] rfl rfl (any_of HT_.out (by kernel_rfl)) (fun _ _ _ h => h) (Or.inl ⟨by rfl, ?_⟩) ?_ ?_
           rotate_left
           ·intro w'
            go_simp
            with_reducible rfl
           rotate_left
           ·simp only [Act.put, sA, sB, sC, i64_w, i32_w]
            rfl
           refine take_ (i := 5) (N := some 41) (v := ?_) (a' := ?_) #[true, true, true, true, true, true, true, false, true, false, false, false, false, false, false, false, false, false, false] rfl rfl (take_ofW HT_.out HW_.out (by kernel_rfl)) (fun _ _ _ h => h) (Or.inl ⟨by rfl, ?_⟩) hHeld ?_ ?_
           rotate_left
           ·rintro w' ⟨s0, s1, s2, s3, s4, s5, s6, s7, s8, s9, s10, s11, s12, s13, s14, s15, s16⟩
            go_simp
            with_reducible rfl
           rotate_left
           ·simp only [Act.put, sA, sB, sC, i64_w, i32_w]
            rfl
           refine take_ (i := 7) (N := some 43) (v := ?_) (a' := ?_) #[true, true, true, true, true, true, true, true, true, false, false, false, false, false, false, false, false, false, false] rfl rfl (take_ofW HT_.out HW_.out (by kernel_rfl)) (fun _ _ _ h => h) (Or.inl ⟨by rfl, ?_⟩) hHeld ?_ ?_
           rotate_left
           ·rintro w' ⟨s0, s1, s2, s3, s4, s5, s6, s7, s8, s9, s10, s11, s12, s13, s14, s15, s16⟩
            go_simp
            with_reducible rfl
           rotate_left
           ·simp only [Act.put, sA, sB, sC, i64_w, i32_w]
            rfl
           refine pure_ (i := 9) (N := some 45) (v := ?_) (a' := ?_) #[true, true, true, true, true, true, true, true, true, true, false, false, false, false, false, false, false, false, false] rfl rfl (any_of HT_.out (by kernel_rfl)) (fun _ _ _ h => h) (Or.inl ⟨by rfl, ?_⟩) ?_ ?_
           rotate_left
           ·intro w'
            go_simp
            with_reducible rfl
           rotate_left
           ·simp only [Act.put, sA, sB, sC, i64_w, i32_w]
            rfl
           refine pure_ (i := 10) (N := some 46) (v := ?_) (a' := ?_) #[true, true, true, true, true, true, true, true, true, true, true, false, false, false, false, false, false, false, false] rfl rfl (any_of HT_.out (by kernel_rfl)) (fun _ _ _ h => h) (Or.inl ⟨by rfl, ?_⟩) ?_ ?_
           rotate_left
           ·intro w'
            go_simp
            with_reducible rfl
           rotate_left
           ·simp only [Act.put, sA, sB, sC, i64_w, i32_w]
            rfl
           refine take_ (i := 11) (N := some 47) (v := ?_) (a' := ?_) #[true, true, true, true, true, true, true, true, true, true, true, true, false, false, false, false, false, false, false] rfl rfl (take_ofW HT_.out HW_.out (by kernel_rfl)) (fun _ _ _ h => h) (Or.inl ⟨by rfl, ?_⟩) hHeld ?_ ?_
           rotate_left
           ·rintro w' ⟨s0, s1, s2, s3, s4, s5, s6, s7, s8, s9, s10, s11, s12, s13, s14, s15, s16⟩
            go_simp
            with_reducible rfl
           rotate_left
           ·simp only [Act.put, sA, sB, sC, i64_w, i32_w]
            rfl
           refine pure_ (i := 12) (N := some 48) (v := ?_) (a' := ?_) #[true, true, true, true, true, true, true, true, true, true, true, true, true, false, false, false, false, false, false] rfl rfl (any_of HT_.out (by kernel_rfl)) (fun _ _ _ h => h) (Or.inl ⟨by rfl, ?_⟩) ?_ ?_
           rotate_left
           ·intro w'
            go_simp
            with_reducible rfl
           rotate_left
           ·simp only [Act.put, sA, sB, sC, i64_w, i32_w]
            rfl
           refine pure_ (i := 13) (N := some 49) (v := ?_) (a' := ?_) #[true, true, true, true, true, true, true, true, true, true, true, true, true, true, false, false, false, false, false] rfl rfl (any_of HT_.out (by kernel_rfl)) (fun _ _ _ h => h) (Or.inl ⟨by rfl, ?_⟩) ?_ ?_
           rotate_left
           ·intro w'
            go_simp
            with_reducible rfl
           rotate_left
           ·simp only [Act.put, sA, sB, sC, i64_w, i32_w]
            rfl
           refine pure_ (i := 14) (N := some 50) (v := undef) (a' := ?_) #[true, true, true, true, true, true, true, true, true, true, true, true, true, true, true, false, false, false, false] rfl rfl (any_of HT_.out (by kernel_rfl)) (fun _ _ _ h => h) (Or.inr ⟨by rfl, rfl⟩) ?_ ?_
           rotate_left
           ·simp only [Act.put, sA, sB, sC, i64_w, i32_w]
            rfl
           refine pure_ (i := 15) (N := some 51) (v := undef) (a' := ?_) #[true, true, true, true, true, true, true, true, true, true, true, true, true, true, true, true, false, false, false] rfl rfl (any_of HT_.out (by kernel_rfl)) (fun _ _ _ h => h) (Or.inr ⟨by rfl, rfl⟩) ?_ ?_
           rotate_left
           ·simp only [Act.put, sA, sB, sC, i64_w, i32_w]
            rfl
           refine pure_ (i := 16) (N := some 52) (v := undef) (a' := ?_) #[true, true, true, true, true, true, true, true, true, true, true, true, true, true, true, true, true, false, false] rfl rfl (any_of HT_.out (by kernel_rfl)) (fun _ _ _ h => h) (Or.inr ⟨by rfl, rfl⟩) ?_ ?_
           rotate_left
           ·simp only [Act.put, sA, sB, sC, i64_w, i32_w]
            rfl
           refine pure_ (i := 17) (N := some 53) (v := ?_) (a' := ?_) #[true, true, true, true, true, true, true, true, true, true, true, true, true, true, true, true, true, true, false] rfl rfl (any_of HT_.out (by kernel_rfl)) (fun _ _ _ h => h) (Or.inl ⟨by rfl, ?_⟩) ?_ ?_
           rotate_left
           ·intro w'
            go_simp
            with_reducible rfl
           rotate_left
           ·simp only [Act.put, sA, sB, sC, i64_w, i32_w]
            rfl
           refine pure_ (i := 18) (N := some 54) (v := ?_) (a' := ?_) #[true, true, true, true, true, true, true, true, true, true, true, true, true, true, true, true, true, true, true] rfl rfl (any_of HT_.out (by kernel_rfl)) (fun _ _ _ h => h) (Or.inl ⟨by rfl, ?_⟩) ?_ ?_
           rotate_left
           ·intro w'
            go_simp
            with_reducible rfl
           rotate_left
           ·simp only [Act.put, sA, sB, sC, i64_w, i32_w]
            rfl
           refine done_ (done_of HT_.out (by kernel_rfl)) ?_
           try go_wp2
           go_roundg k1
           case measure => have := HK1.out; omega
           case rel => exact ⟨(wrap64 (x31_1 + 1)), (x233000_1), (x233001_1), (x233002_1), (by first | rfl | (simp; done) | (simp [*]; done)), H', ⟨by have := HK1.out; omega⟩, ⟨bO BK230⟩, ⟨bO BK231⟩, ⟨bO BK232⟩, ⟨(lO HB)⟩⟩
          ·rw [if_neg c23] at H
           have c23b0 : (((rd_T23 l1 x31_1).f0) == ((rd_T57 l0_1 x31_1).f1)) = false := beq_eq_false_iff_ne.mpr c23
           have c23b1 : (((rd_T23 l1 x31_1).f0) != ((rd_T57 l0_1 x31_1).f1)) = true := bne_iff_ne.mpr c23
           by_cases c32 : ((rd_T23 l1 x31_1).f0) = 0
           ·rw [if_pos c32] at H
            have c32b0 : (((rd_T23 l1 x31_1).f0) == 0) = true := beq_iff_eq.mpr c32
            have c32b1 : (((rd_T23 l1 x31_1).f0) != 0) = false := bne_eq_false_iff_eq.mpr c32
            clear c32
            have H' := aM H
            clear H
            have p235 : 0 ≤ (x31_1 : Int) := of_decide_eq_true (by first | (with_reducible assumption) | assumption)
            have q235 : x31_1 < (l1.length : Int) := of_decide_eq_true (by first | (with_reducible assumption) | assumption)
            obtain ⟨ad235, e235, hx235_0, hx235_1, hx235_2⟩ := at_T23 HR1.out x31_1 p235 q235
            cases e235
            replace hx235_0 := (HB.out.cell (World.block_lt_of_cell? w _ hx235_0)).trans hx235_0
            replace hx235_1 := (HB.out.cell (World.block_lt_of_cell? w _ hx235_1)).trans hx235_1
            replace hx235_2 := (HB.out.cell (World.block_lt_of_cell? w _ hx235_2)).trans hx235_2
            replace p235 := eq_true p235
            replace q235 := eq_true q235
            try go_wp2_with (first | ((with_reducible refine gate_dst (N := 11) rfl ?_); refine bE (N := 11) (cs := #[.int .i64 0, .int .i64 0, .string (⟨#[]⟩ : ByteArray)]) (t := 23) ?_; intro gb236 hg w33 hbox hb; have n0_ := aM (blk_below (bO BK230) hb); have n1_ := aM (blk_below (bO BK231) hb); have n2_ := aM (blk_below (bO BK232) hb); have n3_ := aM (below_step (lO HB) hb); have n4_ := aM (hbox); have n5_ := aM (gO hg (lO HB)); have n6_ := aM (gO hg (lO HB)); have n7_ := aM (ne_lt hg (bO BK230)); have n8_ := aM (ne_gt hg (bO BK230)); have n9_ := aM (ne_lt hg (bO BK231)); have n10_ := aM (ne_gt hg (bO BK231)); have n11_ := aM (ne_lt hg (bO BK232)); have n12_ := aM (ne_gt hg (bO BK232)); clear BK230; clear BK231; clear BK232; clear HB; have BK230 := n0_; have BK231 := n1_; have BK232 := n2_; have HB := n3_; have BK236 := n4_; have GW236 := n5_; have GE236 := n6_; have NB230_236 := n7_; have NB236_230 := n8_; have NB231_236 := n9_; have NB236_231 := n10_; have NB232_236 := n11_; have NB236_232 := n12_; clear n0_ n1_ n2_ n3_ n4_ n5_ n6_ n7_ n8_ n9_ n10_ n11_ n12_; clear hb hbox hg; have hnb34 := NB236_230.out; have hnc34 := NB230_236.out; have hnb35 := NB236_231.out; have hnc35 := NB231_236.out; have hnb36 := NB236_232.out; have hnc36 := NB232_236.out; have C37_0 := c3_0 BK236; have C37_1 := c3_1 BK236; have C37_2 := c3_2 BK236; have F37_0 := fz BK236 0; have F37_1 := fz BK236 1; have F37_2 := fz BK236 2))
            have n0_ : Aside0 ((((w33.setCell ⟨gb236, 0, none⟩ (.int .i64 ((rd_T23 l1 x31_1).f0))).setCell ⟨gb236, 1, none⟩ (.int .i64 ((rd_T23 l1 x31_1).f1))).setCell ⟨gb236, 2, none⟩ (.string ((rd_T23 l1 x31_1).f2))).heap[gb230]? = some (.cells #[.string a0_0, .slice A0_1 l0_1.length c0_1, .int .i64 a0_2, .int .i64 a0_3, .int .i64 a0_4, .slice A0_5 l0_5.length c0_5, .slice A0_6 l0_6.length c0_6, .slice A0_7 l0_7.length c0_7, .int .i64 a0_8, .int .i64 a0_9, .int .i64 a0_10] 32 (0, 0))) := ⟨by (with_reducible repeat (first | refine blk_drewN ?_ _ | refine blk_drew ?_ | refine blk_alloc ?_ _)); refine blk_far ?_ NB230_236.out _; (with_reducible repeat (first | refine blk_drewN ?_ _ | refine blk_drew ?_ | refine blk_alloc ?_ _)); refine blk_far ?_ NB230_236.out _; (with_reducible repeat (first | refine blk_drewN ?_ _ | refine blk_drew ?_ | refine blk_alloc ?_ _)); refine blk_far ?_ NB230_236.out _; (with_reducible repeat (first | refine blk_drewN ?_ _ | refine blk_drew ?_ | refine blk_alloc ?_ _)); exact BK230.out⟩
            have n1_ : Aside0 ((((w33.setCell ⟨gb236, 0, none⟩ (.int .i64 ((rd_T23 l1 x31_1).f0))).setCell ⟨gb236, 1, none⟩ (.int .i64 ((rd_T23 l1 x31_1).f1))).setCell ⟨gb236, 2, none⟩ (.string ((rd_T23 l1 x31_1).f2))).heap[gb231]? = some (.cells #[.int .i64 a2_0, .string a2_1, .int .i64 a2_2, .int .i64 a2_3, .string a2_4, .slice A2_5 l2_5.length c2_5] 26 (0, 0))) := ⟨by (with_reducible repeat (first | refine blk_drewN ?_ _ | refine blk_drew ?_ | refine blk_alloc ?_ _)); refine blk_far ?_ NB231_236.out _; (with_reducible repeat (first | refine blk_drewN ?_ _ | refine blk_drew ?_ | refine blk_alloc ?_ _)); refine blk_far ?_ NB231_236.out _; (with_reducible repeat (first | refine blk_drewN ?_ _ | refine blk_drew ?_ | refine blk_alloc ?_ _)); refine blk_far ?_ NB231_236.out _; (with_reducible repeat (first | refine blk_drewN ?_ _ | refine blk_drew ?_ | refine blk_alloc ?_ _)); exact BK231.out⟩
            have n2_ : Aside0 ((((w33.setCell ⟨gb236, 0, none⟩ (.int .i64 ((rd_T23 l1 x31_1).f0))).setCell ⟨gb236, 1, none⟩ (.int .i64 ((rd_T23 l1 x31_1).f1))).setCell ⟨gb236, 2, none⟩ (.string ((rd_T23 l1 x31_1).f2))).heap[gb232]? = some (.cells #[.int .i64 x233000_1, .int .i64 x233001_1, .string x233002_1] 23 (0, 0))) := ⟨by (with_reducible repeat (first | refine blk_drewN ?_ _ | refine blk_drew ?_ | refine blk_alloc ?_ _)); refine blk_far ?_ NB232_236.out _; (with_reducible repeat (first | refine blk_drewN ?_ _ | refine blk_drew ?_ | refine blk_alloc ?_ _)); refine blk_far ?_ NB232_236.out _; (with_reducible repeat (first | refine blk_drewN ?_ _ | refine blk_drew ?_ | refine blk_alloc ?_ _)); refine blk_far ?_ NB232_236.out _; (with_reducible repeat (first | refine blk_drewN ?_ _ | refine blk_drew ?_ | refine blk_alloc ?_ _)); exact BK232.out⟩
            have n3_ : Aside0 ((((w33.setCell ⟨gb236, 0, none⟩ (.int .i64 ((rd_T23 l1 x31_1).f0))).setCell ⟨gb236, 1, none⟩ (.int .i64 ((rd_T23 l1 x31_1).f1))).setCell ⟨gb236, 2, none⟩ (.string ((rd_T23 l1 x31_1).f2))).heap[gb236]? = some (.cells #[.int .i64 ((rd_T23 l1 x31_1).f0), .int .i64 ((rd_T23 l1 x31_1).f1), .string ((rd_T23 l1 x31_1).f2)] 23 (0, 0))) := ⟨by (with_reducible repeat (first | refine blk_drewN ?_ _ | refine blk_drew ?_ | refine blk_alloc ?_ _)); refine blk_put (cs := #[.int .i64 ((rd_T23 l1 x31_1).f0), .int .i64 ((rd_T23 l1 x31_1).f1), .string (⟨#[]⟩ : ByteArray)]) ?_ 2 _ rfl; (with_reducible repeat (first | refine blk_drewN ?_ _ | refine blk_drew ?_ | refine blk_alloc ?_ _)); refine blk_put (cs := #[.int .i64 ((rd_T23 l1 x31_1).f0), .int .i64 0, .string (⟨#[]⟩ : ByteArray)]) ?_ 1 _ rfl; (with_reducible repeat (first | refine blk_drewN ?_ _ | refine blk_drew ?_ | refine blk_alloc ?_ _)); refine blk_put (cs := #[.int .i64 0, .int .i64 0, .string (⟨#[]⟩ : ByteArray)]) ?_ 0 _ rfl; (with_reducible repeat (first | refine blk_drewN ?_ _ | refine blk_drew ?_ | refine blk_alloc ?_ _)); exact BK236.out⟩
            have n4_ : Aside0 (Below w.heap.size w (((w33.setCell ⟨gb236, 0, none⟩ (.int .i64 ((rd_T23 l1 x31_1).f0))).setCell ⟨gb236, 1, none⟩ (.int .i64 ((rd_T23 l1 x31_1).f1))).setCell ⟨gb236, 2, none⟩ (.string ((rd_T23 l1 x31_1).f2)))) := ⟨(lO HB)⟩
            (try clear BK230)
            (try clear BK231)
            (try clear BK232)
            (try clear BK236)
            (try clear HB)
            generalize (((w33.setCell ⟨gb236, 0, none⟩ (.int .i64 ((rd_T23 l1 x31_1).f0))).setCell ⟨gb236, 1, none⟩ (.int .i64 ((rd_T23 l1 x31_1).f1))).setCell ⟨gb236, 2, none⟩ (.string ((rd_T23 l1 x31_1).f2))) = w38 at n0_ n1_ n2_ n3_ n4_ ⊢
            have BK230 := n0_
            have BK231 := n1_
            have BK232 := n2_
            have BK236 := n3_
            have HB := n4_
            clear n0_ n1_ n2_ n3_ n4_
            have n0_ := aM (blk_drew BK230.out)
            have n1_ := aM (blk_drew BK231.out)
            have n2_ := aM (blk_drew BK232.out)
            have n3_ := aM (blk_drew BK236.out)
            have n4_ := aM (below_drew1 HB.out)
            clear BK230
            clear BK231
            clear BK232
            clear BK236
            clear HB
            have BK230 := n0_
            have BK231 := n1_
            have BK232 := n2_
            have BK236 := n3_
            have HB := n4_
            clear n0_ n1_ n2_ n3_ n4_
            have p238 : 0 ≤ (x31_1 : Int) := of_decide_eq_true (by first | (with_reducible assumption) | assumption)
            have q238 : x31_1 < (l0_1.length : Int) := of_decide_eq_true (by first | (with_reducible assumption) | assumption)
            obtain ⟨ad238, e238, hx238_0, hx238_1, hx238_2⟩ := at_T57 HR0_1.out x31_1 p238 q238
            have hw238_2 := hx238_2
            have hw238_1 := hx238_1
            have hw238_0 := hx238_0
            cases e238
            replace hx238_0 := (HB.out.cell (World.block_lt_of_cell? w _ hx238_0)).trans hx238_0
            replace hx238_1 := (HB.out.cell (World.block_lt_of_cell? w _ hx238_1)).trans hx238_1
            replace hx238_2 := (HB.out.cell (World.block_lt_of_cell? w _ hx238_2)).trans hx238_2
            replace p238 := eq_true p238
            replace q238 := eq_true q238
            refine start_ (n := 19) (S := fun w' => w'.cell? ⟨gb236, 0, none⟩ = some (.int .i64 ((rd_T23 l1 x31_1).f0)) ∧ w'.cell? ⟨gb236, 1, none⟩ = some (.int .i64 ((rd_T23 l1 x31_1).f1)) ∧ w'.cell? ⟨gb236, 2, none⟩ = some (.string ((rd_T23 l1 x31_1).f2)) ∧ w'.cell? ⟨gb230, 0, none⟩ = some (.string a0_0) ∧ w'.cell? ⟨gb230, 1, none⟩ = some (.slice (some ad238) l0_1.length c0_1) ∧ w'.cell? ⟨gb230, 2, none⟩ = some (.int .i64 a0_2) ∧ w'.cell? ⟨gb230, 3, none⟩ = some (.int .i64 a0_3) ∧ w'.cell? ⟨gb230, 4, none⟩ = some (.int .i64 a0_4) ∧ w'.cell? ⟨gb230, 5, none⟩ = some (.slice A0_5 l0_5.length c0_5) ∧ w'.cell? ⟨gb230, 6, none⟩ = some (.slice A0_6 l0_6.length c0_6) ∧ w'.cell? ⟨gb230, 7, none⟩ = some (.slice A0_7 l0_7.length c0_7) ∧ w'.cell? ⟨gb230, 8, none⟩ = some (.int .i64 a0_8) ∧ w'.cell? ⟨gb230, 9, none⟩ = some (.int .i64 a0_9) ∧ w'.cell? ⟨gb230, 10, none⟩ = some (.int .i64 a0_10) ∧ w'.cell? (ad238.add ((x31_1).toNat * 3)) = some (.string ((rd_T57 l0_1 x31_1).f0)) ∧ w'.cell? ⟨(ad238.add ((x31_1).toNat * 3)).block, (ad238.add ((x31_1).toNat * 3)).off + 1, none⟩ = some (.int .i64 ((rd_T57 l0_1 x31_1).f1)) ∧ w'.cell? ⟨(ad238.add ((x31_1).toNat * 3)).block, (ad238.add ((x31_1).toNat * 3)).off + 2, none⟩ = some (.bool ((rd_T57 l0_1 x31_1).f2))) (ds := []) #[false, false, false, false, false, false, false, false, false, false, false, false, false, false, false, false, false, false, false] (by kernel_rfl) rfl rfl ⟨(blk_cell BK236.out 0).trans rfl, (blk_cell BK236.out 1).trans rfl, (blk_cell BK236.out 2).trans rfl, (blk_cell BK230.out 0).trans rfl, (blk_cell BK230.out 1).trans rfl, (blk_cell BK230.out 2).trans rfl, (blk_cell BK230.out 3).trans rfl, (blk_cell BK230.out 4).trans rfl, (blk_cell BK230.out 5).trans rfl, (blk_cell BK230.out 6).trans rfl, (blk_cell BK230.out 7).trans rfl, (blk_cell BK230.out 8).trans rfl, (blk_cell BK230.out 9).trans rfl, (blk_cell BK230.out 10).trans rfl, ((HB.out.cell (World.block_lt_of_cell? w _ hw238_0)).trans hw238_0), ((HB.out.cell (World.block_lt_of_cell? w _ hw238_1)).trans hw238_1), ((HB.out.cell (World.block_lt_of_cell? w _ hw238_2)).trans hw238_2)⟩ (fun hHeld => ?_); refine with_tabW expr_Eval.tab9 expr_Eval.bits9 (fun HT_ HW_ => ?_)
            generalize w38.drew = w39 at BK230 BK231 BK232 BK236 HB hx238_0 hx238_1 hx238_2 hHeld ⊢
            refine take_ (i := 0) (N := some 36) (v := ?_) (a' := ?_) #[true, false, false, false, false, false, false, false, false, false, false, false, false, false, false, false, false, false, false] rfl rfl (take_ofW HT_.out HW_.out (by kernel_rfl)) (fun _ _ _ h => h) (Or.inl ⟨by rfl, ?_⟩) hHeld ?_ ?_
            rotate_left
            ·rintro w' ⟨s0, s1, s2, s3, s4, s5, s6, s7, s8, s9, s10, s11, s12, s13, s14, s15, s16⟩
             go_simp
             with_reducible rfl
            rotate_left
            ·simp only [Act.put, sA, sB, sC, i64_w, i32_w]
             rfl
            refine one_ (i := 1) (N := some 37) #[true, true, false, false, false, false, false, false, false, false, false, false, false, false, false, false, false, false, false] rfl rfl (one_of HT_.out (by kernel_rfl)) (by decide) (fun K hK => ?_)
            refine goes_ Try.func28 (by kernel_rfl) rfl #[.agg #[.int .i64 ((rd_T23 l1 x31_1).f0), .int .i64 ((rd_T23 l1 x31_1).f1), .string ((rd_T23 l1 x31_1).f2)]] (by rfl) rfl rfl (by (try simp only [List.map_toArray, List.map_cons, List.map_nil]); first | done | rfl | (simp only [List.length_drop, List.length_take]; rfl)) ?_
            with_reducible refine (value_May.calls ((rd_T23 l1 x31_1).f0) ((rd_T23 l1 x31_1).f1) ((rd_T23 l1 x31_1).f2) true _ A20.out).mono ?_
            rintro e w40 ⟨rfl, hb⟩
            refine ⟨_, rfl, ?_⟩
            have n0_ := aM (blk_below (bO BK230) hb)
            have n1_ := aM (blk_below (bO BK231) hb)
            have n2_ := aM (blk_below (bO BK232) hb)
            have n3_ := aM (blk_below (bO BK236) hb)
            have n4_ := aM (below_step (lO HB) hb)
            clear BK230
            clear BK231
            clear BK232
            clear BK236
            clear HB
            have BK230 := n0_
            have BK231 := n1_
            have BK232 := n2_
            have BK236 := n3_
            have HB := n4_
            clear n0_ n1_ n2_ n3_ n4_
            (try clear hb)
            (try clear hb2)
            (try clear hk)
            (try clear hi)
            refine hK.out _ _ ⟨(blk_cell BK236.out 0).trans rfl, (blk_cell BK236.out 1).trans rfl, (blk_cell BK236.out 2).trans rfl, (blk_cell BK230.out 0).trans rfl, (blk_cell BK230.out 1).trans rfl, (blk_cell BK230.out 2).trans rfl, (blk_cell BK230.out 3).trans rfl, (blk_cell BK230.out 4).trans rfl, (blk_cell BK230.out 5).trans rfl, (blk_cell BK230.out 6).trans rfl, (blk_cell BK230.out 7).trans rfl, (blk_cell BK230.out 8).trans rfl, (blk_cell BK230.out 9).trans rfl, (blk_cell BK230.out 10).trans rfl, ((HB.out.cell (World.block_lt_of_cell? w _ hw238_0)).trans hw238_0), ((HB.out.cell (World.block_lt_of_cell? w _ hw238_1)).trans hw238_1), ((HB.out.cell (World.block_lt_of_cell? w _ hw238_2)).trans hw238_2)⟩ (fun hHeld => ?_)
            clear hK K
            refine norm_ (a' := ?_) ?_ ?_
            rotate_left
            ·show Act.put _ (some 37) _ = _
             simp only [Act.put, sA, sB, sC, i64_w, i32_w]
             rfl
            refine pure_ (i := 2) (N := some 38) (v := ?_) (a' := ?_) #[true, true, true, false, false, false, false, false, false, false, false, false, false, false, false, false, false, false, false] rfl rfl (any_of HT_.out (by kernel_rfl)) (fun _ _ _ h => h) (Or.inl ⟨by rfl, ?_⟩) ?_ ?_
            rotate_left
            ·intro w'
             go_simp
             with_reducible rfl
            rotate_left
            ·simp only [Act.put, sA, sB, sC, i64_w, i32_w]
             rfl
            refine pure_ (i := 3) (N := some 39) (v := ?_) (a' := ?_) #[true, true, true, true, false, false, false, false, false, false, false, false, false, false, false, false, false, false, false] rfl rfl (any_of HT_.out (by kernel_rfl)) (fun _ _ _ h => h) (Or.inl ⟨by rfl, ?_⟩) ?_ ?_
            rotate_left
            ·intro w'
             go_simp
             with_reducible rfl
            rotate_left
            ·simp only [Act.put, sA, sB, sC, i64_w, i32_w]
             rfl
            refine pure_ (i := 4) (N := some 40) (v := ?_) (a' := ?_) #[true, true, true, true, true, false, false, false, false, false, false, false, false, false, false, false, false, false, false] rfl rfl (any_of HT_.out (by kernel_rfl)) (fun _ _ _ h => h) (Or.inl ⟨by rfl, ?_⟩) ?_ ?_
            rotate_left
            ·intro w'
             go_simp
             with_reducible rfl
            rotate_left
            ·simp only [Act.put, sA, sB, sC, i64_w, i32_w]
             rfl
            refine pure_ (i := 6) (N := some 42) (v := ?_) (a' := ?_) #[true, true, true, true, true, false, true, false, false, false, false, false, false, false, false, false, false, false, false] rfl rfl (any_of HT_.out (by kernel_rfl)) (fun _ _ _ h => h) (Or.inl ⟨by rfl, ?_⟩) ?_ ?_
            rotate_left
            ·intro w'
             go_simp
             with_reducible rfl
            rotate_left
            ·simp only [Act.put, sA, sB, sC, i64_w, i32_w]
             rfl
            refine pure_ (i := 8) (N := some 44) (v := ?_) (a' := ?_) #[true, true, true, true, true, false, true, false, true, false, false, false, false, false, false, false, false, false, false] rfl rfl (any_of HT_.out (by kernel_rfl)) (fun _ _ _ h => h) (Or.inl ⟨by rfl, ?_⟩) ?_ ?_
            rotate_left
            ·intro w'
             go_simp
             with_reducible rfl
            rotate_left
            ·simp only [Act.put, sA, sB, sC, i64_w, i32_w]
             rfl
            refine take_ (i := 5) (N := some 41) (v := ?_) (a' := ?_) #[true, true, true, true, true, true, true, false, true, false, false, false, false, false, false, false, false, false, false] rfl rfl (take_ofW HT_.out HW_.out (by kernel_rfl)) (fun _ _ _ h => h) (Or.inl ⟨by rfl, ?_⟩) hHeld ?_ ?_
            rotate_left
            ·rintro w' ⟨s0, s1, s2, s3, s4, s5, s6, s7, s8, s9, s10, s11, s12, s13, s14, s15, s16⟩
             go_simp
             with_reducible rfl
            rotate_left
            ·simp only [Act.put, sA, sB, sC, i64_w, i32_w]
             rfl
            refine take_ (i := 7) (N := some 43) (v := ?_) (a' := ?_) #[true, true, true, true, true, true, true, true, true, false, false, false, false, false, false, false, false, false, false] rfl rfl (take_ofW HT_.out HW_.out (by kernel_rfl)) (fun _ _ _ h => h) (Or.inl ⟨by rfl, ?_⟩) hHeld ?_ ?_
            rotate_left
            ·rintro w' ⟨s0, s1, s2, s3, s4, s5, s6, s7, s8, s9, s10, s11, s12, s13, s14, s15, s16⟩
             go_simp
             with_reducible rfl
            rotate_left
            ·simp only [Act.put, sA, sB, sC, i64_w, i32_w]
             rfl
            refine pure_ (i := 9) (N := some 45) (v := ?_) (a' := ?_) #[true, true, true, true, true, true, true, true, true, true, false, false, false, false, false, false, false, false, false] rfl rfl (any_of HT_.out (by kernel_rfl)) (fun _ _ _ h => h) (Or.inl ⟨by rfl, ?_⟩) ?_ ?_
            rotate_left
            ·intro w'
             go_simp
             with_reducible rfl
            rotate_left
            ·simp only [Act.put, sA, sB, sC, i64_w, i32_w]
             rfl
            refine pure_ (i := 10) (N := some 46) (v := ?_) (a' := ?_) #[true, true, true, true, true, true, true, true, true, true, true, false, false, false, false, false, false, false, false] rfl rfl (any_of HT_.out (by kernel_rfl)) (fun _ _ _ h => h) (Or.inl ⟨by rfl, ?_⟩) ?_ ?_
            rotate_left
            ·intro w'
             go_simp
             with_reducible rfl
            rotate_left
            ·simp only [Act.put, sA, sB, sC, i64_w, i32_w]
             rfl
            refine take_ (i := 11) (N := some 47) (v := ?_) (a' := ?_) #[true, true, true, true, true, true, true, true, true, true, true, true, false, false, false, false, false, false, false] rfl rfl (take_ofW HT_.out HW_.out (by kernel_rfl)) (fun _ _ _ h => h) (Or.inl ⟨by rfl, ?_⟩) hHeld ?_ ?_
            rotate_left
            ·rintro w' ⟨s0, s1, s2, s3, s4, s5, s6, s7, s8, s9, s10, s11, s12, s13, s14, s15, s16⟩
             go_simp
             with_reducible rfl
            rotate_left
            ·simp only [Act.put, sA, sB, sC, i64_w, i32_w]
             rfl
            refine pure_ (i := 12) (N := some 48) (v := ?_) (a' := ?_) #[true, true, true, true, true, true, true, true, true, true, true, true, true, false, false, false, false, false, false] rfl rfl (any_of HT_.out (by kernel_rfl)) (fun _ _ _ h => h) (Or.inl ⟨by rfl, ?_⟩) ?_ ?_
            rotate_left
            ·intro w'
             go_simp
             with_reducible rfl
            rotate_left
            ·simp only [Act.put, sA, sB, sC, i64_w, i32_w]
             rfl
            refine pure_ (i := 13) (N := some 49) (v := ?_) (a' := ?_) #[true, true, true, true, true, true, true, true, true, true, true, true, true, true, false, false, false, false, false] rfl rfl (any_of HT_.out (by kernel_rfl)) (fun _ _ _ h => h) (Or.inl ⟨by rfl, ?_⟩) ?_ ?_
            rotate_left
            ·intro w'
             go_simp
             with_reducible rfl
            rotate_left
            ·simp only [Act.put, sA, sB, sC, i64_w, i32_w]
             rfl
            refine pure_ (i := 14) (N := some 50) (v := ?_) (a' := ?_) #[true, true, true, true, true, true, true, true, true, true, true, true, true, true, true, false, false, false, false] rfl rfl (any_of HT_.out (by kernel_rfl)) (fun _ _ _ h => h) (Or.inl ⟨by rfl, ?_⟩) ?_ ?_
            rotate_left
            ·intro w'
             go_simp
             with_reducible rfl
            rotate_left
            ·simp only [Act.put, sA, sB, sC, i64_w, i32_w]
             rfl
            refine take_ (i := 15) (N := some 51) (v := ?_) (a' := ?_) #[true, true, true, true, true, true, true, true, true, true, true, true, true, true, true, true, false, false, false] rfl rfl (take_ofW HT_.out HW_.out (by kernel_rfl)) (fun _ _ _ h => h) (Or.inl ⟨by rfl, ?_⟩) hHeld ?_ ?_
            rotate_left
            ·rintro w' ⟨s0, s1, s2, s3, s4, s5, s6, s7, s8, s9, s10, s11, s12, s13, s14, s15, s16⟩
             go_simp
             with_reducible rfl
            rotate_left
            ·simp only [Act.put, sA, sB, sC, i64_w, i32_w]
             rfl
            refine pure_ (i := 16) (N := some 52) (v := ?_) (a' := ?_) #[true, true, true, true, true, true, true, true, true, true, true, true, true, true, true, true, true, false, false] rfl rfl (any_of HT_.out (by kernel_rfl)) (fun _ _ _ h => h) (Or.inl ⟨by rfl, ?_⟩) ?_ ?_
            rotate_left
            ·intro w'
             go_simp
             with_reducible rfl
            rotate_left
            ·simp only [Act.put, sA, sB, sC, i64_w, i32_w]
             rfl
            refine pure_ (i := 17) (N := some 53) (v := ?_) (a' := ?_) #[true, true, true, true, true, true, true, true, true, true, true, true, true, true, true, true, true, true, false] rfl rfl (any_of HT_.out (by kernel_rfl)) (fun _ _ _ h => h) (Or.inl ⟨by rfl, ?_⟩) ?_ ?_
            rotate_left
            ·intro w'
             go_simp
             with_reducible rfl
            rotate_left
            ·simp only [Act.put, sA, sB, sC, i64_w, i32_w]
             rfl
            refine pure_ (i := 18) (N := some 54) (v := ?_) (a' := ?_) #[true, true, true, true, true, true, true, true, true, true, true, true, true, true, true, true, true, true, true] rfl rfl (any_of HT_.out (by kernel_rfl)) (fun _ _ _ h => h) (Or.inl ⟨by rfl, ?_⟩) ?_ ?_
            rotate_left
            ·intro w'
             go_simp
             with_reducible rfl
            rotate_left
            ·simp only [Act.put, sA, sB, sC, i64_w, i32_w]
             rfl
            refine done_ (done_of HT_.out (by kernel_rfl)) ?_
            try go_wp2
            go_roundg k1
            case measure => have := HK1.out; omega
            case rel => exact ⟨(wrap64 (x31_1 + 1)), (x233000_1), (x233001_1), (x233002_1), (by first | rfl | (simp; done) | (simp [*]; done)), H', ⟨by have := HK1.out; omega⟩, ⟨bO BK230⟩, ⟨bO BK231⟩, ⟨bO BK232⟩, ⟨(lO HB)⟩⟩
           ·rw [if_neg c32] at H
            have c32b0 : (((rd_T23 l1 x31_1).f0) == 0) = false := beq_eq_false_iff_ne.mpr c32
            have c32b1 : (((rd_T23 l1 x31_1).f0) != 0) = true := bne_iff_ne.mpr c32
            simp only [Option.some.injEq, Prod.mk.injEq] at H
            obtain ⟨rfl, rfl, rfl, rfl⟩ := H
            have p235 : 0 ≤ (x31_1 : Int) := of_decide_eq_true (by first | (with_reducible assumption) | assumption)
            have q235 : x31_1 < (l1.length : Int) := of_decide_eq_true (by first | (with_reducible assumption) | assumption)
            obtain ⟨ad235, e235, hx235_0, hx235_1, hx235_2⟩ := at_T23 HR1.out x31_1 p235 q235
            cases e235
            replace hx235_0 := (HB.out.cell (World.block_lt_of_cell? w _ hx235_0)).trans hx235_0
            replace hx235_1 := (HB.out.cell (World.block_lt_of_cell? w _ hx235_1)).trans hx235_1
            replace hx235_2 := (HB.out.cell (World.block_lt_of_cell? w _ hx235_2)).trans hx235_2
            replace p235 := eq_true p235
            replace q235 := eq_true q235
            try go_wp2_with (first | ((with_reducible refine gate_dst (N := 11) rfl ?_); refine bE (N := 11) (cs := #[.int .i64 0, .int .i64 0, .string (⟨#[]⟩ : ByteArray)]) (t := 23) ?_; intro gb236 hg w41 hbox hb; have n0_ := aM (blk_below (bO BK230) hb); have n1_ := aM (blk_below (bO BK231) hb); have n2_ := aM (blk_below (bO BK232) hb); have n3_ := aM (below_step (lO HB) hb); have n4_ := aM (hbox); have n5_ := aM (gO hg (lO HB)); have n6_ := aM (gO hg (lO HB)); have n7_ := aM (ne_lt hg (bO BK230)); have n8_ := aM (ne_gt hg (bO BK230)); have n9_ := aM (ne_lt hg (bO BK231)); have n10_ := aM (ne_gt hg (bO BK231)); have n11_ := aM (ne_lt hg (bO BK232)); have n12_ := aM (ne_gt hg (bO BK232)); clear BK230; clear BK231; clear BK232; clear HB; have BK230 := n0_; have BK231 := n1_; have BK232 := n2_; have HB := n3_; have BK236 := n4_; have GW236 := n5_; have GE236 := n6_; have NB230_236 := n7_; have NB236_230 := n8_; have NB231_236 := n9_; have NB236_231 := n10_; have NB232_236 := n11_; have NB236_232 := n12_; clear n0_ n1_ n2_ n3_ n4_ n5_ n6_ n7_ n8_ n9_ n10_ n11_ n12_; clear hb hbox hg; have hnb42 := NB236_230.out; have hnc42 := NB230_236.out; have hnb43 := NB236_231.out; have hnc43 := NB231_236.out; have hnb44 := NB236_232.out; have hnc44 := NB232_236.out; have C45_0 := c3_0 BK236; have C45_1 := c3_1 BK236; have C45_2 := c3_2 BK236; have F45_0 := fz BK236 0; have F45_1 := fz BK236 1; have F45_2 := fz BK236 2))
            have n0_ : Aside0 ((((w41.setCell ⟨gb236, 0, none⟩ (.int .i64 ((rd_T23 l1 x31_1).f0))).setCell ⟨gb236, 1, none⟩ (.int .i64 ((rd_T23 l1 x31_1).f1))).setCell ⟨gb236, 2, none⟩ (.string ((rd_T23 l1 x31_1).f2))).heap[gb230]? = some (.cells #[.string a0_0, .slice A0_1 l0_1.length c0_1, .int .i64 a0_2, .int .i64 a0_3, .int .i64 a0_4, .slice A0_5 l0_5.length c0_5, .slice A0_6 l0_6.length c0_6, .slice A0_7 l0_7.length c0_7, .int .i64 a0_8, .int .i64 a0_9, .int .i64 a0_10] 32 (0, 0))) := ⟨by (with_reducible repeat (first | refine blk_drewN ?_ _ | refine blk_drew ?_ | refine blk_alloc ?_ _)); refine blk_far ?_ NB230_236.out _; (with_reducible repeat (first | refine blk_drewN ?_ _ | refine blk_drew ?_ | refine blk_alloc ?_ _)); refine blk_far ?_ NB230_236.out _; (with_reducible repeat (first | refine blk_drewN ?_ _ | refine blk_drew ?_ | refine blk_alloc ?_ _)); refine blk_far ?_ NB230_236.out _; (with_reducible repeat (first | refine blk_drewN ?_ _ | refine blk_drew ?_ | refine blk_alloc ?_ _)); exact BK230.out⟩
            have n1_ : Aside0 ((((w41.setCell ⟨gb236, 0, none⟩ (.int .i64 ((rd_T23 l1 x31_1).f0))).setCell ⟨gb236, 1, none⟩ (.int .i64 ((rd_T23 l1 x31_1).f1))).setCell ⟨gb236, 2, none⟩ (.string ((rd_T23 l1 x31_1).f2))).heap[gb231]? = some (.cells #[.int .i64 a2_0, .string a2_1, .int .i64 a2_2, .int .i64 a2_3, .string a2_4, .slice A2_5 l2_5.length c2_5] 26 (0, 0))) := ⟨by (with_reducible repeat (first | refine blk_drewN ?_ _ | refine blk_drew ?_ | refine blk_alloc ?_ _)); refine blk_far ?_ NB231_236.out _; (with_reducible repeat (first | refine blk_drewN ?_ _ | refine blk_drew ?_ | refine blk_alloc ?_ _)); refine blk_far ?_ NB231_236.out _; (with_reducible repeat (first | refine blk_drewN ?_ _ | refine blk_drew ?_ | refine blk_alloc ?_ _)); refine blk_far ?_ NB231_236.out _; (with_reducible repeat (first | refine blk_drewN ?_ _ | refine blk_drew ?_ | refine blk_alloc ?_ _)); exact BK231.out⟩
            have n2_ : Aside0 ((((w41.setCell ⟨gb236, 0, none⟩ (.int .i64 ((rd_T23 l1 x31_1).f0))).setCell ⟨gb236, 1, none⟩ (.int .i64 ((rd_T23 l1 x31_1).f1))).setCell ⟨gb236, 2, none⟩ (.string ((rd_T23 l1 x31_1).f2))).heap[gb232]? = some (.cells #[.int .i64 x233000_1, .int .i64 x233001_1, .string x233002_1] 23 (0, 0))) := ⟨by (with_reducible repeat (first | refine blk_drewN ?_ _ | refine blk_drew ?_ | refine blk_alloc ?_ _)); refine blk_far ?_ NB232_236.out _; (with_reducible repeat (first | refine blk_drewN ?_ _ | refine blk_drew ?_ | refine blk_alloc ?_ _)); refine blk_far ?_ NB232_236.out _; (with_reducible repeat (first | refine blk_drewN ?_ _ | refine blk_drew ?_ | refine blk_alloc ?_ _)); refine blk_far ?_ NB232_236.out _; (with_reducible repeat (first | refine blk_drewN ?_ _ | refine blk_drew ?_ | refine blk_alloc ?_ _)); exact BK232.out⟩
            have n3_ : Aside0 ((((w41.setCell ⟨gb236, 0, none⟩ (.int .i64 ((rd_T23 l1 x31_1).f0))).setCell ⟨gb236, 1, none⟩ (.int .i64 ((rd_T23 l1 x31_1).f1))).setCell ⟨gb236, 2, none⟩ (.string ((rd_T23 l1 x31_1).f2))).heap[gb236]? = some (.cells #[.int .i64 ((rd_T23 l1 x31_1).f0), .int .i64 ((rd_T23 l1 x31_1).f1), .string ((rd_T23 l1 x31_1).f2)] 23 (0, 0))) := ⟨by (with_reducible repeat (first | refine blk_drewN ?_ _ | refine blk_drew ?_ | refine blk_alloc ?_ _)); refine blk_put (cs := #[.int .i64 ((rd_T23 l1 x31_1).f0), .int .i64 ((rd_T23 l1 x31_1).f1), .string (⟨#[]⟩ : ByteArray)]) ?_ 2 _ rfl; (with_reducible repeat (first | refine blk_drewN ?_ _ | refine blk_drew ?_ | refine blk_alloc ?_ _)); refine blk_put (cs := #[.int .i64 ((rd_T23 l1 x31_1).f0), .int .i64 0, .string (⟨#[]⟩ : ByteArray)]) ?_ 1 _ rfl; (with_reducible repeat (first | refine blk_drewN ?_ _ | refine blk_drew ?_ | refine blk_alloc ?_ _)); refine blk_put (cs := #[.int .i64 0, .int .i64 0, .string (⟨#[]⟩ : ByteArray)]) ?_ 0 _ rfl; (with_reducible repeat (first | refine blk_drewN ?_ _ | refine blk_drew ?_ | refine blk_alloc ?_ _)); exact BK236.out⟩
            have n4_ : Aside0 (Below w.heap.size w (((w41.setCell ⟨gb236, 0, none⟩ (.int .i64 ((rd_T23 l1 x31_1).f0))).setCell ⟨gb236, 1, none⟩ (.int .i64 ((rd_T23 l1 x31_1).f1))).setCell ⟨gb236, 2, none⟩ (.string ((rd_T23 l1 x31_1).f2)))) := ⟨(lO HB)⟩
            (try clear BK230)
            (try clear BK231)
            (try clear BK232)
            (try clear BK236)
            (try clear HB)
            generalize (((w41.setCell ⟨gb236, 0, none⟩ (.int .i64 ((rd_T23 l1 x31_1).f0))).setCell ⟨gb236, 1, none⟩ (.int .i64 ((rd_T23 l1 x31_1).f1))).setCell ⟨gb236, 2, none⟩ (.string ((rd_T23 l1 x31_1).f2))) = w46 at n0_ n1_ n2_ n3_ n4_ ⊢
            have BK230 := n0_
            have BK231 := n1_
            have BK232 := n2_
            have BK236 := n3_
            have HB := n4_
            clear n0_ n1_ n2_ n3_ n4_
            have n0_ := aM (blk_drew BK230.out)
            have n1_ := aM (blk_drew BK231.out)
            have n2_ := aM (blk_drew BK232.out)
            have n3_ := aM (blk_drew BK236.out)
            have n4_ := aM (below_drew1 HB.out)
            clear BK230
            clear BK231
            clear BK232
            clear BK236
            clear HB
            have BK230 := n0_
            have BK231 := n1_
            have BK232 := n2_
            have BK236 := n3_
            have HB := n4_
            clear n0_ n1_ n2_ n3_ n4_
            have p238 : 0 ≤ (x31_1 : Int) := of_decide_eq_true (by first | (with_reducible assumption) | assumption)
            have q238 : x31_1 < (l0_1.length : Int) := of_decide_eq_true (by first | (with_reducible assumption) | assumption)
            obtain ⟨ad238, e238, hx238_0, hx238_1, hx238_2⟩ := at_T57 HR0_1.out x31_1 p238 q238
            have hw238_2 := hx238_2
            have hw238_1 := hx238_1
            have hw238_0 := hx238_0
            cases e238
            replace hx238_0 := (HB.out.cell (World.block_lt_of_cell? w _ hx238_0)).trans hx238_0
            replace hx238_1 := (HB.out.cell (World.block_lt_of_cell? w _ hx238_1)).trans hx238_1
            replace hx238_2 := (HB.out.cell (World.block_lt_of_cell? w _ hx238_2)).trans hx238_2
            replace p238 := eq_true p238
            replace q238 := eq_true q238
            refine start_ (n := 19) (S := fun w' => w'.cell? ⟨gb236, 0, none⟩ = some (.int .i64 ((rd_T23 l1 x31_1).f0)) ∧ w'.cell? ⟨gb236, 1, none⟩ = some (.int .i64 ((rd_T23 l1 x31_1).f1)) ∧ w'.cell? ⟨gb236, 2, none⟩ = some (.string ((rd_T23 l1 x31_1).f2)) ∧ w'.cell? ⟨gb230, 0, none⟩ = some (.string a0_0) ∧ w'.cell? ⟨gb230, 1, none⟩ = some (.slice (some ad238) l0_1.length c0_1) ∧ w'.cell? ⟨gb230, 2, none⟩ = some (.int .i64 a0_2) ∧ w'.cell? ⟨gb230, 3, none⟩ = some (.int .i64 a0_3) ∧ w'.cell? ⟨gb230, 4, none⟩ = some (.int .i64 a0_4) ∧ w'.cell? ⟨gb230, 5, none⟩ = some (.slice A0_5 l0_5.length c0_5) ∧ w'.cell? ⟨gb230, 6, none⟩ = some (.slice A0_6 l0_6.length c0_6) ∧ w'.cell? ⟨gb230, 7, none⟩ = some (.slice A0_7 l0_7.length c0_7) ∧ w'.cell? ⟨gb230, 8, none⟩ = some (.int .i64 a0_8) ∧ w'.cell? ⟨gb230, 9, none⟩ = some (.int .i64 a0_9) ∧ w'.cell? ⟨gb230, 10, none⟩ = some (.int .i64 a0_10) ∧ w'.cell? (ad238.add ((x31_1).toNat * 3)) = some (.string ((rd_T57 l0_1 x31_1).f0)) ∧ w'.cell? ⟨(ad238.add ((x31_1).toNat * 3)).block, (ad238.add ((x31_1).toNat * 3)).off + 1, none⟩ = some (.int .i64 ((rd_T57 l0_1 x31_1).f1)) ∧ w'.cell? ⟨(ad238.add ((x31_1).toNat * 3)).block, (ad238.add ((x31_1).toNat * 3)).off + 2, none⟩ = some (.bool ((rd_T57 l0_1 x31_1).f2))) (ds := []) #[false, false, false, false, false, false, false, false, false, false, false, false, false, false, false, false, false, false, false] (by kernel_rfl) rfl rfl ⟨(blk_cell BK236.out 0).trans rfl, (blk_cell BK236.out 1).trans rfl, (blk_cell BK236.out 2).trans rfl, (blk_cell BK230.out 0).trans rfl, (blk_cell BK230.out 1).trans rfl, (blk_cell BK230.out 2).trans rfl, (blk_cell BK230.out 3).trans rfl, (blk_cell BK230.out 4).trans rfl, (blk_cell BK230.out 5).trans rfl, (blk_cell BK230.out 6).trans rfl, (blk_cell BK230.out 7).trans rfl, (blk_cell BK230.out 8).trans rfl, (blk_cell BK230.out 9).trans rfl, (blk_cell BK230.out 10).trans rfl, ((HB.out.cell (World.block_lt_of_cell? w _ hw238_0)).trans hw238_0), ((HB.out.cell (World.block_lt_of_cell? w _ hw238_1)).trans hw238_1), ((HB.out.cell (World.block_lt_of_cell? w _ hw238_2)).trans hw238_2)⟩ (fun hHeld => ?_); refine with_tabW expr_Eval.tab9 expr_Eval.bits9 (fun HT_ HW_ => ?_)
            generalize w46.drew = w47 at BK230 BK231 BK232 BK236 HB hx238_0 hx238_1 hx238_2 hHeld ⊢
            refine take_ (i := 0) (N := some 36) (v := ?_) (a' := ?_) #[true, false, false, false, false, false, false, false, false, false, false, false, false, false, false, false, false, false, false] rfl rfl (take_ofW HT_.out HW_.out (by kernel_rfl)) (fun _ _ _ h => h) (Or.inl ⟨by rfl, ?_⟩) hHeld ?_ ?_
            rotate_left
            ·rintro w' ⟨s0, s1, s2, s3, s4, s5, s6, s7, s8, s9, s10, s11, s12, s13, s14, s15, s16⟩
             go_simp
             with_reducible rfl
            rotate_left
            ·simp only [Act.put, sA, sB, sC, i64_w, i32_w]
             rfl
            refine one_ (i := 1) (N := some 37) #[true, true, false, false, false, false, false, false, false, false, false, false, false, false, false, false, false, false, false] rfl rfl (one_of HT_.out (by kernel_rfl)) (by decide) (fun K hK => ?_)
            refine goes_ Try.func28 (by kernel_rfl) rfl #[.agg #[.int .i64 ((rd_T23 l1 x31_1).f0), .int .i64 ((rd_T23 l1 x31_1).f1), .string ((rd_T23 l1 x31_1).f2)]] (by rfl) rfl rfl (by (try simp only [List.map_toArray, List.map_cons, List.map_nil]); first | done | rfl | (simp only [List.length_drop, List.length_take]; rfl)) ?_
            with_reducible refine (value_May.calls ((rd_T23 l1 x31_1).f0) ((rd_T23 l1 x31_1).f1) ((rd_T23 l1 x31_1).f2) true _ A20.out).mono ?_
            rintro e w48 ⟨rfl, hb⟩
            refine ⟨_, rfl, ?_⟩
            have n0_ := aM (blk_below (bO BK230) hb)
            have n1_ := aM (blk_below (bO BK231) hb)
            have n2_ := aM (blk_below (bO BK232) hb)
            have n3_ := aM (blk_below (bO BK236) hb)
            have n4_ := aM (below_step (lO HB) hb)
            clear BK230
            clear BK231
            clear BK232
            clear BK236
            clear HB
            have BK230 := n0_
            have BK231 := n1_
            have BK232 := n2_
            have BK236 := n3_
            have HB := n4_
            clear n0_ n1_ n2_ n3_ n4_
            (try clear hb)
            (try clear hb2)
            (try clear hk)
            (try clear hi)
            refine hK.out _ _ ⟨(blk_cell BK236.out 0).trans rfl, (blk_cell BK236.out 1).trans rfl, (blk_cell BK236.out 2).trans rfl, (blk_cell BK230.out 0).trans rfl, (blk_cell BK230.out 1).trans rfl, (blk_cell BK230.out 2).trans rfl, (blk_cell BK230.out 3).trans rfl, (blk_cell BK230.out 4).trans rfl, (blk_cell BK230.out 5).trans rfl, (blk_cell BK230.out 6).trans rfl, (blk_cell BK230.out 7).trans rfl, (blk_cell BK230.out 8).trans rfl, (blk_cell BK230.out 9).trans rfl, (blk_cell BK230.out 10).trans rfl, ((HB.out.cell (World.block_lt_of_cell? w _ hw238_0)).trans hw238_0), ((HB.out.cell (World.block_lt_of_cell? w _ hw238_1)).trans hw238_1), ((HB.out.cell (World.block_lt_of_cell? w _ hw238_2)).trans hw238_2)⟩ (fun hHeld => ?_)
            clear hK K
            refine norm_ (a' := ?_) ?_ ?_
            rotate_left
            ·show Act.put _ (some 37) _ = _
             simp only [Act.put, sA, sB, sC, i64_w, i32_w]
             rfl
            refine pure_ (i := 2) (N := some 38) (v := ?_) (a' := ?_) #[true, true, true, false, false, false, false, false, false, false, false, false, false, false, false, false, false, false, false] rfl rfl (any_of HT_.out (by kernel_rfl)) (fun _ _ _ h => h) (Or.inl ⟨by rfl, ?_⟩) ?_ ?_
            rotate_left
            ·intro w'
             go_simp
             with_reducible rfl
            rotate_left
            ·simp only [Act.put, sA, sB, sC, i64_w, i32_w]
             rfl
            refine pure_ (i := 3) (N := some 39) (v := ?_) (a' := ?_) #[true, true, true, true, false, false, false, false, false, false, false, false, false, false, false, false, false, false, false] rfl rfl (any_of HT_.out (by kernel_rfl)) (fun _ _ _ h => h) (Or.inl ⟨by rfl, ?_⟩) ?_ ?_
            rotate_left
            ·intro w'
             go_simp
             with_reducible rfl
            rotate_left
            ·simp only [Act.put, sA, sB, sC, i64_w, i32_w]
             rfl
            refine pure_ (i := 4) (N := some 40) (v := ?_) (a' := ?_) #[true, true, true, true, true, false, false, false, false, false, false, false, false, false, false, false, false, false, false] rfl rfl (any_of HT_.out (by kernel_rfl)) (fun _ _ _ h => h) (Or.inl ⟨by rfl, ?_⟩) ?_ ?_
            rotate_left
            ·intro w'
             go_simp
             with_reducible rfl
            rotate_left
            ·simp only [Act.put, sA, sB, sC, i64_w, i32_w]
             rfl
            refine pure_ (i := 6) (N := some 42) (v := ?_) (a' := ?_) #[true, true, true, true, true, false, true, false, false, false, false, false, false, false, false, false, false, false, false] rfl rfl (any_of HT_.out (by kernel_rfl)) (fun _ _ _ h => h) (Or.inl ⟨by rfl, ?_⟩) ?_ ?_
            rotate_left
            ·intro w'
             go_simp
             with_reducible rfl
            rotate_left
            ·simp only [Act.put, sA, sB, sC, i64_w, i32_w]
             rfl
            refine pure_ (i := 8) (N := some 44) (v := ?_) (a' := ?_) #[true, true, true, true, true, false, true, false, true, false, false, false, false, false, false, false, false, false, false] rfl rfl (any_of HT_.out (by kernel_rfl)) (fun _ _ _ h => h) (Or.inl ⟨by rfl, ?_⟩) ?_ ?_
            rotate_left
            ·intro w'
             go_simp
             with_reducible rfl
            rotate_left
            ·simp only [Act.put, sA, sB, sC, i64_w, i32_w]
             rfl
            refine take_ (i := 5) (N := some 41) (v := ?_) (a' := ?_) #[true, true, true, true, true, true, true, false, true, false, false, false, false, false, false, false, false, false, false] rfl rfl (take_ofW HT_.out HW_.out (by kernel_rfl)) (fun _ _ _ h => h) (Or.inl ⟨by rfl, ?_⟩) hHeld ?_ ?_
            rotate_left
            ·rintro w' ⟨s0, s1, s2, s3, s4, s5, s6, s7, s8, s9, s10, s11, s12, s13, s14, s15, s16⟩
             go_simp
             with_reducible rfl
            rotate_left
            ·simp only [Act.put, sA, sB, sC, i64_w, i32_w]
             rfl
            refine take_ (i := 7) (N := some 43) (v := ?_) (a' := ?_) #[true, true, true, true, true, true, true, true, true, false, false, false, false, false, false, false, false, false, false] rfl rfl (take_ofW HT_.out HW_.out (by kernel_rfl)) (fun _ _ _ h => h) (Or.inl ⟨by rfl, ?_⟩) hHeld ?_ ?_
            rotate_left
            ·rintro w' ⟨s0, s1, s2, s3, s4, s5, s6, s7, s8, s9, s10, s11, s12, s13, s14, s15, s16⟩
             go_simp
             with_reducible rfl
            rotate_left
            ·simp only [Act.put, sA, sB, sC, i64_w, i32_w]
             rfl
            refine pure_ (i := 9) (N := some 45) (v := ?_) (a' := ?_) #[true, true, true, true, true, true, true, true, true, true, false, false, false, false, false, false, false, false, false] rfl rfl (any_of HT_.out (by kernel_rfl)) (fun _ _ _ h => h) (Or.inl ⟨by rfl, ?_⟩) ?_ ?_
            rotate_left
            ·intro w'
             go_simp
             with_reducible rfl
            rotate_left
            ·simp only [Act.put, sA, sB, sC, i64_w, i32_w]
             rfl
            refine pure_ (i := 10) (N := some 46) (v := ?_) (a' := ?_) #[true, true, true, true, true, true, true, true, true, true, true, false, false, false, false, false, false, false, false] rfl rfl (any_of HT_.out (by kernel_rfl)) (fun _ _ _ h => h) (Or.inl ⟨by rfl, ?_⟩) ?_ ?_
            rotate_left
            ·intro w'
             go_simp
             with_reducible rfl
            rotate_left
            ·simp only [Act.put, sA, sB, sC, i64_w, i32_w]
             rfl
            refine take_ (i := 11) (N := some 47) (v := ?_) (a' := ?_) #[true, true, true, true, true, true, true, true, true, true, true, true, false, false, false, false, false, false, false] rfl rfl (take_ofW HT_.out HW_.out (by kernel_rfl)) (fun _ _ _ h => h) (Or.inl ⟨by rfl, ?_⟩) hHeld ?_ ?_
            rotate_left
            ·rintro w' ⟨s0, s1, s2, s3, s4, s5, s6, s7, s8, s9, s10, s11, s12, s13, s14, s15, s16⟩
             go_simp
             with_reducible rfl
            rotate_left
            ·simp only [Act.put, sA, sB, sC, i64_w, i32_w]
             rfl
            refine pure_ (i := 12) (N := some 48) (v := ?_) (a' := ?_) #[true, true, true, true, true, true, true, true, true, true, true, true, true, false, false, false, false, false, false] rfl rfl (any_of HT_.out (by kernel_rfl)) (fun _ _ _ h => h) (Or.inl ⟨by rfl, ?_⟩) ?_ ?_
            rotate_left
            ·intro w'
             go_simp
             with_reducible rfl
            rotate_left
            ·simp only [Act.put, sA, sB, sC, i64_w, i32_w]
             rfl
            refine pure_ (i := 13) (N := some 49) (v := ?_) (a' := ?_) #[true, true, true, true, true, true, true, true, true, true, true, true, true, true, false, false, false, false, false] rfl rfl (any_of HT_.out (by kernel_rfl)) (fun _ _ _ h => h) (Or.inl ⟨by rfl, ?_⟩) ?_ ?_
            rotate_left
            ·intro w'
             go_simp
             with_reducible rfl
            rotate_left
            ·simp only [Act.put, sA, sB, sC, i64_w, i32_w]
             rfl
            refine pure_ (i := 14) (N := some 50) (v := ?_) (a' := ?_) #[true, true, true, true, true, true, true, true, true, true, true, true, true, true, true, false, false, false, false] rfl rfl (any_of HT_.out (by kernel_rfl)) (fun _ _ _ h => h) (Or.inl ⟨by rfl, ?_⟩) ?_ ?_
            rotate_left
            ·intro w'
             go_simp
             with_reducible rfl
            rotate_left
            ·simp only [Act.put, sA, sB, sC, i64_w, i32_w]
             rfl
            refine take_ (i := 15) (N := some 51) (v := ?_) (a' := ?_) #[true, true, true, true, true, true, true, true, true, true, true, true, true, true, true, true, false, false, false] rfl rfl (take_ofW HT_.out HW_.out (by kernel_rfl)) (fun _ _ _ h => h) (Or.inl ⟨by rfl, ?_⟩) hHeld ?_ ?_
            rotate_left
            ·rintro w' ⟨s0, s1, s2, s3, s4, s5, s6, s7, s8, s9, s10, s11, s12, s13, s14, s15, s16⟩
             go_simp
             with_reducible rfl
            rotate_left
            ·simp only [Act.put, sA, sB, sC, i64_w, i32_w]
             rfl
            refine pure_ (i := 16) (N := some 52) (v := ?_) (a' := ?_) #[true, true, true, true, true, true, true, true, true, true, true, true, true, true, true, true, true, false, false] rfl rfl (any_of HT_.out (by kernel_rfl)) (fun _ _ _ h => h) (Or.inl ⟨by rfl, ?_⟩) ?_ ?_
            rotate_left
            ·intro w'
             go_simp
             with_reducible rfl
            rotate_left
            ·simp only [Act.put, sA, sB, sC, i64_w, i32_w]
             rfl
            refine pure_ (i := 17) (N := some 53) (v := ?_) (a' := ?_) #[true, true, true, true, true, true, true, true, true, true, true, true, true, true, true, true, true, true, false] rfl rfl (any_of HT_.out (by kernel_rfl)) (fun _ _ _ h => h) (Or.inl ⟨by rfl, ?_⟩) ?_ ?_
            rotate_left
            ·intro w'
             go_simp
             with_reducible rfl
            rotate_left
            ·simp only [Act.put, sA, sB, sC, i64_w, i32_w]
             rfl
            refine pure_ (i := 18) (N := some 54) (v := ?_) (a' := ?_) #[true, true, true, true, true, true, true, true, true, true, true, true, true, true, true, true, true, true, true] rfl rfl (any_of HT_.out (by kernel_rfl)) (fun _ _ _ h => h) (Or.inl ⟨by rfl, ?_⟩) ?_ ?_
            rotate_left
            ·intro w'
             go_simp
             with_reducible rfl
            rotate_left
            ·simp only [Act.put, sA, sB, sC, i64_w, i32_w]
             rfl
            refine done_ (done_of HT_.out (by kernel_rfl)) ?_
            have hnb49 := NB232_230.out
            have hnc49 := NB230_232.out
            have hnb50 := NB232_231.out
            have hnc50 := NB231_232.out
            have C51_0 := c3_0 BK232
            have C51_1 := c3_1 BK232
            have C51_2 := c3_2 BK232
            have F51_0 := fz BK232 0
            have F51_1 := fz BK232 1
            have F51_2 := fz BK232 2
            try go_wp2
            refine bodyPost_ret (results_ct rfl _ _ gb232 23 #[.int .i64 0, .int .i64 0, .string (⟨#[]⟩ : ByteArray)] (0, 0) _ rfl (by (with_reducible repeat (first | refine blk_drewN ?_ _ | refine blk_drew ?_ | refine blk_alloc ?_ _)); refine blk_put (cs := #[.int .i64 0, .int .i64 0, .string x233002_1]) ?_ 2 _ rfl; (with_reducible repeat (first | refine blk_drewN ?_ _ | refine blk_drew ?_ | refine blk_alloc ?_ _)); refine blk_put (cs := #[.int .i64 0, .int .i64 x233001_1, .string x233002_1]) ?_ 1 _ rfl; (with_reducible repeat (first | refine blk_drewN ?_ _ | refine blk_drew ?_ | refine blk_alloc ?_ _)); refine blk_put (cs := #[.int .i64 x233000_1, .int .i64 x233001_1, .string x233002_1]) ?_ 0 _ rfl; (with_reducible repeat (first | refine blk_drewN ?_ _ | refine blk_drew ?_ | refine blk_alloc ?_ _)); exact BK232.out) Try.underlying23 rfl (by kernel_rfl)) rfl ?_
            exact ⟨by first | rfl | (simp [errW_none, errW_some] <;> rfl) | (simp [*, errW_none, errW_some] <;> rfl), (lO HB)⟩
         ·rw [if_neg c22] at H
          exact absurd H (by simp)
        ·replace c21 := Bool.eq_false_iff.mpr c21
         subst c21
         have H1 : (some (0, 0, (⟨#[]⟩ : ByteArray), 9)) = some (r1, r2, r3, r4) := by rw [if_neg (show ¬ (false = true) by decide)] at H; exact H
         clear H
         have H := H1
         clear H1
         simp only [Option.some.injEq, Prod.mk.injEq] at H
         obtain ⟨rfl, rfl, rfl, rfl⟩ := H
         have p235 : 0 ≤ (x31_1 : Int) := of_decide_eq_true (by first | (with_reducible assumption) | assumption)
         have q235 : x31_1 < (l1.length : Int) := of_decide_eq_true (by first | (with_reducible assumption) | assumption)
         obtain ⟨ad235, e235, hx235_0, hx235_1, hx235_2⟩ := at_T23 HR1.out x31_1 p235 q235
         cases e235
         replace hx235_0 := (HB.out.cell (World.block_lt_of_cell? w _ hx235_0)).trans hx235_0
         replace hx235_1 := (HB.out.cell (World.block_lt_of_cell? w _ hx235_1)).trans hx235_1
         replace hx235_2 := (HB.out.cell (World.block_lt_of_cell? w _ hx235_2)).trans hx235_2
         replace p235 := eq_true p235
         replace q235 := eq_true q235
         try go_wp2_with (first | ((with_reducible refine gate_dst (N := 11) rfl ?_); refine bE (N := 11) (cs := #[.int .i64 0, .int .i64 0, .string (⟨#[]⟩ : ByteArray)]) (t := 23) ?_; intro gb236 hg w52 hbox hb; have n0_ := aM (blk_below (bO BK230) hb); have n1_ := aM (blk_below (bO BK231) hb); have n2_ := aM (blk_below (bO BK232) hb); have n3_ := aM (below_step (lO HB) hb); have n4_ := aM (hbox); have n5_ := aM (gO hg (lO HB)); have n6_ := aM (gO hg (lO HB)); have n7_ := aM (ne_lt hg (bO BK230)); have n8_ := aM (ne_gt hg (bO BK230)); have n9_ := aM (ne_lt hg (bO BK231)); have n10_ := aM (ne_gt hg (bO BK231)); have n11_ := aM (ne_lt hg (bO BK232)); have n12_ := aM (ne_gt hg (bO BK232)); clear BK230; clear BK231; clear BK232; clear HB; have BK230 := n0_; have BK231 := n1_; have BK232 := n2_; have HB := n3_; have BK236 := n4_; have GW236 := n5_; have GE236 := n6_; have NB230_236 := n7_; have NB236_230 := n8_; have NB231_236 := n9_; have NB236_231 := n10_; have NB232_236 := n11_; have NB236_232 := n12_; clear n0_ n1_ n2_ n3_ n4_ n5_ n6_ n7_ n8_ n9_ n10_ n11_ n12_; clear hb hbox hg; have hnb53 := NB236_230.out; have hnc53 := NB230_236.out; have hnb54 := NB236_231.out; have hnc54 := NB231_236.out; have hnb55 := NB236_232.out; have hnc55 := NB232_236.out; have C56_0 := c3_0 BK236; have C56_1 := c3_1 BK236; have C56_2 := c3_2 BK236; have F56_0 := fz BK236 0; have F56_1 := fz BK236 1; have F56_2 := fz BK236 2))
         have n0_ : Aside0 ((((w52.setCell ⟨gb236, 0, none⟩ (.int .i64 ((rd_T23 l1 x31_1).f0))).setCell ⟨gb236, 1, none⟩ (.int .i64 ((rd_T23 l1 x31_1).f1))).setCell ⟨gb236, 2, none⟩ (.string ((rd_T23 l1 x31_1).f2))).heap[gb230]? = some (.cells #[.string a0_0, .slice A0_1 l0_1.length c0_1, .int .i64 a0_2, .int .i64 a0_3, .int .i64 a0_4, .slice A0_5 l0_5.length c0_5, .slice A0_6 l0_6.length c0_6, .slice A0_7 l0_7.length c0_7, .int .i64 a0_8, .int .i64 a0_9, .int .i64 a0_10] 32 (0, 0))) := ⟨by (with_reducible repeat (first | refine blk_drewN ?_ _ | refine blk_drew ?_ | refine blk_alloc ?_ _)); refine blk_far ?_ NB230_236.out _; (with_reducible repeat (first | refine blk_drewN ?_ _ | refine blk_drew ?_ | refine blk_alloc ?_ _)); refine blk_far ?_ NB230_236.out _; (with_reducible repeat (first | refine blk_drewN ?_ _ | refine blk_drew ?_ | refine blk_alloc ?_ _)); refine blk_far ?_ NB230_236.out _; (with_reducible repeat (first | refine blk_drewN ?_ _ | refine blk_drew ?_ | refine blk_alloc ?_ _)); exact BK230.out⟩
         have n1_ : Aside0 ((((w52.setCell ⟨gb236, 0, none⟩ (.int .i64 ((rd_T23 l1 x31_1).f0))).setCell ⟨gb236, 1, none⟩ (.int .i64 ((rd_T23 l1 x31_1).f1))).setCell ⟨gb236, 2, none⟩ (.string ((rd_T23 l1 x31_1).f2))).heap[gb231]? = some (.cells #[.int .i64 a2_0, .string a2_1, .int .i64 a2_2, .int .i64 a2_3, .string a2_4, .slice A2_5 l2_5.length c2_5] 26 (0, 0))) := ⟨by (with_reducible repeat (first | refine blk_drewN ?_ _ | refine blk_drew ?_ | refine blk_alloc ?_ _)); refine blk_far ?_ NB231_236.out _; (with_reducible repeat (first | refine blk_drewN ?_ _ | refine blk_drew ?_ | refine blk_alloc ?_ _)); refine blk_far ?_ NB231_236.out _; (with_reducible repeat (first | refine blk_drewN ?_ _ | refine blk_drew ?_ | refine blk_alloc ?_ _)); refine blk_far ?_ NB231_236.out _; (with_reducible repeat (first | refine blk_drewN ?_ _ | refine blk_drew ?_ | refine blk_alloc ?_ _)); exact BK231.out⟩
         have n2_ : Aside0 ((((w52.setCell ⟨gb236, 0, none⟩ (.int .i64 ((rd_T23 l1 x31_1).f0))).setCell ⟨gb236, 1, none⟩ (.int .i64 ((rd_T23 l1 x31_1).f1))).setCell ⟨gb236, 2, none⟩ (.string ((rd_T23 l1 x31_1).f2))).heap[gb232]? = some (.cells #[.int .i64 x233000_1, .int .i64 x233001_1, .string x233002_1] 23 (0, 0))) := ⟨by (with_reducible repeat (first | refine blk_drewN ?_ _ | refine blk_drew ?_ | refine blk_alloc ?_ _)); refine blk_far ?_ NB232_236.out _; (with_reducible repeat (first | refine blk_drewN ?_ _ | refine blk_drew ?_ | refine blk_alloc ?_ _)); refine blk_far ?_ NB232_236.out _; (with_reducible repeat (first | refine blk_drewN ?_ _ | refine blk_drew ?_ | refine blk_alloc ?_ _)); refine blk_far ?_ NB232_236.out _; (with_reducible repeat (first | refine blk_drewN ?_ _ | refine blk_drew ?_ | refine blk_alloc ?_ _)); exact BK232.out⟩
         have n3_ : Aside0 ((((w52.setCell ⟨gb236, 0, none⟩ (.int .i64 ((rd_T23 l1 x31_1).f0))).setCell ⟨gb236, 1, none⟩ (.int .i64 ((rd_T23 l1 x31_1).f1))).setCell ⟨gb236, 2, none⟩ (.string ((rd_T23 l1 x31_1).f2))).heap[gb236]? = some (.cells #[.int .i64 ((rd_T23 l1 x31_1).f0), .int .i64 ((rd_T23 l1 x31_1).f1), .string ((rd_T23 l1 x31_1).f2)] 23 (0, 0))) := ⟨by (with_reducible repeat (first | refine blk_drewN ?_ _ | refine blk_drew ?_ | refine blk_alloc ?_ _)); refine blk_put (cs := #[.int .i64 ((rd_T23 l1 x31_1).f0), .int .i64 ((rd_T23 l1 x31_1).f1), .string (⟨#[]⟩ : ByteArray)]) ?_ 2 _ rfl; (with_reducible repeat (first | refine blk_drewN ?_ _ | refine blk_drew ?_ | refine blk_alloc ?_ _)); refine blk_put (cs := #[.int .i64 ((rd_T23 l1 x31_1).f0), .int .i64 0, .string (⟨#[]⟩ : ByteArray)]) ?_ 1 _ rfl; (with_reducible repeat (first | refine blk_drewN ?_ _ | refine blk_drew ?_ | refine blk_alloc ?_ _)); refine blk_put (cs := #[.int .i64 0, .int .i64 0, .string (⟨#[]⟩ : ByteArray)]) ?_ 0 _ rfl; (with_reducible repeat (first | refine blk_drewN ?_ _ | refine blk_drew ?_ | refine blk_alloc ?_ _)); exact BK236.out⟩
         have n4_ : Aside0 (Below w.heap.size w (((w52.setCell ⟨gb236, 0, none⟩ (.int .i64 ((rd_T23 l1 x31_1).f0))).setCell ⟨gb236, 1, none⟩ (.int .i64 ((rd_T23 l1 x31_1).f1))).setCell ⟨gb236, 2, none⟩ (.string ((rd_T23 l1 x31_1).f2)))) := ⟨(lO HB)⟩
         (try clear BK230)
         (try clear BK231)
         (try clear BK232)
         (try clear BK236)
         (try clear HB)
         generalize (((w52.setCell ⟨gb236, 0, none⟩ (.int .i64 ((rd_T23 l1 x31_1).f0))).setCell ⟨gb236, 1, none⟩ (.int .i64 ((rd_T23 l1 x31_1).f1))).setCell ⟨gb236, 2, none⟩ (.string ((rd_T23 l1 x31_1).f2))) = w57 at n0_ n1_ n2_ n3_ n4_ ⊢
         have BK230 := n0_
         have BK231 := n1_
         have BK232 := n2_
         have BK236 := n3_
         have HB := n4_
         clear n0_ n1_ n2_ n3_ n4_
         have n0_ := aM (blk_drew BK230.out)
         have n1_ := aM (blk_drew BK231.out)
         have n2_ := aM (blk_drew BK232.out)
         have n3_ := aM (blk_drew BK236.out)
         have n4_ := aM (below_drew1 HB.out)
         clear BK230
         clear BK231
         clear BK232
         clear BK236
         clear HB
         have BK230 := n0_
         have BK231 := n1_
         have BK232 := n2_
         have BK236 := n3_
         have HB := n4_
         clear n0_ n1_ n2_ n3_ n4_
         refine start_ (n := 19) (S := fun w' => w'.cell? ⟨gb236, 0, none⟩ = some (.int .i64 ((rd_T23 l1 x31_1).f0)) ∧ w'.cell? ⟨gb236, 1, none⟩ = some (.int .i64 ((rd_T23 l1 x31_1).f1)) ∧ w'.cell? ⟨gb236, 2, none⟩ = some (.string ((rd_T23 l1 x31_1).f2))) (ds := []) #[false, false, false, false, false, false, false, false, false, false, false, false, false, false, false, false, false, false, false] (by kernel_rfl) rfl rfl ⟨(blk_cell BK236.out 0).trans rfl, (blk_cell BK236.out 1).trans rfl, (blk_cell BK236.out 2).trans rfl⟩ (fun hHeld => ?_); refine with_tabW expr_Eval.tab9 expr_Eval.bits9 (fun HT_ HW_ => ?_)
         generalize w57.drew = w58 at BK230 BK231 BK232 BK236 HB hHeld ⊢
         refine take_ (i := 0) (N := some 36) (v := ?_) (a' := ?_) #[true, false, false, false, false, false, false, false, false, false, false, false, false, false, false, false, false, false, false] rfl rfl (take_ofW HT_.out HW_.out (by kernel_rfl)) (fun _ _ _ h => h) (Or.inl ⟨by rfl, ?_⟩) hHeld ?_ ?_
         rotate_left
         ·rintro w' ⟨s0, s1, s2⟩
          go_simp
          with_reducible rfl
         rotate_left
         ·simp only [Act.put, sA, sB, sC, i64_w, i32_w]
          rfl
         refine one_ (i := 1) (N := some 37) #[true, true, false, false, false, false, false, false, false, false, false, false, false, false, false, false, false, false, false] rfl rfl (one_of HT_.out (by kernel_rfl)) (by decide) (fun K hK => ?_)
         refine goes_ Try.func28 (by kernel_rfl) rfl #[.agg #[.int .i64 ((rd_T23 l1 x31_1).f0), .int .i64 ((rd_T23 l1 x31_1).f1), .string ((rd_T23 l1 x31_1).f2)]] (by rfl) rfl rfl (by (try simp only [List.map_toArray, List.map_cons, List.map_nil]); first | done | rfl | (simp only [List.length_drop, List.length_take]; rfl)) ?_
         with_reducible refine (value_May.calls ((rd_T23 l1 x31_1).f0) ((rd_T23 l1 x31_1).f1) ((rd_T23 l1 x31_1).f2) false _ A20.out).mono ?_
         rintro e w59 ⟨rfl, hb⟩
         refine ⟨_, rfl, ?_⟩
         have n0_ := aM (blk_below (bO BK230) hb)
         have n1_ := aM (blk_below (bO BK231) hb)
         have n2_ := aM (blk_below (bO BK232) hb)
         have n3_ := aM (blk_below (bO BK236) hb)
         have n4_ := aM (below_step (lO HB) hb)
         clear BK230
         clear BK231
         clear BK232
         clear BK236
         clear HB
         have BK230 := n0_
         have BK231 := n1_
         have BK232 := n2_
         have BK236 := n3_
         have HB := n4_
         clear n0_ n1_ n2_ n3_ n4_
         (try clear hb)
         (try clear hb2)
         (try clear hk)
         (try clear hi)
         refine hK.out _ _ ⟨(blk_cell BK236.out 0).trans rfl, (blk_cell BK236.out 1).trans rfl, (blk_cell BK236.out 2).trans rfl⟩ (fun hHeld => ?_)
         clear hK K
         refine norm_ (a' := ?_) ?_ ?_
         rotate_left
         ·show Act.put _ (some 37) _ = _
          simp only [Act.put, sA, sB, sC, i64_w, i32_w]
          rfl
         refine pure_ (i := 2) (N := some 38) (v := ?_) (a' := ?_) #[true, true, true, false, false, false, false, false, false, false, false, false, false, false, false, false, false, false, false] rfl rfl (any_of HT_.out (by kernel_rfl)) (fun _ _ _ h => h) (Or.inl ⟨by rfl, ?_⟩) ?_ ?_
         rotate_left
         ·intro w'
          go_simp
          with_reducible rfl
         rotate_left
         ·simp only [Act.put, sA, sB, sC, i64_w, i32_w]
          rfl
         refine pure_ (i := 3) (N := some 39) (v := ?_) (a' := ?_) #[true, true, true, true, false, false, false, false, false, false, false, false, false, false, false, false, false, false, false] rfl rfl (any_of HT_.out (by kernel_rfl)) (fun _ _ _ h => h) (Or.inl ⟨by rfl, ?_⟩) ?_ ?_
         rotate_left
         ·intro w'
          go_simp
          with_reducible rfl
         rotate_left
         ·simp only [Act.put, sA, sB, sC, i64_w, i32_w]
          rfl
         refine pure_ (i := 4) (N := some 40) (v := undef) (a' := ?_) #[true, true, true, true, true, false, false, false, false, false, false, false, false, false, false, false, false, false, false] rfl rfl (any_of HT_.out (by kernel_rfl)) (fun _ _ _ h => h) (Or.inr ⟨by rfl, rfl⟩) ?_ ?_
         rotate_left
         ·simp only [Act.put, sA, sB, sC, i64_w, i32_w]
          rfl
         refine pure_ (i := 5) (N := some 41) (v := undef) (a' := ?_) #[true, true, true, true, true, true, false, false, false, false, false, false, false, false, false, false, false, false, false] rfl rfl (any_of HT_.out (by kernel_rfl)) (fun _ _ _ h => h) (Or.inr ⟨by rfl, rfl⟩) ?_ ?_
         rotate_left
         ·simp only [Act.put, sA, sB, sC, i64_w, i32_w]
          rfl
         refine pure_ (i := 6) (N := some 42) (v := undef) (a' := ?_) #[true, true, true, true, true, true, true, false, false, false, false, false, false, false, false, false, false, false, false] rfl rfl (any_of HT_.out (by kernel_rfl)) (fun _ _ _ h => h) (Or.inr ⟨by rfl, rfl⟩) ?_ ?_
         rotate_left
         ·simp only [Act.put, sA, sB, sC, i64_w, i32_w]
          rfl
         refine pure_ (i := 7) (N := some 43) (v := undef) (a' := ?_) #[true, true, true, true, true, true, true, true, false, false, false, false, false, false, false, false, false, false, false] rfl rfl (any_of HT_.out (by kernel_rfl)) (fun _ _ _ h => h) (Or.inr ⟨by rfl, rfl⟩) ?_ ?_
         rotate_left
         ·simp only [Act.put, sA, sB, sC, i64_w, i32_w]
          rfl
         refine pure_ (i := 8) (N := some 44) (v := undef) (a' := ?_) #[true, true, true, true, true, true, true, true, true, false, false, false, false, false, false, false, false, false, false] rfl rfl (any_of HT_.out (by kernel_rfl)) (fun _ _ _ h => h) (Or.inr ⟨by rfl, rfl⟩) ?_ ?_
         rotate_left
         ·simp only [Act.put, sA, sB, sC, i64_w, i32_w]
          rfl
         refine pure_ (i := 9) (N := some 45) (v := undef) (a' := ?_) #[true, true, true, true, true, true, true, true, true, true, false, false, false, false, false, false, false, false, false] rfl rfl (any_of HT_.out (by kernel_rfl)) (fun _ _ _ h => h) (Or.inr ⟨by rfl, rfl⟩) ?_ ?_
         rotate_left
         ·simp only [Act.put, sA, sB, sC, i64_w, i32_w]
          rfl
         refine pure_ (i := 10) (N := some 46) (v := undef) (a' := ?_) #[true, true, true, true, true, true, true, true, true, true, true, false, false, false, false, false, false, false, false] rfl rfl (any_of HT_.out (by kernel_rfl)) (fun _ _ _ h => h) (Or.inr ⟨by rfl, rfl⟩) ?_ ?_
         rotate_left
         ·simp only [Act.put, sA, sB, sC, i64_w, i32_w]
          rfl
         refine pure_ (i := 11) (N := some 47) (v := undef) (a' := ?_) #[true, true, true, true, true, true, true, true, true, true, true, true, false, false, false, false, false, false, false] rfl rfl (any_of HT_.out (by kernel_rfl)) (fun _ _ _ h => h) (Or.inr ⟨by rfl, rfl⟩) ?_ ?_
         rotate_left
         ·simp only [Act.put, sA, sB, sC, i64_w, i32_w]
          rfl
         refine pure_ (i := 12) (N := some 48) (v := undef) (a' := ?_) #[true, true, true, true, true, true, true, true, true, true, true, true, true, false, false, false, false, false, false] rfl rfl (any_of HT_.out (by kernel_rfl)) (fun _ _ _ h => h) (Or.inr ⟨by rfl, rfl⟩) ?_ ?_
         rotate_left
         ·simp only [Act.put, sA, sB, sC, i64_w, i32_w]
          rfl
         refine pure_ (i := 13) (N := some 49) (v := undef) (a' := ?_) #[true, true, true, true, true, true, true, true, true, true, true, true, true, true, false, false, false, false, false] rfl rfl (any_of HT_.out (by kernel_rfl)) (fun _ _ _ h => h) (Or.inr ⟨by rfl, rfl⟩) ?_ ?_
         rotate_left
         ·simp only [Act.put, sA, sB, sC, i64_w, i32_w]
          rfl
         refine pure_ (i := 14) (N := some 50) (v := undef) (a' := ?_) #[true, true, true, true, true, true, true, true, true, true, true, true, true, true, true, false, false, false, false] rfl rfl (any_of HT_.out (by kernel_rfl)) (fun _ _ _ h => h) (Or.inr ⟨by rfl, rfl⟩) ?_ ?_
         rotate_left
         ·simp only [Act.put, sA, sB, sC, i64_w, i32_w]
          rfl
         refine pure_ (i := 15) (N := some 51) (v := undef) (a' := ?_) #[true, true, true, true, true, true, true, true, true, true, true, true, true, true, true, true, false, false, false] rfl rfl (any_of HT_.out (by kernel_rfl)) (fun _ _ _ h => h) (Or.inr ⟨by rfl, rfl⟩) ?_ ?_
         rotate_left
         ·simp only [Act.put, sA, sB, sC, i64_w, i32_w]
          rfl
         refine pure_ (i := 16) (N := some 52) (v := undef) (a' := ?_) #[true, true, true, true, true, true, true, true, true, true, true, true, true, true, true, true, true, false, false] rfl rfl (any_of HT_.out (by kernel_rfl)) (fun _ _ _ h => h) (Or.inr ⟨by rfl, rfl⟩) ?_ ?_
         rotate_left
         ·simp only [Act.put, sA, sB, sC, i64_w, i32_w]
          rfl
         refine pure_ (i := 17) (N := some 53) (v := undef) (a' := ?_) #[true, true, true, true, true, true, true, true, true, true, true, true, true, true, true, true, true, true, false] rfl rfl (any_of HT_.out (by kernel_rfl)) (fun _ _ _ h => h) (Or.inr ⟨by rfl, rfl⟩) ?_ ?_
         rotate_left
         ·simp only [Act.put, sA, sB, sC, i64_w, i32_w]
          rfl
         refine pure_ (i := 18) (N := some 54) (v := ?_) (a' := ?_) #[true, true, true, true, true, true, true, true, true, true, true, true, true, true, true, true, true, true, true] rfl rfl (any_of HT_.out (by kernel_rfl)) (fun _ _ _ h => h) (Or.inl ⟨by rfl, ?_⟩) ?_ ?_
         rotate_left
         ·intro w'
          go_simp
          with_reducible rfl
         rotate_left
         ·simp only [Act.put, sA, sB, sC, i64_w, i32_w]
          rfl
         refine done_ (done_of HT_.out (by kernel_rfl)) ?_
         have hnb60 := NB232_230.out
         have hnc60 := NB230_232.out
         have hnb61 := NB232_231.out
         have hnc61 := NB231_232.out
         have C62_0 := c3_0 BK232
         have C62_1 := c3_1 BK232
         have C62_2 := c3_2 BK232
         have F62_0 := fz BK232 0
         have F62_1 := fz BK232 1
         have F62_2 := fz BK232 2
         try go_wp2
         refine bodyPost_ret (results_ct rfl _ _ gb232 23 #[.int .i64 0, .int .i64 0, .string (⟨#[]⟩ : ByteArray)] (0, 0) _ rfl (by (with_reducible repeat (first | refine blk_drewN ?_ _ | refine blk_drew ?_ | refine blk_alloc ?_ _)); refine blk_put (cs := #[.int .i64 0, .int .i64 0, .string x233002_1]) ?_ 2 _ rfl; (with_reducible repeat (first | refine blk_drewN ?_ _ | refine blk_drew ?_ | refine blk_alloc ?_ _)); refine blk_put (cs := #[.int .i64 0, .int .i64 x233001_1, .string x233002_1]) ?_ 1 _ rfl; (with_reducible repeat (first | refine blk_drewN ?_ _ | refine blk_drew ?_ | refine blk_alloc ?_ _)); refine blk_put (cs := #[.int .i64 x233000_1, .int .i64 x233001_1, .string x233002_1]) ?_ 0 _ rfl; (with_reducible repeat (first | refine blk_drewN ?_ _ | refine blk_drew ?_ | refine blk_alloc ?_ _)); exact BK232.out) Try.underlying23 rfl (by kernel_rfl)) rfl ?_
         exact ⟨by first | rfl | (simp [errW_none, errW_some] <;> rfl) | (simp [*, errW_none, errW_some] <;> rfl), (lO HB)⟩
       ·rw [if_neg c19] at H
        exact absurd H (by simp)
      ·rw [if_neg c18] at H
       exact absurd H (by simp)
     ·rw [if_neg c17] at H
      have c17b0 : decide (x31_1 < (l1.length : Int)) = false := decide_eq_false c17
      clear c17
      replace H := Option.bind_eq_some_iff.mp H
      obtain ⟨⟨t239, t240, t241, t242⟩, A630, H⟩ := H
      replace H : (some (t239, t240, t241, t242)) = some (r1, r2, r3, r4) := H
      have A63 := aM A630
      clear A630
      simp only [Option.some.injEq, Prod.mk.injEq] at H
      obtain ⟨rfl, rfl, rfl, rfl⟩ := H
      have hnb64 := NB230_231.out
      have hnc64 := NB231_230.out
      have hnb65 := NB230_232.out
      have hnc65 := NB232_230.out
      have C66_0 := c11_0 BK230
      have C66_1 := c11_1 BK230
      have C66_2 := c11_2 BK230
      have C66_3 := c11_3 BK230
      have C66_4 := c11_4 BK230
      have C66_5 := c11_5 BK230
      have C66_6 := c11_6 BK230
      have C66_7 := c11_7 BK230
      have C66_8 := c11_8 BK230
      have C66_9 := c11_9 BK230
      have C66_10 := c11_10 BK230
      have F66_0 := fz BK230 0
      have F66_1 := fz BK230 1
      have F66_2 := fz BK230 2
      have F66_3 := fz BK230 3
      have F66_4 := fz BK230 4
      have F66_5 := fz BK230 5
      have F66_6 := fz BK230 6
      have F66_7 := fz BK230 7
      have F66_8 := fz BK230 8
      have F66_9 := fz BK230 9
      have F66_10 := fz BK230 10
      have hnb67 := NB231_232.out
      have hnc67 := NB232_231.out
      have C68_0 := c6_0 BK231
      have C68_1 := c6_1 BK231
      have C68_2 := c6_2 BK231
      have C68_3 := c6_3 BK231
      have C68_4 := c6_4 BK231
      have C68_5 := c6_5 BK231
      have F68_0 := fz BK231 0
      have F68_1 := fz BK231 1
      have F68_2 := fz BK231 2
      have F68_3 := fz BK231 3
      have F68_4 := fz BK231 4
      have F68_5 := fz BK231 5
      go_wp2_with (first | ((with_reducible refine gate_callee (f := 29) rfl ?_); refine gL (some 60) rfl rfl Try.func29 (by kernel_rfl) rfl #[.agg #[.string a0_0, .slice A0_1 l0_1.length c0_1, .int .i64 a0_2, .int .i64 a0_3, .int .i64 a0_4, .slice A0_5 l0_5.length c0_5, .slice A0_6 l0_6.length c0_6, .slice A0_7 l0_7.length c0_7, .int .i64 a0_8, .int .i64 a0_9, .int .i64 a0_10], .slice A1 l1.length c1, .agg #[.int .i64 a2_0, .string a2_1, .int .i64 a2_2, .int .i64 a2_3, .string a2_4, .slice A2_5 l2_5.length c2_5]] rfl ?_; (with_reducible refine (expr_eval.calls k1 a0_0 _ _ l0_1 a0_2 a0_3 a0_4 _ _ l0_5 _ _ l0_6 _ _ l0_7 a0_8 a0_9 a0_10 _ _ l1 a2_0 a2_1 a2_2 a2_3 a2_4 _ _ l2_5 t239 t240 t241 t242 _ ?side1 ?side2 ?side3 ?side4 ?side5 ?side6 ?side7 ?side8 ?side9 ?side10 ?side11 ?side12 A63.out).mono ?_); (case side1 => exact cO (Kd.C_below HR0_1.out HB.out)); (case side2 => exact HC0_1.out); (case side3 => exact cO (Kd.C_below HR0_5.out HB.out)); (case side4 => exact HC0_5.out); (case side5 => exact cO (Kd.C_below HR0_6.out HB.out)); (case side6 => exact HC0_6.out); (case side7 => exact cO (Kd.C_below HR0_7.out HB.out)); (case side8 => exact HC0_7.out); (case side9 => exact cO (Kd.C_below HR1.out HB.out)); (case side10 => exact HC1.out); (case side11 => exact cO (Kd.C_below HR2_5.out HB.out)); (case side12 => exact HC2_5.out); rintro e w69 ⟨rfl, hb⟩; refine ⟨_, rfl, ?_⟩; have n0_ := aM (blk_below (bO BK230) hb); have n1_ := aM (blk_below (bO BK231) hb); have n2_ := aM (blk_below (bO BK232) hb); have n3_ := aM (below_step (lO HB) hb); clear BK230; clear BK231; clear BK232; clear HB; have BK230 := n0_; have BK231 := n1_; have BK232 := n2_; have HB := n3_; clear n0_ n1_ n2_ n3_; (try clear hb); (try clear hb2); (try clear hk); (try clear hi); have C70_0 := c3_0 BK232; have C70_1 := c3_1 BK232; have C70_2 := c3_2 BK232; have F70_0 := fz BK232 0; have F70_1 := fz BK232 1; have F70_2 := fz BK232 2))
      refine bodyPost_ret (results_ct rfl _ _ gb232 23 #[.int .i64 t239, .int .i64 t240, .string t241] (0, 0) _ rfl (by (with_reducible repeat (first | refine blk_drewN ?_ _ | refine blk_drew ?_ | refine blk_alloc ?_ _)); refine blk_put (cs := #[.int .i64 t239, .int .i64 t240, .string x233002_1]) ?_ 2 _ rfl; (with_reducible repeat (first | refine blk_drewN ?_ _ | refine blk_drew ?_ | refine blk_alloc ?_ _)); refine blk_put (cs := #[.int .i64 t239, .int .i64 x233001_1, .string x233002_1]) ?_ 1 _ rfl; (with_reducible repeat (first | refine blk_drewN ?_ _ | refine blk_drew ?_ | refine blk_alloc ?_ _)); refine blk_put (cs := #[.int .i64 x233000_1, .int .i64 x233001_1, .string x233002_1]) ?_ 0 _ rfl; (with_reducible repeat (first | refine blk_drewN ?_ _ | refine blk_drew ?_ | refine blk_alloc ?_ _)); exact BK232.out) Try.underlying23 rfl (by kernel_rfl)) rfl ?_
      exact ⟨by first | rfl | (simp [errW_none, errW_some] <;> rfl) | (simp [*, errW_none, errW_some] <;> rfl), (lO HB)⟩
  ·rw [if_neg c6] at H
   have c6b0 : ((l1.length : Int) == (l0_1.length : Int)) = false := beq_eq_false_iff_ne.mpr c6
   have c6b1 : ((l1.length : Int) != (l0_1.length : Int)) = true := bne_iff_ne.mpr c6
   have c6b2 : (l1.length == l0_1.length) = false := by first | simpa using c6 | (simp at c6 ⊢; omega)
   simp only [Option.some.injEq, Prod.mk.injEq] at H
   obtain ⟨rfl, rfl, rfl, rfl⟩ := H
   go_enter Try.func15, Try.ntmps15
   go_wp2_with (first | ((with_reducible refine gate_dst (N := 3) rfl ?_); refine bE (N := 3) (cs := #[.string a0_0, .slice A0_1 l0_1.length c0_1, .int .i64 a0_2, .int .i64 a0_3, .int .i64 a0_4, .slice A0_5 l0_5.length c0_5, .slice A0_6 l0_6.length c0_6, .slice A0_7 l0_7.length c0_7, .int .i64 a0_8, .int .i64 a0_9, .int .i64 a0_10]) (t := 32) ?_; intro gb230 hg w71 hbox hb; have n0_ := aM (below_step (lO HB) hb); have n1_ := aM (hbox); have n2_ := aM (gO hg (lO HB)); have n3_ := aM (gO hg (lO HB)); clear HB; have HB := n0_; have BK230 := n1_; have GW230 := n2_; have GE230 := n3_; clear n0_ n1_ n2_ n3_; clear hb hbox hg) | ((with_reducible refine gate_dst (N := 5) rfl ?_); refine bE (N := 5) (cs := #[.int .i64 a2_0, .string a2_1, .int .i64 a2_2, .int .i64 a2_3, .string a2_4, .slice A2_5 l2_5.length c2_5]) (t := 26) ?_; intro gb231 hg w72 hbox hb; have n0_ := aM (blk_below (bO BK230) hb); have n1_ := aM (below_step (lO HB) hb); have n2_ := aM (hbox); have n3_ := aM (gO hg (lO HB)); have n4_ := aM (gO hg (lO HB)); have n5_ := aM (ne_lt hg (bO BK230)); have n6_ := aM (ne_gt hg (bO BK230)); clear BK230; clear HB; have BK230 := n0_; have HB := n1_; have BK231 := n2_; have GW231 := n3_; have GE231 := n4_; have NB230_231 := n5_; have NB231_230 := n6_; clear n0_ n1_ n2_ n3_ n4_ n5_ n6_; clear hb hbox hg) | ((with_reducible refine gate_dst (N := 6) rfl ?_); refine bE (N := 6) (cs := #[.int .i64 0, .int .i64 0, .string (⟨#[]⟩ : ByteArray)]) (t := 23) ?_; intro gb232 hg w73 hbox hb; have n0_ := aM (blk_below (bO BK230) hb); have n1_ := aM (blk_below (bO BK231) hb); have n2_ := aM (below_step (lO HB) hb); have n3_ := aM (hbox); have n4_ := aM (gO hg (lO HB)); have n5_ := aM (gO hg (lO HB)); have n6_ := aM (ne_lt hg (bO BK230)); have n7_ := aM (ne_gt hg (bO BK230)); have n8_ := aM (ne_lt hg (bO BK231)); have n9_ := aM (ne_gt hg (bO BK231)); clear BK230; clear BK231; clear HB; have BK230 := n0_; have BK231 := n1_; have HB := n2_; have BK232 := n3_; have GW232 := n4_; have GE232 := n5_; have NB230_232 := n6_; have NB232_230 := n7_; have NB231_232 := n8_; have NB232_231 := n9_; clear n0_ n1_ n2_ n3_ n4_ n5_ n6_ n7_ n8_ n9_; clear hb hbox hg; have hnb74 := NB230_231.out; have hnc74 := NB231_230.out; have hnb75 := NB230_232.out; have hnc75 := NB232_230.out; have C76_0 := c11_0 BK230; have C76_1 := c11_1 BK230; have C76_2 := c11_2 BK230; have C76_3 := c11_3 BK230; have C76_4 := c11_4 BK230; have C76_5 := c11_5 BK230; have C76_6 := c11_6 BK230; have C76_7 := c11_7 BK230; have C76_8 := c11_8 BK230; have C76_9 := c11_9 BK230; have C76_10 := c11_10 BK230; have F76_0 := fz BK230 0; have F76_1 := fz BK230 1; have F76_2 := fz BK230 2; have F76_3 := fz BK230 3; have F76_4 := fz BK230 4; have F76_5 := fz BK230 5; have F76_6 := fz BK230 6; have F76_7 := fz BK230 7; have F76_8 := fz BK230 8; have F76_9 := fz BK230 9; have F76_10 := fz BK230 10; have hnb77 := NB231_232.out; have hnc77 := NB232_231.out; have C78_0 := c6_0 BK231; have C78_1 := c6_1 BK231; have C78_2 := c6_2 BK231; have C78_3 := c6_3 BK231; have C78_4 := c6_4 BK231; have C78_5 := c6_5 BK231; have F78_0 := fz BK231 0; have F78_1 := fz BK231 1; have F78_2 := fz BK231 2; have F78_3 := fz BK231 3; have F78_4 := fz BK231 4; have F78_5 := fz BK231 5) | ((with_reducible refine gate_callee (f := 13) rfl ?_); refine gL (some 15) rfl rfl Try.func13 (by kernel_rfl) rfl #[.agg #[.string a0_0, .slice A0_1 l0_1.length c0_1, .int .i64 a0_2, .int .i64 a0_3, .int .i64 a0_4, .slice A0_5 l0_5.length c0_5, .slice A0_6 l0_6.length c0_6, .slice A0_7 l0_7.length c0_7, .int .i64 a0_8, .int .i64 a0_9, .int .i64 a0_10], .agg #[.int .i64 a2_0, .string a2_1, .int .i64 a2_2, .int .i64 a2_3, .string a2_4, .slice A2_5 l2_5.length c2_5]] rfl ?_; (with_reducible refine (expr_Type.calls k a0_0 _ _ l0_1 a0_2 a0_3 a0_4 _ _ l0_5 _ _ l0_6 _ _ l0_7 a0_8 a0_9 a0_10 a2_0 a2_1 a2_2 a2_3 a2_4 _ _ l2_5 t233 t234 _ ?side1 ?side2 ?side3 ?side4 ?side5 ?side6 ?side7 ?side8 ?side9 ?side10 A4.out).mono ?_); (case side1 => exact cO (Kd.C_below HR0_1.out HB.out)); (case side2 => exact HC0_1.out); (case side3 => exact cO (Kd.C_below HR0_5.out HB.out)); (case side4 => exact HC0_5.out); (case side5 => exact cO (Kd.C_below HR0_6.out HB.out)); (case side6 => exact HC0_6.out); (case side7 => exact cO (Kd.C_below HR0_7.out HB.out)); (case side8 => exact HC0_7.out); (case side9 => exact cO (Kd.C_below HR2_5.out HB.out)); (case side10 => exact HC2_5.out); rintro e w79 ⟨rfl, hb⟩; refine ⟨_, rfl, ?_⟩; have n0_ := aM (blk_below (bO BK230) hb); have n1_ := aM (blk_below (bO BK231) hb); have n2_ := aM (blk_below (bO BK232) hb); have n3_ := aM (below_step (lO HB) hb); clear BK230; clear BK231; clear BK232; clear HB; have BK230 := n0_; have BK231 := n1_; have BK232 := n2_; have HB := n3_; clear n0_ n1_ n2_ n3_; (try clear hb); (try clear hb2); (try clear hk); (try clear hi); have C80_0 := c11_0 BK230; have C80_1 := c11_1 BK230; have C80_2 := c11_2 BK230; have C80_3 := c11_3 BK230; have C80_4 := c11_4 BK230; have C80_5 := c11_5 BK230; have C80_6 := c11_6 BK230; have C80_7 := c11_7 BK230; have C80_8 := c11_8 BK230; have C80_9 := c11_9 BK230; have C80_10 := c11_10 BK230; have F80_0 := fz BK230 0; have F80_1 := fz BK230 1; have F80_2 := fz BK230 2; have F80_3 := fz BK230 3; have F80_4 := fz BK230 4; have F80_5 := fz BK230 5; have F80_6 := fz BK230 6; have F80_7 := fz BK230 7; have F80_8 := fz BK230 8; have F80_9 := fz BK230 9; have F80_10 := fz BK230 10; have C81_0 := c3_0 BK232; have C81_1 := c3_1 BK232; have C81_2 := c3_2 BK232; have F81_0 := fz BK232 0; have F81_1 := fz BK232 1; have F81_2 := fz BK232 2))
   refine bodyPost_ret (results_ct rfl _ _ gb232 23 #[.int .i64 0, .int .i64 0, .string (⟨#[]⟩ : ByteArray)] (0, 0) _ rfl (by (with_reducible repeat (first | refine blk_drewN ?_ _ | refine blk_drew ?_ | refine blk_alloc ?_ _)); refine blk_put (cs := #[.int .i64 0, .int .i64 0, .string (⟨#[]⟩ : ByteArray)]) ?_ 2 _ rfl; (with_reducible repeat (first | refine blk_drewN ?_ _ | refine blk_drew ?_ | refine blk_alloc ?_ _)); refine blk_put (cs := #[.int .i64 0, .int .i64 0, .string (⟨#[]⟩ : ByteArray)]) ?_ 1 _ rfl; (with_reducible repeat (first | refine blk_drewN ?_ _ | refine blk_drew ?_ | refine blk_alloc ?_ _)); refine blk_put (cs := #[.int .i64 0, .int .i64 0, .string (⟨#[]⟩ : ByteArray)]) ?_ 0 _ rfl; (with_reducible repeat (first | refine blk_drewN ?_ _ | refine blk_drew ?_ | refine blk_alloc ?_ _)); exact BK232.out) Try.underlying23 rfl (by kernel_rfl)) rfl ?_
   exact ⟨by first | rfl | (simp [errW_none, errW_some] <;> rfl) | (simp [*, errW_none, errW_some] <;> rfl), (lO HB)⟩
 ·rw [if_neg c5] at H
  have c5b0 : (t234 == 0) = false := beq_eq_false_iff_ne.mpr c5
  have c5b1 : (t234 != 0) = true := bne_iff_ne.mpr c5
  simp only [Option.some.injEq, Prod.mk.injEq] at H
  obtain ⟨rfl, rfl, rfl, rfl⟩ := H
  go_enter Try.func15, Try.ntmps15
  go_wp2_with (first | ((with_reducible refine gate_dst (N := 3) rfl ?_); refine bE (N := 3) (cs := #[.string a0_0, .slice A0_1 l0_1.length c0_1, .int .i64 a0_2, .int .i64 a0_3, .int .i64 a0_4, .slice A0_5 l0_5.length c0_5, .slice A0_6 l0_6.length c0_6, .slice A0_7 l0_7.length c0_7, .int .i64 a0_8, .int .i64 a0_9, .int .i64 a0_10]) (t := 32) ?_; intro gb230 hg w82 hbox hb; have n0_ := aM (below_step (lO HB) hb); have n1_ := aM (hbox); have n2_ := aM (gO hg (lO HB)); have n3_ := aM (gO hg (lO HB)); clear HB; have HB := n0_; have BK230 := n1_; have GW230 := n2_; have GE230 := n3_; clear n0_ n1_ n2_ n3_; clear hb hbox hg) | ((with_reducible refine gate_dst (N := 5) rfl ?_); refine bE (N := 5) (cs := #[.int .i64 a2_0, .string a2_1, .int .i64 a2_2, .int .i64 a2_3, .string a2_4, .slice A2_5 l2_5.length c2_5]) (t := 26) ?_; intro gb231 hg w83 hbox hb; have n0_ := aM (blk_below (bO BK230) hb); have n1_ := aM (below_step (lO HB) hb); have n2_ := aM (hbox); have n3_ := aM (gO hg (lO HB)); have n4_ := aM (gO hg (lO HB)); have n5_ := aM (ne_lt hg (bO BK230)); have n6_ := aM (ne_gt hg (bO BK230)); clear BK230; clear HB; have BK230 := n0_; have HB := n1_; have BK231 := n2_; have GW231 := n3_; have GE231 := n4_; have NB230_231 := n5_; have NB231_230 := n6_; clear n0_ n1_ n2_ n3_ n4_ n5_ n6_; clear hb hbox hg) | ((with_reducible refine gate_dst (N := 6) rfl ?_); refine bE (N := 6) (cs := #[.int .i64 0, .int .i64 0, .string (⟨#[]⟩ : ByteArray)]) (t := 23) ?_; intro gb232 hg w84 hbox hb; have n0_ := aM (blk_below (bO BK230) hb); have n1_ := aM (blk_below (bO BK231) hb); have n2_ := aM (below_step (lO HB) hb); have n3_ := aM (hbox); have n4_ := aM (gO hg (lO HB)); have n5_ := aM (gO hg (lO HB)); have n6_ := aM (ne_lt hg (bO BK230)); have n7_ := aM (ne_gt hg (bO BK230)); have n8_ := aM (ne_lt hg (bO BK231)); have n9_ := aM (ne_gt hg (bO BK231)); clear BK230; clear BK231; clear HB; have BK230 := n0_; have BK231 := n1_; have HB := n2_; have BK232 := n3_; have GW232 := n4_; have GE232 := n5_; have NB230_232 := n6_; have NB232_230 := n7_; have NB231_232 := n8_; have NB232_231 := n9_; clear n0_ n1_ n2_ n3_ n4_ n5_ n6_ n7_ n8_ n9_; clear hb hbox hg; have hnb85 := NB230_231.out; have hnc85 := NB231_230.out; have hnb86 := NB230_232.out; have hnc86 := NB232_230.out; have C87_0 := c11_0 BK230; have C87_1 := c11_1 BK230; have C87_2 := c11_2 BK230; have C87_3 := c11_3 BK230; have C87_4 := c11_4 BK230; have C87_5 := c11_5 BK230; have C87_6 := c11_6 BK230; have C87_7 := c11_7 BK230; have C87_8 := c11_8 BK230; have C87_9 := c11_9 BK230; have C87_10 := c11_10 BK230; have F87_0 := fz BK230 0; have F87_1 := fz BK230 1; have F87_2 := fz BK230 2; have F87_3 := fz BK230 3; have F87_4 := fz BK230 4; have F87_5 := fz BK230 5; have F87_6 := fz BK230 6; have F87_7 := fz BK230 7; have F87_8 := fz BK230 8; have F87_9 := fz BK230 9; have F87_10 := fz BK230 10; have hnb88 := NB231_232.out; have hnc88 := NB232_231.out; have C89_0 := c6_0 BK231; have C89_1 := c6_1 BK231; have C89_2 := c6_2 BK231; have C89_3 := c6_3 BK231; have C89_4 := c6_4 BK231; have C89_5 := c6_5 BK231; have F89_0 := fz BK231 0; have F89_1 := fz BK231 1; have F89_2 := fz BK231 2; have F89_3 := fz BK231 3; have F89_4 := fz BK231 4; have F89_5 := fz BK231 5) | ((with_reducible refine gate_callee (f := 13) rfl ?_); refine gL (some 15) rfl rfl Try.func13 (by kernel_rfl) rfl #[.agg #[.string a0_0, .slice A0_1 l0_1.length c0_1, .int .i64 a0_2, .int .i64 a0_3, .int .i64 a0_4, .slice A0_5 l0_5.length c0_5, .slice A0_6 l0_6.length c0_6, .slice A0_7 l0_7.length c0_7, .int .i64 a0_8, .int .i64 a0_9, .int .i64 a0_10], .agg #[.int .i64 a2_0, .string a2_1, .int .i64 a2_2, .int .i64 a2_3, .string a2_4, .slice A2_5 l2_5.length c2_5]] rfl ?_; (with_reducible refine (expr_Type.calls k a0_0 _ _ l0_1 a0_2 a0_3 a0_4 _ _ l0_5 _ _ l0_6 _ _ l0_7 a0_8 a0_9 a0_10 a2_0 a2_1 a2_2 a2_3 a2_4 _ _ l2_5 t233 t234 _ ?side1 ?side2 ?side3 ?side4 ?side5 ?side6 ?side7 ?side8 ?side9 ?side10 A4.out).mono ?_); (case side1 => exact cO (Kd.C_below HR0_1.out HB.out)); (case side2 => exact HC0_1.out); (case side3 => exact cO (Kd.C_below HR0_5.out HB.out)); (case side4 => exact HC0_5.out); (case side5 => exact cO (Kd.C_below HR0_6.out HB.out)); (case side6 => exact HC0_6.out); (case side7 => exact cO (Kd.C_below HR0_7.out HB.out)); (case side8 => exact HC0_7.out); (case side9 => exact cO (Kd.C_below HR2_5.out HB.out)); (case side10 => exact HC2_5.out); rintro e w90 ⟨rfl, hb⟩; refine ⟨_, rfl, ?_⟩; have n0_ := aM (blk_below (bO BK230) hb); have n1_ := aM (blk_below (bO BK231) hb); have n2_ := aM (blk_below (bO BK232) hb); have n3_ := aM (below_step (lO HB) hb); clear BK230; clear BK231; clear BK232; clear HB; have BK230 := n0_; have BK231 := n1_; have BK232 := n2_; have HB := n3_; clear n0_ n1_ n2_ n3_; (try clear hb); (try clear hb2); (try clear hk); (try clear hi); have C91_0 := c3_0 BK232; have C91_1 := c3_1 BK232; have C91_2 := c3_2 BK232; have F91_0 := fz BK232 0; have F91_1 := fz BK232 1; have F91_2 := fz BK232 2))
  refine bodyPost_ret (results_ct rfl _ _ gb232 23 #[.int .i64 0, .int .i64 0, .string (⟨#[]⟩ : ByteArray)] (0, 0) _ rfl (by (with_reducible repeat (first | refine blk_drewN ?_ _ | refine blk_drew ?_ | refine blk_alloc ?_ _)); refine blk_put (cs := #[.int .i64 0, .int .i64 0, .string (⟨#[]⟩ : ByteArray)]) ?_ 2 _ rfl; (with_reducible repeat (first | refine blk_drewN ?_ _ | refine blk_drew ?_ | refine blk_alloc ?_ _)); refine blk_put (cs := #[.int .i64 0, .int .i64 0, .string (⟨#[]⟩ : ByteArray)]) ?_ 1 _ rfl; (with_reducible repeat (first | refine blk_drewN ?_ _ | refine blk_drew ?_ | refine blk_alloc ?_ _)); refine blk_put (cs := #[.int .i64 0, .int .i64 0, .string (⟨#[]⟩ : ByteArray)]) ?_ 0 _ rfl; (with_reducible repeat (first | refine blk_drewN ?_ _ | refine blk_drew ?_ | refine blk_alloc ?_ _)); exact BK232.out) Try.underlying23 rfl (by kernel_rfl)) rfl ?_
  exact ⟨by first | rfl | (simp [errW_none, errW_some] <;> rfl) | (simp [*, errW_none, errW_some] <;> rfl), (lO HB)⟩

end Go.Proofs.Ytpmecpmankpcbaa.PK
