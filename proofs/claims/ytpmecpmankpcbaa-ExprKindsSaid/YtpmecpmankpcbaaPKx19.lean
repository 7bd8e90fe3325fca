/- Go functions of the program as plain functions, and that each call comes to them. Written by a program of this session (hprint.py) on the kit's print. No conditions. -/
import Derived.Test.YtpmecpmankpcbaaPKx0
import Derived.Test.YtpmecpmankpcbaaPKx1
import Derived.Test.YtpmecpmankpcbaaPKx2
import Derived.Test.YtpmecpmankpcbaaPKx5
import Derived.Test.YtpmecpmankpcbaaPKx9
import Derived.Test.YtpmecpmankpcbaaPKx15
import Derived.Test.YtpmecpmankpcbaaPKx17
import Derived.Test.YtpmecpmankpcbaaPKx18
import Derived.Test.YtpmecpmankpcbaaSq
namespace Go.Proofs.Ytpmecpmankpcbaa.PK
open Go.RowKit Go.Proofs.YtpmecpmankpcbaaW.PrintWords Go.Proofs.YtpmecpmankpcbaaW.PrintLast Go.Proofs.YtpmecpmankpcbaaW.PrintMore Go.Proofs.Ytpmecpmankpcbaa.Sq
set_option linter.unusedVariables false
set_option linter.unusedSimpArgs false

/-! ### antipodelaw19_ExprKinds: function 9 -/
attribute [local go_sem high] eqA23
/-- Of the kind and what is wrong with it, and of the value and what is wrong with it: is it as it should be? -/
def antipodelaw19_ExprKinds.hole (k f v0 v1 : Int) (v2 : ByteArray) (g : Int) : Bool := if f = 0 then decide (g = 0) && (decide (v0 = k) || decide (v0 = 0)) || (decide (v0 = 0) && decide (v1 = 0) && v2.toList.isEmpty) && (decide (g = 9) || decide (g = 5) || decide (g = 17)) else decide (g = f) && decide (k = 0) && decide (v0 = 0) && decide (v1 = 0) && v2.toList.isEmpty
def antipodelaw19_ExprKinds.j0 : Nat → List (S23) → Bool → Int → ByteArray → Int → Int → ByteArray → List (S26) → Option (Bool)
 | 0, _, _, _, _, _, _, _, _ => none
 | k + 1, x1, x18, x335000, x335001, x335002, x335003, x335004, x335005 => if x18 = true then (some true) else ((antipodelaw19_Table.f).bind fun bt337 => ((expr_Type.f k bt337.1 bt337.2.1 bt337.2.2.1 bt337.2.2.2.1 bt337.2.2.2.2.1 bt337.2.2.2.2.2.1 bt337.2.2.2.2.2.2.1 bt337.2.2.2.2.2.2.2.1 bt337.2.2.2.2.2.2.2.2.1 bt337.2.2.2.2.2.2.2.2.2.1 bt337.2.2.2.2.2.2.2.2.2.2 x335000 x335001 x335002 x335003 x335004 x335005).bind fun bt356 => ((antipodelaw19_Table.f).bind fun bt358 => ((expr_Eval.f k bt358.1 bt358.2.1 bt358.2.2.1 bt358.2.2.2.1 bt358.2.2.2.2.1 bt358.2.2.2.2.2.1 bt358.2.2.2.2.2.2.1 bt358.2.2.2.2.2.2.2.1 bt358.2.2.2.2.2.2.2.2.1 bt358.2.2.2.2.2.2.2.2.2.1 bt358.2.2.2.2.2.2.2.2.2.2 x1 x335000 x335001 x335002 x335003 x335004 x335005).bind fun bt377 => (if antipodelaw19_ExprKinds.hole bt356.1 bt356.2 bt377.1 bt377.2.1 bt377.2.2.1 bt377.2.2.2 = true then (some true) else (none))))))
def antipodelaw19_ExprKinds.f (k : Nat) (a0_0 : Int) (a0_1 : ByteArray) (a0_2 : Int) (a0_3 : Int) (a0_4 : ByteArray) (l0_5 : List (S26)) (l1 : List (S23)) : Option (Bool) := (antipodelaw19_begun.f k).bind fun t335 => (if t335 = true then ((antipodelaw19_Light.f k a0_0 a0_1 a0_2 a0_3 a0_4 l0_5 500).bind fun t336 => (if t336 = 0 then (antipodelaw19_ExprKinds.j0 k l1 true a0_0 a0_1 a0_2 a0_3 a0_4 l0_5) else (antipodelaw19_ExprKinds.j0 k l1 (decide ((l1.length : Int) > 12)) a0_0 a0_1 a0_2 a0_3 a0_4 l0_5))) else (none))
theorem antipodelaw19_ExprKinds.mono_l : ∀ k, (∀ y0 y1 y2 y3 y4 y5 y6 y7, LeO (antipodelaw19_ExprKinds.j0 k y0 y1 y2 y3 y4 y5 y6 y7) (antipodelaw19_ExprKinds.j0 (k + 1) y0 y1 y2 y3 y4 y5 y6 y7))
 | 0 => fun _ _ _ _ _ _ _ _ r h => by simp [antipodelaw19_ExprKinds.j0] at h
 | k + 1 => by
  have ih0 := antipodelaw19_ExprKinds.mono_l k
  ·intro y0 y1 y2 y3 y4 y5 y6 y7
   unfold antipodelaw19_ExprKinds.j0
   repeat' first
   | (with_reducible exact ih0 _ _ _ _ _ _ _ _)
   | (with_reducible exact antipodelaw19_Light.mono _ _ _ _ _ _ _ _)
   | (with_reducible exact antipodelaw19_begun.mono _)
   | (with_reducible exact expr_Eval.mono _ _ _ _ _ _ _ _ _ _ _ _ _ _ _ _ _ _ _)
   | (with_reducible exact expr_Type.mono _ _ _ _ _ _ _ _ _ _ _ _ _ _ _ _ _ _)
   | (with_reducible exact LeO.refl _)
   | (with_reducible exact LeO.none _)
   | (with_reducible refine LeO.ite ?_ ?_)
   | (with_reducible refine LeO.bind ?_ (fun _ => ?_))
   | exact ih0 _ _ _ _ _ _ _ _
   | exact antipodelaw19_Light.mono _ _ _ _ _ _ _ _
   | exact antipodelaw19_begun.mono _
   | exact expr_Eval.mono _ _ _ _ _ _ _ _ _ _ _ _ _ _ _ _ _ _ _
   | exact expr_Type.mono _ _ _ _ _ _ _ _ _ _ _ _ _ _ _ _ _ _
   | exact LeO.none _
   | refine LeO.ite ?_ ?_
   | refine LeO.bind ?_ (fun _ => ?_)
theorem antipodelaw19_ExprKinds.mono : ∀ a0 a1 a2 a3 a4 a5 a6 k, LeO (antipodelaw19_ExprKinds.f k a0 a1 a2 a3 a4 a5 a6) (antipodelaw19_ExprKinds.f (k + 1) a0 a1 a2 a3 a4 a5 a6) := by
 intro a0 a1 a2 a3 a4 a5 a6 k
 have ih0 := antipodelaw19_ExprKinds.mono_l k
 unfold antipodelaw19_ExprKinds.f
 repeat' first
   | (with_reducible exact ih0 _ _ _ _ _ _ _ _)
   | (with_reducible exact antipodelaw19_Light.mono _ _ _ _ _ _ _ _)
   | (with_reducible exact antipodelaw19_begun.mono _)
   | (with_reducible exact expr_Eval.mono _ _ _ _ _ _ _ _ _ _ _ _ _ _ _ _ _ _ _)
   | (with_reducible exact expr_Type.mono _ _ _ _ _ _ _ _ _ _ _ _ _ _ _ _ _ _)
   | (with_reducible exact LeO.refl _)
   | (with_reducible exact LeO.none _)
   | (with_reducible refine LeO.ite ?_ ?_)
   | (with_reducible refine LeO.bind ?_ (fun _ => ?_))
   | exact ih0 _ _ _ _ _ _ _ _
   | exact antipodelaw19_Light.mono _ _ _ _ _ _ _ _
   | exact antipodelaw19_begun.mono _
   | exact expr_Eval.mono _ _ _ _ _ _ _ _ _ _ _ _ _ _ _ _ _ _ _
   | exact expr_Type.mono _ _ _ _ _ _ _ _ _ _ _ _ _ _ _ _ _ _
   | exact LeO.none _
   | refine LeO.ite ?_ ?_
   | refine LeO.bind ?_ (fun _ => ?_)
def antipodelaw19_ExprKinds.T5 : Bool × List (List Nat × List Nat) := (true, [([], []), ([], []), ([0, 1, 0], [0, 1]), ([2], [2]), ([3], [3]), ([3], [3]), ([4, 2, 0, 1, 2, 3, 4], [4]), ([5, 6, 0, 1, 2, 3, 4, 5, 6], [5])])
def antipodelaw19_ExprKinds.B5 : List Nat := [0, 0, 3, 7, 15, 15, 31, 127]
theorem antipodelaw19_ExprKinds.tab5 : rtab .any (opsOf Try.f9 5) = antipodelaw19_ExprKinds.T5 := by kernel_rfl
theorem antipodelaw19_ExprKinds.bits5 : waitsOk antipodelaw19_ExprKinds.T5.2 antipodelaw19_ExprKinds.B5 = true := by kernel_rfl
def antipodelaw19_ExprKinds.T6 : Bool × List (List Nat × List Nat) := (true, [([], []), ([], []), ([], []), ([0, 1, 2, 0], [0, 1, 2]), ([3], [3]), ([4], [4]), ([4], [4]), ([], []), ([7, 5, 3, 0, 1, 2, 3, 4, 5, 7], [5, 7]), ([6, 8, 0, 1, 2, 3, 4, 5, 6, 7, 8], [6])])
def antipodelaw19_ExprKinds.B6 : List Nat := [0, 0, 0, 7, 15, 31, 31, 0, 191, 511]
theorem antipodelaw19_ExprKinds.tab6 : rtab .any (opsOf Try.f9 6) = antipodelaw19_ExprKinds.T6 := by kernel_rfl
theorem antipodelaw19_ExprKinds.bits6 : waitsOk antipodelaw19_ExprKinds.T6.2 antipodelaw19_ExprKinds.B6 = true := by kernel_rfl
set_option maxHeartbeats 8000000 in
set_option maxRecDepth 100000 in
theorem antipodelaw19_ExprKinds.calls (k : Nat) (a0_0 : Int) (a0_1 : ByteArray) (a0_2 : Int) (a0_3 : Int) (a0_4 : ByteArray) (A0_5 : Option Addr) (c0_5 : Nat) (l0_5 : List (S26)) (A1 : Option Addr) (c1 : Nat) (l1 : List (S23)) (r : Bool) (w : World) (hr0_5 : Kd.C k26 w A0_5 l0_5.length l0_5) (hc0_5 : l0_5.length ≤ c0_5) (hr1 : Kd.C k23 w A1 l1.length l1) (hc1 : l1.length ≤ c1) (h : antipodelaw19_ExprKinds.f k a0_0 a0_1 a0_2 a0_3 a0_4 l0_5 l1 = some r) :
  Calls Try.prog 9 #[.agg #[.int .i64 a0_0, .string a0_1, .int .i64 a0_2, .int .i64 a0_3, .string a0_4, .slice A0_5 l0_5.length c0_5], .slice A1 l1.length c1] w fun e w' => e = .returned (.bool r) ∧ Below w.heap.size w w' := by
 have hu26 := Try.underlying26
 have hu23 := Try.underlying23
 have HR0_5 := aM hr0_5
 have HC0_5 := aM hc0_5
 clear hr0_5 hc0_5
 have HR1 := aM hr1
 have HC1 := aM hc1
 clear hr1 hc1
 have HB := aM (Below.refl w.heap.size w)
 have H : ((antipodelaw19_begun.f k).bind fun t335 => (if t335 = true then ((antipodelaw19_Light.f k a0_0 a0_1 a0_2 a0_3 a0_4 l0_5 500).bind fun t336 => (if t336 = 0 then (antipodelaw19_ExprKinds.j0 k l1 true a0_0 a0_1 a0_2 a0_3 a0_4 l0_5) else (antipodelaw19_ExprKinds.j0 k l1 (decide ((l1.length : Int) > 12)) a0_0 a0_1 a0_2 a0_3 a0_4 l0_5))) else (none))) = some r := h
 clear h
 replace H := Option.bind_eq_some_iff.mp H
 obtain ⟨t335, A30, H⟩ := H
 replace H : (if t335 = true then ((antipodelaw19_Light.f k a0_0 a0_1 a0_2 a0_3 a0_4 l0_5 500).bind fun t336 => (if t336 = 0 then (antipodelaw19_ExprKinds.j0 k l1 true a0_0 a0_1 a0_2 a0_3 a0_4 l0_5) else (antipodelaw19_ExprKinds.j0 k l1 (decide ((l1.length : Int) > 12)) a0_0 a0_1 a0_2 a0_3 a0_4 l0_5))) else (none)) = some r := H
 have A3 := aM A30
 clear A30
 by_cases c4 : t335 = true
 ·subst c4
  have H1 : ((antipodelaw19_Light.f k a0_0 a0_1 a0_2 a0_3 a0_4 l0_5 500).bind fun t336 => (if t336 = 0 then (antipodelaw19_ExprKinds.j0 k l1 true a0_0 a0_1 a0_2 a0_3 a0_4 l0_5) else (antipodelaw19_ExprKinds.j0 k l1 (decide ((l1.length : Int) > 12)) a0_0 a0_1 a0_2 a0_3 a0_4 l0_5))) = some r := by rw [if_pos rfl] at H; exact H
  clear H
  have H := H1
  clear H1
  have HC5 := aM H
  clear H
  go_enter Try.func9, Try.ntmps9
  go_upto_region 3 with (first | ((with_reducible refine gate_dst (N := 2) rfl ?_); (try (refine gate_guard (by rfl) ?_; dsimp only)); refine bE (N := 2) (cs := #[.int .i64 a0_0, .string a0_1, .int .i64 a0_2, .int .i64 a0_3, .string a0_4, .slice A0_5 l0_5.length c0_5]) (t := 26) ?_; intro gb334 hg w6 hbox hb; have n0_ := aM (below_step (lO HB) hb); have n1_ := aM (hbox); have n2_ := aM (gO hg (lO HB)); have n3_ := aM (gO hg (lO HB)); clear HB; have HB := n0_; have BK334 := n1_; have GW334 := n2_; have GE334 := n3_; clear n0_ n1_ n2_ n3_; clear hb hbox hg) | ((with_reducible refine gate_callee (f := 10) rfl ?_); refine gL (some 9) rfl rfl Try.func10 (by kernel_rfl) rfl #[] rfl ?_; (with_reducible refine (antipodelaw19_begun.calls k  true _ A3.out).mono ?_); rintro e w7 ⟨rfl, hb⟩; refine ⟨_, rfl, ?_⟩; have n0_ := aM (blk_below (bO BK334) hb); have n1_ := aM (below_step (lO HB) hb); clear BK334; clear HB; have BK334 := n0_; have HB := n1_; clear n0_ n1_; (try clear hb); (try clear hb2); (try clear hk); (try clear hi)))
  (try simp only [Act.put, sA, sB, sC])
  go_cut [18] (fun v18 wc => ∃ (kq : Nat) (x18_4 : Bool), v18 = .bool x18_4 ∧ Aside0 (antipodelaw19_ExprKinds.j0 kq l1 x18_4 a0_0 a0_1 a0_2 a0_3 a0_4 l0_5 = some r) ∧ Aside0 (kq ≤ k) ∧ Aside0 (wc.heap[gb334]? = some (.cells #[.int .i64 a0_0, .string a0_1, .int .i64 a0_2, .int .i64 a0_3, .string a0_4, (.slice A0_5 l0_5.length c0_5)] 26 (0, 0))) ∧ Aside0 (Below w.heap.size w wc))
  case first =>
   have H := HC5.out
   clear HC5
   replace H := Option.bind_eq_some_iff.mp H
   obtain ⟨t336, A80, H⟩ := H
   replace H : (if t336 = 0 then (antipodelaw19_ExprKinds.j0 k l1 true a0_0 a0_1 a0_2 a0_3 a0_4 l0_5) else (antipodelaw19_ExprKinds.j0 k l1 (decide ((l1.length : Int) > 12)) a0_0 a0_1 a0_2 a0_3 a0_4 l0_5)) = some r := H
   have A8 := aM A80
   clear A80
   by_cases c9 : t336 = 0
   ·rw [if_pos c9] at H
    have c9b0 : (t336 == 0) = true := beq_iff_eq.mpr c9
    have c9b1 : (t336 != 0) = false := bne_eq_false_iff_eq.mpr c9
    clear c9
    (first | rw [c9b0] | (simp only [i64_w, i32_w]; rw [c9b0]) | skip)
    have H' := aM H
    clear H
    have C10_0 := c6_0 BK334
    have C10_1 := c6_1 BK334
    have C10_2 := c6_2 BK334
    have C10_3 := c6_3 BK334
    have C10_4 := c6_4 BK334
    have C10_5 := c6_5 BK334
    have F10_0 := fz BK334 0
    have F10_1 := fz BK334 1
    have F10_2 := fz BK334 2
    have F10_3 := fz BK334 3
    have F10_4 := fz BK334 4
    have F10_5 := fz BK334 5
    go_wp2_with (first | ((with_reducible refine gate_callee (f := 11) rfl ?_); refine gL (some 12) rfl rfl Try.func11 (by kernel_rfl) rfl #[.agg #[.int .i64 a0_0, .string a0_1, .int .i64 a0_2, .int .i64 a0_3, .string a0_4, .slice A0_5 l0_5.length c0_5], .int .i64 500] rfl ?_; (with_reducible refine (antipodelaw19_Light.calls k a0_0 a0_1 a0_2 a0_3 a0_4 _ _ l0_5 500 t336 _ ?side1 ?side2 A8.out).mono ?_); (case side1 => exact cO (Kd.C_below HR0_5.out HB.out)); (case side2 => exact HC0_5.out); rintro e w11 ⟨rfl, hb⟩; refine ⟨_, rfl, ?_⟩; have n0_ := aM (blk_below (bO BK334) hb); have n1_ := aM (below_step (lO HB) hb); clear BK334; clear HB; have BK334 := n0_; have HB := n1_; clear n0_ n1_; (try clear hb); (try clear hb2); (try clear hk); (try clear hi)))
    go_meet
    case rel => exact ⟨_, (true), (by first | rfl | (simp; done) | (simp [*]; done)), H', ⟨by first | omega | exact Nat.le_refl _⟩, ⟨bO BK334⟩, ⟨(lO HB)⟩⟩
   ·rw [if_neg c9] at H
    have c9b0 : (t336 == 0) = false := beq_eq_false_iff_ne.mpr c9
    have c9b1 : (t336 != 0) = true := bne_iff_ne.mpr c9
    (first | rw [c9b0] | (simp only [i64_w, i32_w]; rw [c9b0]) | skip)
    have H' := aM H
    clear H
    have C12_0 := c6_0 BK334
    have C12_1 := c6_1 BK334
    have C12_2 := c6_2 BK334
    have C12_3 := c6_3 BK334
    have C12_4 := c6_4 BK334
    have C12_5 := c6_5 BK334
    have F12_0 := fz BK334 0
    have F12_1 := fz BK334 1
    have F12_2 := fz BK334 2
    have F12_3 := fz BK334 3
    have F12_4 := fz BK334 4
    have F12_5 := fz BK334 5
    go_wp2_with (first | ((with_reducible refine gate_callee (f := 11) rfl ?_); refine gL (some 12) rfl rfl Try.func11 (by kernel_rfl) rfl #[.agg #[.int .i64 a0_0, .string a0_1, .int .i64 a0_2, .int .i64 a0_3, .string a0_4, .slice A0_5 l0_5.length c0_5], .int .i64 500] rfl ?_; (with_reducible refine (antipodelaw19_Light.calls k a0_0 a0_1 a0_2 a0_3 a0_4 _ _ l0_5 500 t336 _ ?side1 ?side2 A8.out).mono ?_); (case side1 => exact cO (Kd.C_below HR0_5.out HB.out)); (case side2 => exact HC0_5.out); rintro e w13 ⟨rfl, hb⟩; refine ⟨_, rfl, ?_⟩; have n0_ := aM (blk_below (bO BK334) hb); have n1_ := aM (below_step (lO HB) hb); clear BK334; clear HB; have BK334 := n0_; have HB := n1_; clear n0_ n1_; (try clear hb); (try clear hb2); (try clear hk); (try clear hi)))
    go_meet
    case rel => exact ⟨_, (decide ((l1.length : Int) > 12)), (by first | rfl | (simp; done) | (simp [*]; done)), H', ⟨by first | omega | exact Nat.le_refl _⟩, ⟨bO BK334⟩, ⟨(lO HB)⟩⟩
  case rest =>
   clear HC5
   try clear c1
   try clear p2
   try clear c4
   try clear c9
   try clear c9b0
   try clear c9b1
   try clear c10
   try clear c11
   try clear C10_0
   try clear C10_1
   try clear C10_2
   try clear C10_3
   try clear C10_4
   try clear C10_5
   try clear C12_0
   try clear C12_1
   try clear C12_2
   try clear C12_3
   try clear C12_4
   try clear C12_5
   try clear F10_0
   try clear F10_1
   try clear F10_2
   try clear F10_3
   try clear F10_4
   try clear F10_5
   try clear F12_0
   try clear F12_1
   try clear F12_2
   try clear F12_3
   try clear F12_4
   try clear F12_5
   obtain ⟨kq, x18_4, rfl, HA, HJ4, BK334, HB⟩ := hcut
   cases kq with
   | zero => exact absurd HA.out (by simp [antipodelaw19_ExprKinds.j0])
   | succ kj4 =>
    have H := HA.out
    clear HA
    simp only [antipodelaw19_ExprKinds.j0] at H
    by_cases c14 : x18_4 = true
    ·subst c14
     have H1 : (some true) = some r := by rw [if_pos rfl] at H; exact H
     clear H
     have H := H1
     clear H1
     obtain rfl := Option.some.inj H
     go_wp2
     go_ret
     exact ⟨by first | rfl | (simp [errW_none, errW_some] <;> rfl) | (simp [*, errW_none, errW_some] <;> rfl), (lO HB)⟩
    ·replace c14 := Bool.eq_false_iff.mpr c14
     subst c14
     have H1 : ((antipodelaw19_Table.f).bind fun bt337 => ((expr_Type.f kj4 bt337.1 bt337.2.1 bt337.2.2.1 bt337.2.2.2.1 bt337.2.2.2.2.1 bt337.2.2.2.2.2.1 bt337.2.2.2.2.2.2.1 bt337.2.2.2.2.2.2.2.1 bt337.2.2.2.2.2.2.2.2.1 bt337.2.2.2.2.2.2.2.2.2.1 bt337.2.2.2.2.2.2.2.2.2.2 a0_0 a0_1 a0_2 a0_3 a0_4 l0_5).bind fun bt356 => ((antipodelaw19_Table.f).bind fun bt358 => ((expr_Eval.f kj4 bt358.1 bt358.2.1 bt358.2.2.1 bt358.2.2.2.1 bt358.2.2.2.2.1 bt358.2.2.2.2.2.1 bt358.2.2.2.2.2.2.1 bt358.2.2.2.2.2.2.2.1 bt358.2.2.2.2.2.2.2.2.1 bt358.2.2.2.2.2.2.2.2.2.1 bt358.2.2.2.2.2.2.2.2.2.2 l1 a0_0 a0_1 a0_2 a0_3 a0_4 l0_5).bind fun bt377 => (if antipodelaw19_ExprKinds.hole bt356.1 bt356.2 bt377.1 bt377.2.1 bt377.2.2.1 bt377.2.2.2 = true then (some true) else (none)))))) = some r := by rw [if_neg (show ¬ (false = true) by decide)] at H; exact H
     clear H
     have H := H1
     clear H1
     replace H := Option.bind_eq_some_iff.mp H
     obtain ⟨⟨t337, t338, t341, t342, t343, t344, t347, t350, t353, t354, t355⟩, A150, H⟩ := H
     replace H : ((expr_Type.f kj4 t337 t338 t341 t342 t343 t344 t347 t350 t353 t354 t355 a0_0 a0_1 a0_2 a0_3 a0_4 l0_5).bind fun bt356 => ((antipodelaw19_Table.f).bind fun bt358 => ((expr_Eval.f kj4 bt358.1 bt358.2.1 bt358.2.2.1 bt358.2.2.2.1 bt358.2.2.2.2.1 bt358.2.2.2.2.2.1 bt358.2.2.2.2.2.2.1 bt358.2.2.2.2.2.2.2.1 bt358.2.2.2.2.2.2.2.2.1 bt358.2.2.2.2.2.2.2.2.2.1 bt358.2.2.2.2.2.2.2.2.2.2 l1 a0_0 a0_1 a0_2 a0_3 a0_4 l0_5).bind fun bt377 => (if antipodelaw19_ExprKinds.hole bt356.1 bt356.2 bt377.1 bt377.2.1 bt377.2.2.1 bt377.2.2.2 = true then (some true) else (none))))) = some r := H
     have A15 := aM A150
     clear A150
     replace H := Option.bind_eq_some_iff.mp H
     obtain ⟨⟨t356, t357⟩, A160, H⟩ := H
     replace H : ((antipodelaw19_Table.f).bind fun bt358 => ((expr_Eval.f kj4 bt358.1 bt358.2.1 bt358.2.2.1 bt358.2.2.2.1 bt358.2.2.2.2.1 bt358.2.2.2.2.2.1 bt358.2.2.2.2.2.2.1 bt358.2.2.2.2.2.2.2.1 bt358.2.2.2.2.2.2.2.2.1 bt358.2.2.2.2.2.2.2.2.2.1 bt358.2.2.2.2.2.2.2.2.2.2 l1 a0_0 a0_1 a0_2 a0_3 a0_4 l0_5).bind fun bt377 => (if antipodelaw19_ExprKinds.hole t356 t357 bt377.1 bt377.2.1 bt377.2.2.1 bt377.2.2.2 = true then (some true) else (none)))) = some r := H
     have A16 := aM A160
     clear A160
     replace H := Option.bind_eq_some_iff.mp H
     obtain ⟨⟨t358, t359, t362, t363, t364, t365, t368, t371, t374, t375, t376⟩, A170, H⟩ := H
     replace H : ((expr_Eval.f kj4 t358 t359 t362 t363 t364 t365 t368 t371 t374 t375 t376 l1 a0_0 a0_1 a0_2 a0_3 a0_4 l0_5).bind fun bt377 => (if antipodelaw19_ExprKinds.hole t356 t357 bt377.1 bt377.2.1 bt377.2.2.1 bt377.2.2.2 = true then (some true) else (none))) = some r := H
     have A17 := aM A170
     clear A170
     replace H := Option.bind_eq_some_iff.mp H
     obtain ⟨⟨t377, t378, t379, t380⟩, A180, H⟩ := H
     replace H : (if antipodelaw19_ExprKinds.hole t356 t357 t377 t378 t379 t380 = true then (some true) else (none)) = some r := H
     have A18 := aM A180
     clear A180
     have HC_ := aM H
     clear H
     try go_wp2
     have n0_ := aM (blk_drew BK334.out)
     have n1_ := aM (below_drew1 HB.out)
     clear BK334
     clear HB
     have BK334 := n0_
     have HB := n1_
     clear n0_ n1_
     refine start_ (n := 8) (S := fun w' => w'.cell? ⟨gb334, 0, none⟩ = some (.int .i64 a0_0) ∧ w'.cell? ⟨gb334, 1, none⟩ = some (.string a0_1) ∧ w'.cell? ⟨gb334, 2, none⟩ = some (.int .i64 a0_2) ∧ w'.cell? ⟨gb334, 3, none⟩ = some (.int .i64 a0_3) ∧ w'.cell? ⟨gb334, 4, none⟩ = some (.string a0_4) ∧ w'.cell? ⟨gb334, 5, none⟩ = some (.slice A0_5 l0_5.length c0_5)) (ds := []) #[false, false, false, false, false, false, false, false] (by kernel_rfl) rfl rfl ⟨(blk_cell BK334.out 0).trans rfl, (blk_cell BK334.out 1).trans rfl, (blk_cell BK334.out 2).trans rfl, (blk_cell BK334.out 3).trans rfl, (blk_cell BK334.out 4).trans rfl, (blk_cell BK334.out 5).trans rfl⟩ (fun hHeld => ?_); refine with_tabW antipodelaw19_ExprKinds.tab5 antipodelaw19_ExprKinds.bits5 (fun HT_ HW_ => ?_)
     generalize wc.drew = w19 at BK334 HB hHeld ⊢
     refine take_ (i := 1) (N := some 21) (v := ?_) (a' := ?_) #[false, true, false, false, false, false, false, false] rfl rfl (take_ofW HT_.out HW_.out (by kernel_rfl)) (fun _ _ _ h => h) (Or.inl ⟨by rfl, ?_⟩) hHeld ?_ ?_
     rotate_left
     ·rintro w' ⟨s0, s1, s2, s3, s4, s5⟩
      go_simp
      with_reducible rfl
     rotate_left
     ·simp only [Act.put, sA, sB, sC, i64_w, i32_w]
      rfl
     refine one_ (i := 0) (N := some 20) #[true, true, false, false, false, false, false, false] rfl rfl (one_of HT_.out (by kernel_rfl)) (by decide) (fun K hK => ?_)
     refine goes_ Try.func12 (by kernel_rfl) rfl #[] (by rfl) rfl rfl (by (try simp only [List.map_toArray, List.map_cons, List.map_nil]); first | done | rfl | (simp only [List.length_drop, List.length_take]; rfl)) ?_
     with_reducible refine (antipodelaw19_Table.calls  t337 t338 t341 t342 t343 t344 t347 t350 t353 t354 t355 _ A15.out).mono ?_
     rintro e w20 ⟨v339, v345, v348, v351, rfl, ho0, ho1, ho2, ho3, hb⟩
     refine ⟨_, rfl, ?_⟩
     have n0_ := aM (Kd.R_lower ho0 (below_size (lO HB)))
     have n1_ := aM (Kd.R_lower ho1 (below_size (lO HB)))
     have n2_ := aM (Kd.R_lower ho2 (below_size (lO HB)))
     have n3_ := aM (Kd.R_lower ho3 (below_size (lO HB)))
     have n4_ := aM (blk_below (bO BK334) hb)
     have n5_ := aM (below_step (lO HB) hb)
     clear BK334
     clear HB
     have HO340 := n0_
     have HO346 := n1_
     have HO349 := n2_
     have HO352 := n3_
     have BK334 := n4_
     have HB := n5_
     clear n0_ n1_ n2_ n3_ n4_ n5_
     (try clear hb)
     (try clear hb2)
     (try clear hk)
     (try clear hi)
     (try clear ho0)
     (try clear ho1)
     (try clear ho2)
     (try clear ho3)
     obtain ⟨Ao21, co21, eo21⟩ := Kd.R_slice HO340.out
     (first | subst eo21 | (injection eo21 with f1_ f2_ f3_; have f4_ := f1_.symm; have f5_ := f3_.symm; clear f1_ f2_ f3_; subst f4_; subst f5_))
     obtain ⟨Ao22, co22, eo22⟩ := Kd.R_slice HO346.out
     (first | subst eo22 | (injection eo22 with f1_ f2_ f3_; have f4_ := f1_.symm; have f5_ := f3_.symm; clear f1_ f2_ f3_; subst f4_; subst f5_))
     obtain ⟨Ao23, co23, eo23⟩ := Kd.R_slice HO349.out
     (first | subst eo23 | (injection eo23 with f1_ f2_ f3_; have f4_ := f1_.symm; have f5_ := f3_.symm; clear f1_ f2_ f3_; subst f4_; subst f5_))
     obtain ⟨Ao24, co24, eo24⟩ := Kd.R_slice HO352.out
     (first | subst eo24 | (injection eo24 with f1_ f2_ f3_; have f4_ := f1_.symm; have f5_ := f3_.symm; clear f1_ f2_ f3_; subst f4_; subst f5_))
     refine hK.out _ _ ⟨(blk_cell BK334.out 0).trans rfl, (blk_cell BK334.out 1).trans rfl, (blk_cell BK334.out 2).trans rfl, (blk_cell BK334.out 3).trans rfl, (blk_cell BK334.out 4).trans rfl, (blk_cell BK334.out 5).trans rfl⟩ (fun hHeld => ?_)
     clear hK K
     refine norm_ (a' := ?_) ?_ ?_
     rotate_left
     ·show Act.put _ (some 20) _ = _
      simp only [Act.put, sA, sB, sC, i64_w, i32_w]
      rfl
     refine one_ (i := 2) (N := some 22) #[true, true, true, false, false, false, false, false] rfl rfl (one_of HT_.out (by kernel_rfl)) (by decide) (fun K hK => ?_)
     refine goes_ Try.func13 (by kernel_rfl) rfl #[.agg #[.string t337, .slice Ao21 t338.length co21, .int .i64 t341, .int .i64 t342, .int .i64 t343, .slice Ao22 t344.length co22, .slice Ao23 t347.length co23, .slice Ao24 t350.length co24, .int .i64 t353, .int .i64 t354, .int .i64 t355], .agg #[.int .i64 a0_0, .string a0_1, .int .i64 a0_2, .int .i64 a0_3, .string a0_4, .slice A0_5 l0_5.length c0_5]] (by rfl) rfl rfl (by (try simp only [List.map_toArray, List.map_cons, List.map_nil]); first | done | rfl | (simp only [List.length_drop, List.length_take]; rfl)) ?_
     with_reducible refine (expr_Type.calls kj4 t337 _ _ t338 t341 t342 t343 _ _ t344 _ _ t347 _ _ t350 t353 t354 t355 a0_0 a0_1 a0_2 a0_3 a0_4 _ _ l0_5 t356 t357 _ ?side1 ?side2 ?side3 ?side4 ?side5 ?side6 ?side7 ?side8 ?side9 ?side10 A16.out).mono ?_
     (case side1 => exact cO (Kd.R_reads' HO340.out).2.2)
     (case side2 => exact (Kd.R_reads' HO340.out).2.1)
     (case side3 => exact cO (Kd.R_reads' HO346.out).2.2)
     (case side4 => exact (Kd.R_reads' HO346.out).2.1)
     (case side5 => exact cO (Kd.R_reads' HO349.out).2.2)
     (case side6 => exact (Kd.R_reads' HO349.out).2.1)
     (case side7 => exact cO (Kd.R_reads' HO352.out).2.2)
     (case side8 => exact (Kd.R_reads' HO352.out).2.1)
     (case side9 => exact cO (Kd.C_below HR0_5.out HB.out))
     (case side10 => exact HC0_5.out)
     rintro e w25 ⟨rfl, hb⟩
     refine ⟨_, rfl, ?_⟩
     have n0_ := aM (Kd.R_below (rO HO340) hb)
     have n1_ := aM (Kd.R_below (rO HO346) hb)
     have n2_ := aM (Kd.R_below (rO HO349) hb)
     have n3_ := aM (Kd.R_below (rO HO352) hb)
     have n4_ := aM (blk_below (bO BK334) hb)
     have n5_ := aM (below_step (lO HB) hb)
     clear HO340
     clear HO346
     clear HO349
     clear HO352
     clear BK334
     clear HB
     have HO340 := n0_
     have HO346 := n1_
     have HO349 := n2_
     have HO352 := n3_
     have BK334 := n4_
     have HB := n5_
     clear n0_ n1_ n2_ n3_ n4_ n5_
     (try clear hb)
     (try clear hb2)
     (try clear hk)
     (try clear hi)
     refine hK.out _ _ ⟨(blk_cell BK334.out 0).trans rfl, (blk_cell BK334.out 1).trans rfl, (blk_cell BK334.out 2).trans rfl, (blk_cell BK334.out 3).trans rfl, (blk_cell BK334.out 4).trans rfl, (blk_cell BK334.out 5).trans rfl⟩ (fun hHeld => ?_)
     clear hK K
     refine norm_ (a' := ?_) ?_ ?_
     rotate_left
     ·show Act.put _ (some 22) _ = _
      simp only [Act.put, sA, sB, sC, i64_w, i32_w]
      rfl
     refine pure_ (i := 3) (N := some 19) (v := ?_) (a' := ?_) #[true, true, true, true, false, false, false, false] rfl rfl (any_of HT_.out (by kernel_rfl)) (fun _ _ _ h => h) (Or.inl ⟨by rfl, ?_⟩) ?_ ?_
     rotate_left
     ·intro w'
      go_simp
      with_reducible rfl
     rotate_left
     ·simp only [Act.put, sA, sB, sC, i64_w, i32_w]
      rfl
     refine pure_ (i := 4) (N := some 23) (v := ?_) (a' := ?_) #[true, true, true, true, true, false, false, false] rfl rfl (any_of HT_.out (by kernel_rfl)) (fun _ _ _ h => h) (Or.inl ⟨by rfl, ?_⟩) ?_ ?_
     rotate_left
     ·intro w'
      go_simp
      with_reducible rfl
     rotate_left
     ·simp only [Act.put, sA, sB, sC, i64_w, i32_w]
      rfl
     refine pure_ (i := 5) (N := some 24) (v := ?_) (a' := ?_) #[true, true, true, true, true, true, false, false] rfl rfl (any_of HT_.out (by kernel_rfl)) (fun _ _ _ h => h) (Or.inl ⟨by rfl, ?_⟩) ?_ ?_
     rotate_left
     ·intro w'
      go_simp
      with_reducible rfl
     rotate_left
     ·simp only [Act.put, sA, sB, sC, i64_w, i32_w]
      rfl
     refine pure_ (i := 6) (N := some 5) (v := ?_) (a' := ?_) #[true, true, true, true, true, true, true, false] rfl rfl (any_of HT_.out (by kernel_rfl)) (fun _ _ _ h => h) (Or.inl ⟨by rfl, ?_⟩) ?_ ?_
     rotate_left
     ·intro w'
      go_simp
      with_reducible rfl
     rotate_left
     ·simp only [Act.put, sA, sB, sC, i64_w, i32_w]
      rfl
     refine pure_ (i := 7) (N := some 6) (v := ?_) (a' := ?_) #[true, true, true, true, true, true, true, true] rfl rfl (any_of HT_.out (by kernel_rfl)) (fun _ _ _ h => h) (Or.inl ⟨by rfl, ?_⟩) ?_ ?_
     rotate_left
     ·intro w'
      go_simp
      with_reducible rfl
     rotate_left
     ·simp only [Act.put, sA, sB, sC, i64_w, i32_w]
      rfl
     refine done_ (done_of HT_.out (by kernel_rfl)) ?_
     try go_wp2
     have n0_ := aM (Kd.R_drew HO340.out)
     have n1_ := aM (Kd.R_drew HO346.out)
     have n2_ := aM (Kd.R_drew HO349.out)
     have n3_ := aM (Kd.R_drew HO352.out)
     have n4_ := aM (blk_drew BK334.out)
     have n5_ := aM (below_drew1 HB.out)
     clear HO340
     clear HO346
     clear HO349
     clear HO352
     clear BK334
     clear HB
     have HO340 := n0_
     have HO346 := n1_
     have HO349 := n2_
     have HO352 := n3_
     have BK334 := n4_
     have HB := n5_
     clear n0_ n1_ n2_ n3_ n4_ n5_
     refine start_ (n := 10) (S := fun w' => w'.cell? ⟨gb334, 0, none⟩ = some (.int .i64 a0_0) ∧ w'.cell? ⟨gb334, 1, none⟩ = some (.string a0_1) ∧ w'.cell? ⟨gb334, 2, none⟩ = some (.int .i64 a0_2) ∧ w'.cell? ⟨gb334, 3, none⟩ = some (.int .i64 a0_3) ∧ w'.cell? ⟨gb334, 4, none⟩ = some (.string a0_4) ∧ w'.cell? ⟨gb334, 5, none⟩ = some (.slice A0_5 l0_5.length c0_5)) (ds := []) #[false, false, false, false, false, false, false, false, false, false] (by kernel_rfl) rfl rfl ⟨(blk_cell BK334.out 0).trans rfl, (blk_cell BK334.out 1).trans rfl, (blk_cell BK334.out 2).trans rfl, (blk_cell BK334.out 3).trans rfl, (blk_cell BK334.out 4).trans rfl, (blk_cell BK334.out 5).trans rfl⟩ (fun hHeld => ?_); refine with_tabW antipodelaw19_ExprKinds.tab6 antipodelaw19_ExprKinds.bits6 (fun HT_ HW_ => ?_)
     generalize w25.drew = w26 at HO340 HO346 HO349 HO352 BK334 HB hHeld ⊢
     refine pure_ (i := 1) (N := some 27) (v := ?_) (a' := ?_) #[false, true, false, false, false, false, false, false, false, false] rfl rfl (any_of HT_.out (by kernel_rfl)) (fun _ _ _ h => h) (Or.inl ⟨by rfl, ?_⟩) ?_ ?_
     rotate_left
     ·intro w'
      go_simp
      with_reducible rfl
     rotate_left
     ·simp only [Act.put, sA, sB, sC, i64_w, i32_w]
      rfl
     refine take_ (i := 2) (N := some 28) (v := ?_) (a' := ?_) #[false, true, true, false, false, false, false, false, false, false] rfl rfl (take_ofW HT_.out HW_.out (by kernel_rfl)) (fun _ _ _ h => h) (Or.inl ⟨by rfl, ?_⟩) hHeld ?_ ?_
     rotate_left
     ·rintro w' ⟨s0, s1, s2, s3, s4, s5⟩
      go_simp
      with_reducible rfl
     rotate_left
     ·simp only [Act.put, sA, sB, sC, i64_w, i32_w]
      rfl
     refine join_ (σ := Value × Value × Value × Value × Nat) 2 #[true, true, true, true, true, true, true, true, false, false] (fun s_ => [(26, .agg #[.string t358, s_.1, .int .i64 t362, .int .i64 t363, .int .i64 t364, s_.2.1, s_.2.2.1, s_.2.2.2.1, .int .i64 t374, .int .i64 t375, .int .i64 t376]), (29, .tuple #[.agg #[.int .i64 t377, .int .i64 t378, .string t379], .int .i64 t380]), (7, .pointer (some ⟨s_.2.2.2.2, 0, none⟩)), (25, .tuple #[.agg #[.int .i64 t377, .int .i64 t378, .string t379], .int .i64 t380]), (30, .agg #[.int .i64 t377, .int .i64 t378, .string t379]), (31, .int .i64 t380)]) (fun s_ w' => (w'.cell? ⟨gb334, 0, none⟩ = some (.int .i64 a0_0) ∧ w'.cell? ⟨gb334, 1, none⟩ = some (.string a0_1) ∧ w'.cell? ⟨gb334, 2, none⟩ = some (.int .i64 a0_2) ∧ w'.cell? ⟨gb334, 3, none⟩ = some (.int .i64 a0_3) ∧ w'.cell? ⟨gb334, 4, none⟩ = some (.string a0_4) ∧ w'.cell? ⟨gb334, 5, none⟩ = some (.slice A0_5 l0_5.length c0_5)) ∧ (Kd.R k57 57 w' w.heap.size (fun k_ => some k_ ≠ (s_.1 : Value).ownBlock) (.slice Ao21 t338.length co21) t338) ∧ (Kd.R (Kd.int .i64) 3 w' w.heap.size (fun k_ => some k_ ≠ (.slice Ao23 t347.length co23 : Value).ownBlock ∧ some k_ ≠ (.slice Ao24 t350.length co24 : Value).ownBlock ∧ some k_ ≠ (s_.2.1 : Value).ownBlock ∧ some k_ ≠ (s_.2.2.1 : Value).ownBlock ∧ some k_ ≠ (s_.2.2.2.1 : Value).ownBlock) (.slice Ao22 t344.length co22) t344) ∧ (Kd.R (Kd.int .i64) 3 w' w.heap.size (fun k_ => some k_ ≠ (.slice Ao22 t344.length co22 : Value).ownBlock ∧ some k_ ≠ (.slice Ao24 t350.length co24 : Value).ownBlock ∧ some k_ ≠ (s_.2.1 : Value).ownBlock ∧ some k_ ≠ (s_.2.2.1 : Value).ownBlock ∧ some k_ ≠ (s_.2.2.2.1 : Value).ownBlock) (.slice Ao23 t347.length co23) t347) ∧ (Kd.R (Kd.int .i64) 3 w' w.heap.size (fun k_ => some k_ ≠ (.slice Ao22 t344.length co22 : Value).ownBlock ∧ some k_ ≠ (.slice Ao23 t347.length co23 : Value).ownBlock ∧ some k_ ≠ (s_.2.1 : Value).ownBlock ∧ some k_ ≠ (s_.2.2.1 : Value).ownBlock ∧ some k_ ≠ (s_.2.2.2.1 : Value).ownBlock) (.slice Ao24 t350.length co24) t350) ∧ (Kd.R k57 57 w' w.heap.size (fun k_ => some k_ ≠ (.slice Ao21 t338.length co21 : Value).ownBlock) s_.1 t359) ∧ (Kd.R (Kd.int .i64) 3 w' w.heap.size (fun k_ => some k_ ≠ (.slice Ao22 t344.length co22 : Value).ownBlock ∧ some k_ ≠ (.slice Ao23 t347.length co23 : Value).ownBlock ∧ some k_ ≠ (.slice Ao24 t350.length co24 : Value).ownBlock ∧ some k_ ≠ (s_.2.2.1 : Value).ownBlock ∧ some k_ ≠ (s_.2.2.2.1 : Value).ownBlock) s_.2.1 t365) ∧ (Kd.R (Kd.int .i64) 3 w' w.heap.size (fun k_ => some k_ ≠ (.slice Ao22 t344.length co22 : Value).ownBlock ∧ some k_ ≠ (.slice Ao23 t347.length co23 : Value).ownBlock ∧ some k_ ≠ (.slice Ao24 t350.length co24 : Value).ownBlock ∧ some k_ ≠ (s_.2.1 : Value).ownBlock ∧ some k_ ≠ (s_.2.2.2.1 : Value).ownBlock) s_.2.2.1 t368) ∧ (Kd.R (Kd.int .i64) 3 w' w.heap.size (fun k_ => some k_ ≠ (.slice Ao22 t344.length co22 : Value).ownBlock ∧ some k_ ≠ (.slice Ao23 t347.length co23 : Value).ownBlock ∧ some k_ ≠ (.slice Ao24 t350.length co24 : Value).ownBlock ∧ some k_ ≠ (s_.2.1 : Value).ownBlock ∧ some k_ ≠ (s_.2.2.1 : Value).ownBlock) s_.2.2.2.1 t371) ∧ (w'.heap[gb334]? = some (.cells #[.int .i64 a0_0, .string a0_1, .int .i64 a0_2, .int .i64 a0_3, .string a0_4, .slice A0_5 l0_5.length c0_5] 26 (0, 0))) ∧ (w'.heap[s_.2.2.2.2]? = some (.cells #[.int .i64 0, .int .i64 0, .string (⟨#[]⟩ : ByteArray)] 23 (0, 0))) ∧ (w.heap.size ≤ s_.2.2.2.2) ∧ (w.heap.size ≤ s_.2.2.2.2) ∧ (gb334 ≠ s_.2.2.2.2) ∧ (s_.2.2.2.2 ≠ gb334) ∧ (Below w.heap.size w w')) ?_ ?_
     rotate_left
     ·intro hCont
      refine two_ (i := 0) (j := 7) (Ni := some 26) (Nj := some 7) #[true, true, true, false, false, false, false, false, false, false] #[false, true, true, false, false, false, false, true, false, false] rfl rfl rfl rfl (two_of HT_.out (by kernel_rfl)) (by decide) (by decide) (fun K hK => ?_) (fun K hK => ?_)
      ·skip
       refine goes_ Try.func12 (by kernel_rfl) rfl #[] (by rfl) rfl rfl (by (try simp only [List.map_toArray, List.map_cons, List.map_nil]); first | done | rfl | (simp only [List.length_drop, List.length_take]; rfl)) ?_
       with_reducible refine (antipodelaw19_Table.calls  t358 t359 t362 t363 t364 t365 t368 t371 t374 t375 t376 _ A17.out).mono ?_
       rintro e w27 ⟨v360, v366, v369, v372, rfl, ho0, ho1, ho2, ho3, hb⟩
       refine ⟨_, rfl, ?_⟩
       have n0_ := aM (Kd.R_elder' (rO HO340) (Kd.R_base ho0) hb)
       have n1_ := aM (Kd.R_mono (Kd.R_told (Kd.R_told (Kd.R_told (Kd.R_old (rO HO346) hb) (Kd.R_base ho1)) (Kd.R_base ho2)) (Kd.R_base ho3)) (fun _ h_ => h_.1))
       have n2_ := aM (Kd.R_mono (Kd.R_told (Kd.R_told (Kd.R_told (Kd.R_old (rO HO349) hb) (Kd.R_base ho1)) (Kd.R_base ho2)) (Kd.R_base ho3)) (fun _ h_ => h_.1))
       have n3_ := aM (Kd.R_mono (Kd.R_told (Kd.R_told (Kd.R_told (Kd.R_old (rO HO352) hb) (Kd.R_base ho1)) (Kd.R_base ho2)) (Kd.R_base ho3)) (fun _ h_ => h_.1))
       have n4_ := aM (Kd.R_lower (Kd.R_new' ho0 (Kd.R_lt (rO HO340))) (below_size (lO HB)))
       have n5_ := aM (Kd.R_lower (Kd.R_new' (Kd.R_new' (Kd.R_new' ho1 (Kd.R_lt (rO HO346))) (Kd.R_lt (rO HO349))) (Kd.R_lt (rO HO352))) (below_size (lO HB)))
       have n6_ := aM (Kd.R_lower (Kd.R_new' (Kd.R_new' (Kd.R_new' ho2 (Kd.R_lt (rO HO346))) (Kd.R_lt (rO HO349))) (Kd.R_lt (rO HO352))) (below_size (lO HB)))
       have n7_ := aM (Kd.R_lower (Kd.R_new' (Kd.R_new' (Kd.R_new' ho3 (Kd.R_lt (rO HO346))) (Kd.R_lt (rO HO349))) (Kd.R_lt (rO HO352))) (below_size (lO HB)))
       have n8_ := aM (blk_below (bO BK334) hb)
       have n9_ := aM (below_step (lO HB) hb)
       clear HO340
       clear HO346
       clear HO349
       clear HO352
       clear BK334
       clear HB
       have HO340 := n0_
       have HO346 := n1_
       have HO349 := n2_
       have HO352 := n3_
       have HO361 := n4_
       have HO367 := n5_
       have HO370 := n6_
       have HO373 := n7_
       have BK334 := n8_
       have HB := n9_
       clear n0_ n1_ n2_ n3_ n4_ n5_ n6_ n7_ n8_ n9_
       (try clear hb)
       (try clear hb2)
       (try clear hk)
       (try clear hi)
       (try clear ho0)
       (try clear ho1)
       (try clear ho2)
       (try clear ho3)
       obtain ⟨Ao28, co28, eo28⟩ := Kd.R_slice HO361.out
       (first | subst eo28 | (injection eo28 with f1_ f2_ f3_; have f4_ := f1_.symm; have f5_ := f3_.symm; clear f1_ f2_ f3_; subst f4_; subst f5_))
       obtain ⟨Ao29, co29, eo29⟩ := Kd.R_slice HO367.out
       (first | subst eo29 | (injection eo29 with f1_ f2_ f3_; have f4_ := f1_.symm; have f5_ := f3_.symm; clear f1_ f2_ f3_; subst f4_; subst f5_))
       obtain ⟨Ao30, co30, eo30⟩ := Kd.R_slice HO370.out
       (first | subst eo30 | (injection eo30 with f1_ f2_ f3_; have f4_ := f1_.symm; have f5_ := f3_.symm; clear f1_ f2_ f3_; subst f4_; subst f5_))
       obtain ⟨Ao31, co31, eo31⟩ := Kd.R_slice HO373.out
       (first | subst eo31 | (injection eo31 with f1_ f2_ f3_; have f4_ := f1_.symm; have f5_ := f3_.symm; clear f1_ f2_ f3_; subst f4_; subst f5_))
       refine hK.out _ _ ⟨(blk_cell BK334.out 0).trans rfl, (blk_cell BK334.out 1).trans rfl, (blk_cell BK334.out 2).trans rfl, (blk_cell BK334.out 3).trans rfl, (blk_cell BK334.out 4).trans rfl, (blk_cell BK334.out 5).trans rfl⟩ (fun hHeld => ?_)
       clear hK K
       refine norm_ (a' := ?_) ?_ ?_
       rotate_left
       ·show Act.put _ (some 26) _ = _
        simp only [Act.put, sA, sB, sC, i64_w, i32_w]
        rfl
       refine two_ (i := 3) (j := 7) (Ni := some 29) (Nj := some 7) #[true, true, true, true, false, false, false, false, false, false] #[true, true, true, false, false, false, false, true, false, false] rfl rfl rfl rfl (two_of HT_.out (by kernel_rfl)) (by decide) (by decide) (fun K hK => ?_) (fun K hK => ?_)
       ·skip
        refine goes_ Try.func15 (by kernel_rfl) rfl #[.agg #[.string t358, .slice Ao28 t359.length co28, .int .i64 t362, .int .i64 t363, .int .i64 t364, .slice Ao29 t365.length co29, .slice Ao30 t368.length co30, .slice Ao31 t371.length co31, .int .i64 t374, .int .i64 t375, .int .i64 t376], .slice A1 l1.length c1, .agg #[.int .i64 a0_0, .string a0_1, .int .i64 a0_2, .int .i64 a0_3, .string a0_4, .slice A0_5 l0_5.length c0_5]] (by rfl) rfl rfl (by (try simp only [List.map_toArray, List.map_cons, List.map_nil]); first | done | rfl | (simp only [List.length_drop, List.length_take]; rfl)) ?_
        with_reducible refine (expr_Eval.calls kj4 t358 _ _ t359 t362 t363 t364 _ _ t365 _ _ t368 _ _ t371 t374 t375 t376 _ _ l1 a0_0 a0_1 a0_2 a0_3 a0_4 _ _ l0_5 t377 t378 t379 t380 _ ?side1 ?side2 ?side3 ?side4 ?side5 ?side6 ?side7 ?side8 ?side9 ?side10 ?side11 ?side12 A18.out).mono ?_
        (case side1 => exact cO (Kd.R_reads' HO361.out).2.2)
        (case side2 => exact (Kd.R_reads' HO361.out).2.1)
        (case side3 => exact cO (Kd.R_reads' HO367.out).2.2)
        (case side4 => exact (Kd.R_reads' HO367.out).2.1)
        (case side5 => exact cO (Kd.R_reads' HO370.out).2.2)
        (case side6 => exact (Kd.R_reads' HO370.out).2.1)
        (case side7 => exact cO (Kd.R_reads' HO373.out).2.2)
        (case side8 => exact (Kd.R_reads' HO373.out).2.1)
        (case side9 => exact cO (Kd.C_below HR1.out HB.out))
        (case side10 => exact HC1.out)
        (case side11 => exact cO (Kd.C_below HR0_5.out HB.out))
        (case side12 => exact HC0_5.out)
        rintro e w32 ⟨rfl, hb⟩
        refine ⟨_, rfl, ?_⟩
        have n0_ := aM (Kd.R_below (rO HO340) hb)
        have n1_ := aM (Kd.R_below (rO HO346) hb)
        have n2_ := aM (Kd.R_below (rO HO349) hb)
        have n3_ := aM (Kd.R_below (rO HO352) hb)
        have n4_ := aM (Kd.R_below (rO HO361) hb)
        have n5_ := aM (Kd.R_below (rO HO367) hb)
        have n6_ := aM (Kd.R_below (rO HO370) hb)
        have n7_ := aM (Kd.R_below (rO HO373) hb)
        have n8_ := aM (blk_below (bO BK334) hb)
        have n9_ := aM (below_step (lO HB) hb)
        clear HO340
        clear HO346
        clear HO349
        clear HO352
        clear HO361
        clear HO367
        clear HO370
        clear HO373
        clear BK334
        clear HB
        have HO340 := n0_
        have HO346 := n1_
        have HO349 := n2_
        have HO352 := n3_
        have HO361 := n4_
        have HO367 := n5_
        have HO370 := n6_
        have HO373 := n7_
        have BK334 := n8_
        have HB := n9_
        clear n0_ n1_ n2_ n3_ n4_ n5_ n6_ n7_ n8_ n9_
        (try clear hb)
        (try clear hb2)
        (try clear hk)
        (try clear hi)
        refine hK.out _ _ ⟨(blk_cell BK334.out 0).trans rfl, (blk_cell BK334.out 1).trans rfl, (blk_cell BK334.out 2).trans rfl, (blk_cell BK334.out 3).trans rfl, (blk_cell BK334.out 4).trans rfl, (blk_cell BK334.out 5).trans rfl⟩ (fun hHeld => ?_)
        clear hK K
        refine norm_ (a' := ?_) ?_ ?_
        rotate_left
        ·show Act.put _ (some 29) _ = _
         simp only [Act.put, sA, sB, sC, i64_w, i32_w]
         rfl
        refine pure_ (i := 4) (N := some 25) (v := ?_) (a' := ?_) #[true, true, true, true, true, false, false, false, false, false] rfl rfl (any_of HT_.out (by kernel_rfl)) (fun _ _ _ h => h) (Or.inl ⟨by rfl, ?_⟩) ?_ ?_
        rotate_left
        ·intro w'
         go_simp
         with_reducible rfl
        rotate_left
        ·simp only [Act.put, sA, sB, sC, i64_w, i32_w]
         rfl
        refine pure_ (i := 5) (N := some 30) (v := ?_) (a' := ?_) #[true, true, true, true, true, true, false, false, false, false] rfl rfl (any_of HT_.out (by kernel_rfl)) (fun _ _ _ h => h) (Or.inl ⟨by rfl, ?_⟩) ?_ ?_
        rotate_left
        ·intro w'
         go_simp
         with_reducible rfl
        rotate_left
        ·simp only [Act.put, sA, sB, sC, i64_w, i32_w]
         rfl
        refine pure_ (i := 6) (N := some 31) (v := ?_) (a' := ?_) #[true, true, true, true, true, true, true, false, false, false] rfl rfl (any_of HT_.out (by kernel_rfl)) (fun _ _ _ h => h) (Or.inl ⟨by rfl, ?_⟩) ?_ ?_
        rotate_left
        ·intro w'
         go_simp
         with_reducible rfl
        rotate_left
        ·simp only [Act.put, sA, sB, sC, i64_w, i32_w]
         rfl
        refine one_ (i := 7) (N := some 7) #[true, true, true, true, true, true, true, true, false, false] rfl rfl (one_of HT_.out (by kernel_rfl)) (by decide) (fun K hK => ?_)
        refine box_step ?hg (N := 7) ?hd (cs := #[.int .i64 0, .int .i64 0, .string (⟨#[]⟩ : ByteArray)]) (t := 23) ?hr ?_; (case hd => rfl); (case hg => rfl); (case hr => first | (go_simp; done) | (go_simp; rfl))
        intro gb381 hg w33 hbox hb
        have n0_ := aM (Kd.R_below (rO HO340) hb)
        have n1_ := aM (Kd.R_below (rO HO346) hb)
        have n2_ := aM (Kd.R_below (rO HO349) hb)
        have n3_ := aM (Kd.R_below (rO HO352) hb)
        have n4_ := aM (Kd.R_below (rO HO361) hb)
        have n5_ := aM (Kd.R_below (rO HO367) hb)
        have n6_ := aM (Kd.R_below (rO HO370) hb)
        have n7_ := aM (Kd.R_below (rO HO373) hb)
        have n8_ := aM (blk_below (bO BK334) hb)
        have n9_ := aM (below_step (lO HB) hb)
        have n10_ := aM (hbox)
        have n11_ := aM (gO hg (lO HB))
        have n12_ := aM (gO hg (lO HB))
        have n13_ := aM (ne_lt hg (bO BK334))
        have n14_ := aM (ne_gt hg (bO BK334))
        clear HO340
        clear HO346
        clear HO349
        clear HO352
        clear HO361
        clear HO367
        clear HO370
        clear HO373
        clear BK334
        clear HB
        have HO340 := n0_
        have HO346 := n1_
        have HO349 := n2_
        have HO352 := n3_
        have HO361 := n4_
        have HO367 := n5_
        have HO370 := n6_
        have HO373 := n7_
        have BK334 := n8_
        have HB := n9_
        have BK381 := n10_
        have GW381 := n11_
        have GE381 := n12_
        have NB334_381 := n13_
        have NB381_334 := n14_
        clear n0_ n1_ n2_ n3_ n4_ n5_ n6_ n7_ n8_ n9_ n10_ n11_ n12_ n13_ n14_
        clear hb hbox hg
        refine hK.out _ _ ⟨(blk_cell BK334.out 0).trans rfl, (blk_cell BK334.out 1).trans rfl, (blk_cell BK334.out 2).trans rfl, (blk_cell BK334.out 3).trans rfl, (blk_cell BK334.out 4).trans rfl, (blk_cell BK334.out 5).trans rfl⟩ (fun hHeld => ?_)
        clear hK K
        refine norm_ (a' := ?_) ?_ ?_
        rotate_left
        ·show Act.put _ (some 7) _ = _
         simp only [Act.put, sA, sB, sC, i64_w, i32_w]
         rfl
        exact norm_ (by simp only [putAll, Act.put, sA, sB, sC]) (hCont (.slice Ao28 t359.length co28, .slice Ao29 t365.length co29, .slice Ao30 t368.length co30, .slice Ao31 t371.length co31, gb381) _ ⟨hHeld, (by (with_reducible repeat (first | apply Kd.R_alloc | apply Kd.R_drewN | apply Kd.R_drew)); exact Kd.R_mono HO340.out (fun _ hk => hk.2)), (by (with_reducible repeat (first | apply Kd.R_alloc | apply Kd.R_drewN | apply Kd.R_drew)); exact Kd.R_mono HO346.out (fun _ hk => ⟨hk.1.1.1.1, ⟨hk.1.1.1.2, ⟨hk.1.1.2, ⟨hk.1.2, hk.2⟩⟩⟩⟩)), (by (with_reducible repeat (first | apply Kd.R_alloc | apply Kd.R_drewN | apply Kd.R_drew)); exact Kd.R_mono HO349.out (fun _ hk => ⟨hk.1.1.1.1, ⟨hk.1.1.1.2, ⟨hk.1.1.2, ⟨hk.1.2, hk.2⟩⟩⟩⟩)), (by (with_reducible repeat (first | apply Kd.R_alloc | apply Kd.R_drewN | apply Kd.R_drew)); exact Kd.R_mono HO352.out (fun _ hk => ⟨hk.1.1.1.1, ⟨hk.1.1.1.2, ⟨hk.1.1.2, ⟨hk.1.2, hk.2⟩⟩⟩⟩)), (by (with_reducible repeat (first | apply Kd.R_alloc | apply Kd.R_drewN | apply Kd.R_drew)); exact Kd.R_mono HO361.out (fun _ hk => hk.2)), (by (with_reducible repeat (first | apply Kd.R_alloc | apply Kd.R_drewN | apply Kd.R_drew)); exact Kd.R_mono HO367.out (fun _ hk => ⟨hk.1.1.2, ⟨hk.1.2, ⟨hk.2, ⟨hk.1.1.1.1, hk.1.1.1.2⟩⟩⟩⟩)), (by (with_reducible repeat (first | apply Kd.R_alloc | apply Kd.R_drewN | apply Kd.R_drew)); exact Kd.R_mono HO370.out (fun _ hk => ⟨hk.1.1.2, ⟨hk.1.2, ⟨hk.2, ⟨hk.1.1.1.1, hk.1.1.1.2⟩⟩⟩⟩)), (by (with_reducible repeat (first | apply Kd.R_alloc | apply Kd.R_drewN | apply Kd.R_drew)); exact Kd.R_mono HO373.out (fun _ hk => ⟨hk.1.1.2, ⟨hk.1.2, ⟨hk.2, ⟨hk.1.1.1.1, hk.1.1.1.2⟩⟩⟩⟩)), (bO BK334), (bO BK381), GW381.out, GE381.out, NB334_381.out, NB381_334.out, (lO HB)⟩)
       ·skip
        refine box_step ?hg (N := 7) ?hd (cs := #[.int .i64 0, .int .i64 0, .string (⟨#[]⟩ : ByteArray)]) (t := 23) ?hr ?_; (case hd => rfl); (case hg => rfl); (case hr => first | (go_simp; done) | (go_simp; rfl))
        intro gb381 hg w28 hbox hb
        have n0_ := aM (Kd.R_below (rO HO340) hb)
        have n1_ := aM (Kd.R_below (rO HO346) hb)
        have n2_ := aM (Kd.R_below (rO HO349) hb)
        have n3_ := aM (Kd.R_below (rO HO352) hb)
        have n4_ := aM (Kd.R_below (rO HO361) hb)
        have n5_ := aM (Kd.R_below (rO HO367) hb)
        have n6_ := aM (Kd.R_below (rO HO370) hb)
        have n7_ := aM (Kd.R_below (rO HO373) hb)
        have n8_ := aM (blk_below (bO BK334) hb)
        have n9_ := aM (below_step (lO HB) hb)
        have n10_ := aM (hbox)
        have n11_ := aM (gO hg (lO HB))
        have n12_ := aM (gO hg (lO HB))
        have n13_ := aM (ne_lt hg (bO BK334))
        have n14_ := aM (ne_gt hg (bO BK334))
        clear HO340
        clear HO346
        clear HO349
        clear HO352
        clear HO361
        clear HO367
        clear HO370
        clear HO373
        clear BK334
        clear HB
        have HO340 := n0_
        have HO346 := n1_
        have HO349 := n2_
        have HO352 := n3_
        have HO361 := n4_
        have HO367 := n5_
        have HO370 := n6_
        have HO373 := n7_
        have BK334 := n8_
        have HB := n9_
        have BK381 := n10_
        have GW381 := n11_
        have GE381 := n12_
        have NB334_381 := n13_
        have NB381_334 := n14_
        clear n0_ n1_ n2_ n3_ n4_ n5_ n6_ n7_ n8_ n9_ n10_ n11_ n12_ n13_ n14_
        clear hb hbox hg
        obtain ⟨Ao29, co29, eo29⟩ := Kd.R_slice HO361.out
        (first | subst eo29 | (injection eo29 with f1_ f2_ f3_; have f4_ := f1_.symm; have f5_ := f3_.symm; clear f1_ f2_ f3_; subst f4_; subst f5_))
        obtain ⟨Ao30, co30, eo30⟩ := Kd.R_slice HO367.out
        (first | subst eo30 | (injection eo30 with f1_ f2_ f3_; have f4_ := f1_.symm; have f5_ := f3_.symm; clear f1_ f2_ f3_; subst f4_; subst f5_))
        obtain ⟨Ao31, co31, eo31⟩ := Kd.R_slice HO370.out
        (first | subst eo31 | (injection eo31 with f1_ f2_ f3_; have f4_ := f1_.symm; have f5_ := f3_.symm; clear f1_ f2_ f3_; subst f4_; subst f5_))
        obtain ⟨Ao32, co32, eo32⟩ := Kd.R_slice HO373.out
        (first | subst eo32 | (injection eo32 with f1_ f2_ f3_; have f4_ := f1_.symm; have f5_ := f3_.symm; clear f1_ f2_ f3_; subst f4_; subst f5_))
        refine hK.out _ _ ⟨(blk_cell BK334.out 0).trans rfl, (blk_cell BK334.out 1).trans rfl, (blk_cell BK334.out 2).trans rfl, (blk_cell BK334.out 3).trans rfl, (blk_cell BK334.out 4).trans rfl, (blk_cell BK334.out 5).trans rfl⟩ (fun hHeld => ?_)
        clear hK K
        refine norm_ (a' := ?_) ?_ ?_
        rotate_left
        ·show Act.put _ (some 7) _ = _
         simp only [Act.put, sA, sB, sC, i64_w, i32_w]
         rfl
        refine one_ (i := 3) (N := some 29) #[true, true, true, true, false, false, false, true, false, false] rfl rfl (one_of HT_.out (by kernel_rfl)) (by decide) (fun K hK => ?_)
        refine goes_ Try.func15 (by kernel_rfl) rfl #[.agg #[.string t358, .slice Ao29 t359.length co29, .int .i64 t362, .int .i64 t363, .int .i64 t364, .slice Ao30 t365.length co30, .slice Ao31 t368.length co31, .slice Ao32 t371.length co32, .int .i64 t374, .int .i64 t375, .int .i64 t376], .slice A1 l1.length c1, .agg #[.int .i64 a0_0, .string a0_1, .int .i64 a0_2, .int .i64 a0_3, .string a0_4, .slice A0_5 l0_5.length c0_5]] (by rfl) rfl rfl (by (try simp only [List.map_toArray, List.map_cons, List.map_nil]); first | done | rfl | (simp only [List.length_drop, List.length_take]; rfl)) ?_
        with_reducible refine (expr_Eval.calls kj4 t358 _ _ t359 t362 t363 t364 _ _ t365 _ _ t368 _ _ t371 t374 t375 t376 _ _ l1 a0_0 a0_1 a0_2 a0_3 a0_4 _ _ l0_5 t377 t378 t379 t380 _ ?side1 ?side2 ?side3 ?side4 ?side5 ?side6 ?side7 ?side8 ?side9 ?side10 ?side11 ?side12 A18.out).mono ?_
        (case side1 => exact cO (Kd.R_reads' HO361.out).2.2)
        (case side2 => exact (Kd.R_reads' HO361.out).2.1)
        (case side3 => exact cO (Kd.R_reads' HO367.out).2.2)
        (case side4 => exact (Kd.R_reads' HO367.out).2.1)
        (case side5 => exact cO (Kd.R_reads' HO370.out).2.2)
        (case side6 => exact (Kd.R_reads' HO370.out).2.1)
        (case side7 => exact cO (Kd.R_reads' HO373.out).2.2)
        (case side8 => exact (Kd.R_reads' HO373.out).2.1)
        (case side9 => exact cO (Kd.C_below HR1.out HB.out))
        (case side10 => exact HC1.out)
        (case side11 => exact cO (Kd.C_below HR0_5.out HB.out))
        (case side12 => exact HC0_5.out)
        rintro e w33 ⟨rfl, hb⟩
        refine ⟨_, rfl, ?_⟩
        have n0_ := aM (Kd.R_below (rO HO340) hb)
        have n1_ := aM (Kd.R_below (rO HO346) hb)
        have n2_ := aM (Kd.R_below (rO HO349) hb)
        have n3_ := aM (Kd.R_below (rO HO352) hb)
        have n4_ := aM (Kd.R_below (rO HO361) hb)
        have n5_ := aM (Kd.R_below (rO HO367) hb)
        have n6_ := aM (Kd.R_below (rO HO370) hb)
        have n7_ := aM (Kd.R_below (rO HO373) hb)
        have n8_ := aM (blk_below (bO BK334) hb)
        have n9_ := aM (blk_below (bO BK381) hb)
        have n10_ := aM (below_step (lO HB) hb)
        clear HO340
        clear HO346
        clear HO349
        clear HO352
        clear HO361
        clear HO367
        clear HO370
        clear HO373
        clear BK334
        clear BK381
        clear HB
        have HO340 := n0_
        have HO346 := n1_
        have HO349 := n2_
        have HO352 := n3_
        have HO361 := n4_
        have HO367 := n5_
        have HO370 := n6_
        have HO373 := n7_
        have BK334 := n8_
        have BK381 := n9_
        have HB := n10_
        clear n0_ n1_ n2_ n3_ n4_ n5_ n6_ n7_ n8_ n9_ n10_
        (try clear hb)
        (try clear hb2)
        (try clear hk)
        (try clear hi)
        refine hK.out _ _ ⟨(blk_cell BK334.out 0).trans rfl, (blk_cell BK334.out 1).trans rfl, (blk_cell BK334.out 2).trans rfl, (blk_cell BK334.out 3).trans rfl, (blk_cell BK334.out 4).trans rfl, (blk_cell BK334.out 5).trans rfl⟩ (fun hHeld => ?_)
        clear hK K
        refine norm_ (a' := ?_) ?_ ?_
        rotate_left
        ·show Act.put _ (some 29) _ = _
         simp only [Act.put, sA, sB, sC, i64_w, i32_w]
         rfl
        refine pure_ (i := 4) (N := some 25) (v := ?_) (a' := ?_) #[true, true, true, true, true, false, false, true, false, false] rfl rfl (any_of HT_.out (by kernel_rfl)) (fun _ _ _ h => h) (Or.inl ⟨by rfl, ?_⟩) ?_ ?_
        rotate_left
        ·intro w'
         go_simp
         with_reducible rfl
        rotate_left
        ·simp only [Act.put, sA, sB, sC, i64_w, i32_w]
         rfl
        refine pure_ (i := 5) (N := some 30) (v := ?_) (a' := ?_) #[true, true, true, true, true, true, false, true, false, false] rfl rfl (any_of HT_.out (by kernel_rfl)) (fun _ _ _ h => h) (Or.inl ⟨by rfl, ?_⟩) ?_ ?_
        rotate_left
        ·intro w'
         go_simp
         with_reducible rfl
        rotate_left
        ·simp only [Act.put, sA, sB, sC, i64_w, i32_w]
         rfl
        refine pure_ (i := 6) (N := some 31) (v := ?_) (a' := ?_) #[true, true, true, true, true, true, true, true, false, false] rfl rfl (any_of HT_.out (by kernel_rfl)) (fun _ _ _ h => h) (Or.inl ⟨by rfl, ?_⟩) ?_ ?_
        rotate_left
        ·intro w'
         go_simp
         with_reducible rfl
        rotate_left
        ·simp only [Act.put, sA, sB, sC, i64_w, i32_w]
         rfl
        exact norm_ (by simp only [putAll, Act.put, sA, sB, sC]) (hCont (.slice Ao29 t359.length co29, .slice Ao30 t365.length co30, .slice Ao31 t368.length co31, .slice Ao32 t371.length co32, gb381) _ ⟨hHeld, (by (with_reducible repeat (first | apply Kd.R_alloc | apply Kd.R_drewN | apply Kd.R_drew)); exact Kd.R_mono HO340.out (fun _ hk => hk.2)), (by (with_reducible repeat (first | apply Kd.R_alloc | apply Kd.R_drewN | apply Kd.R_drew)); exact Kd.R_mono HO346.out (fun _ hk => ⟨hk.1.1.1.1, ⟨hk.1.1.1.2, ⟨hk.1.1.2, ⟨hk.1.2, hk.2⟩⟩⟩⟩)), (by (with_reducible repeat (first | apply Kd.R_alloc | apply Kd.R_drewN | apply Kd.R_drew)); exact Kd.R_mono HO349.out (fun _ hk => ⟨hk.1.1.1.1, ⟨hk.1.1.1.2, ⟨hk.1.1.2, ⟨hk.1.2, hk.2⟩⟩⟩⟩)), (by (with_reducible repeat (first | apply Kd.R_alloc | apply Kd.R_drewN | apply Kd.R_drew)); exact Kd.R_mono HO352.out (fun _ hk => ⟨hk.1.1.1.1, ⟨hk.1.1.1.2, ⟨hk.1.1.2, ⟨hk.1.2, hk.2⟩⟩⟩⟩)), (by (with_reducible repeat (first | apply Kd.R_alloc | apply Kd.R_drewN | apply Kd.R_drew)); exact Kd.R_mono HO361.out (fun _ hk => hk.2)), (by (with_reducible repeat (first | apply Kd.R_alloc | apply Kd.R_drewN | apply Kd.R_drew)); exact Kd.R_mono HO367.out (fun _ hk => ⟨hk.1.1.2, ⟨hk.1.2, ⟨hk.2, ⟨hk.1.1.1.1, hk.1.1.1.2⟩⟩⟩⟩)), (by (with_reducible repeat (first | apply Kd.R_alloc | apply Kd.R_drewN | apply Kd.R_drew)); exact Kd.R_mono HO370.out (fun _ hk => ⟨hk.1.1.2, ⟨hk.1.2, ⟨hk.2, ⟨hk.1.1.1.1, hk.1.1.1.2⟩⟩⟩⟩)), (by (with_reducible repeat (first | apply Kd.R_alloc | apply Kd.R_drewN | apply Kd.R_drew)); exact Kd.R_mono HO373.out (fun _ hk => ⟨hk.1.1.2, ⟨hk.1.2, ⟨hk.2, ⟨hk.1.1.1.1, hk.1.1.1.2⟩⟩⟩⟩)), (bO BK334), (bO BK381), GW381.out, GE381.out, NB334_381.out, NB381_334.out, (lO HB)⟩)
      ·skip
       refine box_step ?hg (N := 7) ?hd (cs := #[.int .i64 0, .int .i64 0, .string (⟨#[]⟩ : ByteArray)]) (t := 23) ?hr ?_; (case hd => rfl); (case hg => rfl); (case hr => first | (go_simp; done) | (go_simp; rfl))
       intro gb381 hg w27 hbox hb
       have n0_ := aM (Kd.R_below (rO HO340) hb)
       have n1_ := aM (Kd.R_below (rO HO346) hb)
       have n2_ := aM (Kd.R_below (rO HO349) hb)
       have n3_ := aM (Kd.R_below (rO HO352) hb)
       have n4_ := aM (blk_below (bO BK334) hb)
       have n5_ := aM (below_step (lO HB) hb)
       have n6_ := aM (hbox)
       have n7_ := aM (gO hg (lO HB))
       have n8_ := aM (gO hg (lO HB))
       have n9_ := aM (ne_lt hg (bO BK334))
       have n10_ := aM (ne_gt hg (bO BK334))
       clear HO340
       clear HO346
       clear HO349
       clear HO352
       clear BK334
       clear HB
       have HO340 := n0_
       have HO346 := n1_
       have HO349 := n2_
       have HO352 := n3_
       have BK334 := n4_
       have HB := n5_
       have BK381 := n6_
       have GW381 := n7_
       have GE381 := n8_
       have NB334_381 := n9_
       have NB381_334 := n10_
       clear n0_ n1_ n2_ n3_ n4_ n5_ n6_ n7_ n8_ n9_ n10_
       clear hb hbox hg
       refine hK.out _ _ ⟨(blk_cell BK334.out 0).trans rfl, (blk_cell BK334.out 1).trans rfl, (blk_cell BK334.out 2).trans rfl, (blk_cell BK334.out 3).trans rfl, (blk_cell BK334.out 4).trans rfl, (blk_cell BK334.out 5).trans rfl⟩ (fun hHeld => ?_)
       clear hK K
       refine norm_ (a' := ?_) ?_ ?_
       rotate_left
       ·show Act.put _ (some 7) _ = _
        simp only [Act.put, sA, sB, sC, i64_w, i32_w]
        rfl
       refine one_ (i := 0) (N := some 26) #[true, true, true, false, false, false, false, true, false, false] rfl rfl (one_of HT_.out (by kernel_rfl)) (by decide) (fun K hK => ?_)
       refine goes_ Try.func12 (by kernel_rfl) rfl #[] (by rfl) rfl rfl (by (try simp only [List.map_toArray, List.map_cons, List.map_nil]); first | done | rfl | (simp only [List.length_drop, List.length_take]; rfl)) ?_
       with_reducible refine (antipodelaw19_Table.calls  t358 t359 t362 t363 t364 t365 t368 t371 t374 t375 t376 _ A17.out).mono ?_
       rintro e w28 ⟨v360, v366, v369, v372, rfl, ho0, ho1, ho2, ho3, hb⟩
       refine ⟨_, rfl, ?_⟩
       have n0_ := aM (Kd.R_elder' (rO HO340) (Kd.R_base ho0) hb)
       have n1_ := aM (Kd.R_mono (Kd.R_told (Kd.R_told (Kd.R_told (Kd.R_old (rO HO346) hb) (Kd.R_base ho1)) (Kd.R_base ho2)) (Kd.R_base ho3)) (fun _ h_ => h_.1))
       have n2_ := aM (Kd.R_mono (Kd.R_told (Kd.R_told (Kd.R_told (Kd.R_old (rO HO349) hb) (Kd.R_base ho1)) (Kd.R_base ho2)) (Kd.R_base ho3)) (fun _ h_ => h_.1))
       have n3_ := aM (Kd.R_mono (Kd.R_told (Kd.R_told (Kd.R_told (Kd.R_old (rO HO352) hb) (Kd.R_base ho1)) (Kd.R_base ho2)) (Kd.R_base ho3)) (fun _ h_ => h_.1))
       have n4_ := aM (Kd.R_lower (Kd.R_new' ho0 (Kd.R_lt (rO HO340))) (below_size (lO HB)))
       have n5_ := aM (Kd.R_lower (Kd.R_new' (Kd.R_new' (Kd.R_new' ho1 (Kd.R_lt (rO HO346))) (Kd.R_lt (rO HO349))) (Kd.R_lt (rO HO352))) (below_size (lO HB)))
       have n6_ := aM (Kd.R_lower (Kd.R_new' (Kd.R_new' (Kd.R_new' ho2 (Kd.R_lt (rO HO346))) (Kd.R_lt (rO HO349))) (Kd.R_lt (rO HO352))) (below_size (lO HB)))
       have n7_ := aM (Kd.R_lower (Kd.R_new' (Kd.R_new' (Kd.R_new' ho3 (Kd.R_lt (rO HO346))) (Kd.R_lt (rO HO349))) (Kd.R_lt (rO HO352))) (below_size (lO HB)))
       have n8_ := aM (blk_below (bO BK334) hb)
       have n9_ := aM (blk_below (bO BK381) hb)
       have n10_ := aM (below_step (lO HB) hb)
       clear HO340
       clear HO346
       clear HO349
       clear HO352
       clear BK334
       clear BK381
       clear HB
       have HO340 := n0_
       have HO346 := n1_
       have HO349 := n2_
       have HO352 := n3_
       have HO361 := n4_
       have HO367 := n5_
       have HO370 := n6_
       have HO373 := n7_
       have BK334 := n8_
       have BK381 := n9_
       have HB := n10_
       clear n0_ n1_ n2_ n3_ n4_ n5_ n6_ n7_ n8_ n9_ n10_
       (try clear hb)
       (try clear hb2)
       (try clear hk)
       (try clear hi)
       (try clear ho0)
       (try clear ho1)
       (try clear ho2)
       (try clear ho3)
       obtain ⟨Ao29, co29, eo29⟩ := Kd.R_slice HO361.out
       (first | subst eo29 | (injection eo29 with f1_ f2_ f3_; have f4_ := f1_.symm; have f5_ := f3_.symm; clear f1_ f2_ f3_; subst f4_; subst f5_))
       obtain ⟨Ao30, co30, eo30⟩ := Kd.R_slice HO367.out
       (first | subst eo30 | (injection eo30 with f1_ f2_ f3_; have f4_ := f1_.symm; have f5_ := f3_.symm; clear f1_ f2_ f3_; subst f4_; subst f5_))
       obtain ⟨Ao31, co31, eo31⟩ := Kd.R_slice HO370.out
       (first | subst eo31 | (injection eo31 with f1_ f2_ f3_; have f4_ := f1_.symm; have f5_ := f3_.symm; clear f1_ f2_ f3_; subst f4_; subst f5_))
       obtain ⟨Ao32, co32, eo32⟩ := Kd.R_slice HO373.out
       (first | subst eo32 | (injection eo32 with f1_ f2_ f3_; have f4_ := f1_.symm; have f5_ := f3_.symm; clear f1_ f2_ f3_; subst f4_; subst f5_))
       refine hK.out _ _ ⟨(blk_cell BK334.out 0).trans rfl, (blk_cell BK334.out 1).trans rfl, (blk_cell BK334.out 2).trans rfl, (blk_cell BK334.out 3).trans rfl, (blk_cell BK334.out 4).trans rfl, (blk_cell BK334.out 5).trans rfl⟩ (fun hHeld => ?_)
       clear hK K
       refine norm_ (a' := ?_) ?_ ?_
       rotate_left
       ·show Act.put _ (some 26) _ = _
        simp only [Act.put, sA, sB, sC, i64_w, i32_w]
        rfl
       refine one_ (i := 3) (N := some 29) #[true, true, true, true, false, false, false, true, false, false] rfl rfl (one_of HT_.out (by kernel_rfl)) (by decide) (fun K hK => ?_)
       refine goes_ Try.func15 (by kernel_rfl) rfl #[.agg #[.string t358, .slice Ao29 t359.length co29, .int .i64 t362, .int .i64 t363, .int .i64 t364, .slice Ao30 t365.length co30, .slice Ao31 t368.length co31, .slice Ao32 t371.length co32, .int .i64 t374, .int .i64 t375, .int .i64 t376], .slice A1 l1.length c1, .agg #[.int .i64 a0_0, .string a0_1, .int .i64 a0_2, .int .i64 a0_3, .string a0_4, .slice A0_5 l0_5.length c0_5]] (by rfl) rfl rfl (by (try simp only [List.map_toArray, List.map_cons, List.map_nil]); first | done | rfl | (simp only [List.length_drop, List.length_take]; rfl)) ?_
       with_reducible refine (expr_Eval.calls kj4 t358 _ _ t359 t362 t363 t364 _ _ t365 _ _ t368 _ _ t371 t374 t375 t376 _ _ l1 a0_0 a0_1 a0_2 a0_3 a0_4 _ _ l0_5 t377 t378 t379 t380 _ ?side1 ?side2 ?side3 ?side4 ?side5 ?side6 ?side7 ?side8 ?side9 ?side10 ?side11 ?side12 A18.out).mono ?_
       (case side1 => exact cO (Kd.R_reads' HO361.out).2.2)
       (case side2 => exact (Kd.R_reads' HO361.out).2.1)
       (case side3 => exact cO (Kd.R_reads' HO367.out).2.2)
       (case side4 => exact (Kd.R_reads' HO367.out).2.1)
       (case side5 => exact cO (Kd.R_reads' HO370.out).2.2)
       (case side6 => exact (Kd.R_reads' HO370.out).2.1)
       (case side7 => exact cO (Kd.R_reads' HO373.out).2.2)
       (case side8 => exact (Kd.R_reads' HO373.out).2.1)
       (case side9 => exact cO (Kd.C_below HR1.out HB.out))
       (case side10 => exact HC1.out)
       (case side11 => exact cO (Kd.C_below HR0_5.out HB.out))
       (case side12 => exact HC0_5.out)
       rintro e w33 ⟨rfl, hb⟩
       refine ⟨_, rfl, ?_⟩
       have n0_ := aM (Kd.R_below (rO HO340) hb)
       have n1_ := aM (Kd.R_below (rO HO346) hb)
       have n2_ := aM (Kd.R_below (rO HO349) hb)
       have n3_ := aM (Kd.R_below (rO HO352) hb)
       have n4_ := aM (Kd.R_below (rO HO361) hb)
       have n5_ := aM (Kd.R_below (rO HO367) hb)
       have n6_ := aM (Kd.R_below (rO HO370) hb)
       have n7_ := aM (Kd.R_below (rO HO373) hb)
       have n8_ := aM (blk_below (bO BK334) hb)
       have n9_ := aM (blk_below (bO BK381) hb)
       have n10_ := aM (below_step (lO HB) hb)
       clear HO340
       clear HO346
       clear HO349
       clear HO352
       clear HO361
       clear HO367
       clear HO370
       clear HO373
       clear BK334
       clear BK381
       clear HB
       have HO340 := n0_
       have HO346 := n1_
       have HO349 := n2_
       have HO352 := n3_
       have HO361 := n4_
       have HO367 := n5_
       have HO370 := n6_
       have HO373 := n7_
       have BK334 := n8_
       have BK381 := n9_
       have HB := n10_
       clear n0_ n1_ n2_ n3_ n4_ n5_ n6_ n7_ n8_ n9_ n10_
       (try clear hb)
       (try clear hb2)
       (try clear hk)
       (try clear hi)
       refine hK.out _ _ ⟨(blk_cell BK334.out 0).trans rfl, (blk_cell BK334.out 1).trans rfl, (blk_cell BK334.out 2).trans rfl, (blk_cell BK334.out 3).trans rfl, (blk_cell BK334.out 4).trans rfl, (blk_cell BK334.out 5).trans rfl⟩ (fun hHeld => ?_)
       clear hK K
       refine norm_ (a' := ?_) ?_ ?_
       rotate_left
       ·show Act.put _ (some 29) _ = _
        simp only [Act.put, sA, sB, sC, i64_w, i32_w]
        rfl
       refine pure_ (i := 4) (N := some 25) (v := ?_) (a' := ?_) #[true, true, true, true, true, false, false, true, false, false] rfl rfl (any_of HT_.out (by kernel_rfl)) (fun _ _ _ h => h) (Or.inl ⟨by rfl, ?_⟩) ?_ ?_
       rotate_left
       ·intro w'
        go_simp
        with_reducible rfl
       rotate_left
       ·simp only [Act.put, sA, sB, sC, i64_w, i32_w]
        rfl
       refine pure_ (i := 5) (N := some 30) (v := ?_) (a' := ?_) #[true, true, true, true, true, true, false, true, false, false] rfl rfl (any_of HT_.out (by kernel_rfl)) (fun _ _ _ h => h) (Or.inl ⟨by rfl, ?_⟩) ?_ ?_
       rotate_left
       ·intro w'
        go_simp
        with_reducible rfl
       rotate_left
       ·simp only [Act.put, sA, sB, sC, i64_w, i32_w]
        rfl
       refine pure_ (i := 6) (N := some 31) (v := ?_) (a' := ?_) #[true, true, true, true, true, true, true, true, false, false] rfl rfl (any_of HT_.out (by kernel_rfl)) (fun _ _ _ h => h) (Or.inl ⟨by rfl, ?_⟩) ?_ ?_
       rotate_left
       ·intro w'
        go_simp
        with_reducible rfl
       rotate_left
       ·simp only [Act.put, sA, sB, sC, i64_w, i32_w]
        rfl
       exact norm_ (by simp only [putAll, Act.put, sA, sB, sC]) (hCont (.slice Ao29 t359.length co29, .slice Ao30 t365.length co30, .slice Ao31 t368.length co31, .slice Ao32 t371.length co32, gb381) _ ⟨hHeld, (by (with_reducible repeat (first | apply Kd.R_alloc | apply Kd.R_drewN | apply Kd.R_drew)); exact Kd.R_mono HO340.out (fun _ hk => hk.2)), (by (with_reducible repeat (first | apply Kd.R_alloc | apply Kd.R_drewN | apply Kd.R_drew)); exact Kd.R_mono HO346.out (fun _ hk => ⟨hk.1.1.1.1, ⟨hk.1.1.1.2, ⟨hk.1.1.2, ⟨hk.1.2, hk.2⟩⟩⟩⟩)), (by (with_reducible repeat (first | apply Kd.R_alloc | apply Kd.R_drewN | apply Kd.R_drew)); exact Kd.R_mono HO349.out (fun _ hk => ⟨hk.1.1.1.1, ⟨hk.1.1.1.2, ⟨hk.1.1.2, ⟨hk.1.2, hk.2⟩⟩⟩⟩)), (by (with_reducible repeat (first | apply Kd.R_alloc | apply Kd.R_drewN | apply Kd.R_drew)); exact Kd.R_mono HO352.out (fun _ hk => ⟨hk.1.1.1.1, ⟨hk.1.1.1.2, ⟨hk.1.1.2, ⟨hk.1.2, hk.2⟩⟩⟩⟩)), (by (with_reducible repeat (first | apply Kd.R_alloc | apply Kd.R_drewN | apply Kd.R_drew)); exact Kd.R_mono HO361.out (fun _ hk => hk.2)), (by (with_reducible repeat (first | apply Kd.R_alloc | apply Kd.R_drewN | apply Kd.R_drew)); exact Kd.R_mono HO367.out (fun _ hk => ⟨hk.1.1.2, ⟨hk.1.2, ⟨hk.2, ⟨hk.1.1.1.1, hk.1.1.1.2⟩⟩⟩⟩)), (by (with_reducible repeat (first | apply Kd.R_alloc | apply Kd.R_drewN | apply Kd.R_drew)); exact Kd.R_mono HO370.out (fun _ hk => ⟨hk.1.1.2, ⟨hk.1.2, ⟨hk.2, ⟨hk.1.1.1.1, hk.1.1.1.2⟩⟩⟩⟩)), (by (with_reducible repeat (first | apply Kd.R_alloc | apply Kd.R_drewN | apply Kd.R_drew)); exact Kd.R_mono HO373.out (fun _ hk => ⟨hk.1.1.2, ⟨hk.1.2, ⟨hk.2, ⟨hk.1.1.1.1, hk.1.1.1.2⟩⟩⟩⟩)), (bO BK334), (bO BK381), GW381.out, GE381.out, NB334_381.out, NB381_334.out, (lO HB)⟩)
     rintro ⟨v360, v366, v369, v372, gb381⟩ w34 ⟨hS_, h0_, h1_, h2_, h3_, h4_, h5_, h6_, h7_, h8_, h9_, h10_, h11_, h12_, h13_, h14_⟩
     have n0_ : Aside0 (Kd.R k57 57 w34 w.heap.size (fun k_ => some k_ ≠ (v360 : Value).ownBlock) (.slice Ao21 t338.length co21) t338) := ⟨h0_⟩
     have n1_ : Aside0 (Kd.R (Kd.int .i64) 3 w34 w.heap.size (fun k_ => some k_ ≠ (.slice Ao23 t347.length co23 : Value).ownBlock ∧ some k_ ≠ (.slice Ao24 t350.length co24 : Value).ownBlock ∧ some k_ ≠ (v366 : Value).ownBlock ∧ some k_ ≠ (v369 : Value).ownBlock ∧ some k_ ≠ (v372 : Value).ownBlock) (.slice Ao22 t344.length co22) t344) := ⟨h1_⟩
     have n2_ : Aside0 (Kd.R (Kd.int .i64) 3 w34 w.heap.size (fun k_ => some k_ ≠ (.slice Ao22 t344.length co22 : Value).ownBlock ∧ some k_ ≠ (.slice Ao24 t350.length co24 : Value).ownBlock ∧ some k_ ≠ (v366 : Value).ownBlock ∧ some k_ ≠ (v369 : Value).ownBlock ∧ some k_ ≠ (v372 : Value).ownBlock) (.slice Ao23 t347.length co23) t347) := ⟨h2_⟩
     have n3_ : Aside0 (Kd.R (Kd.int .i64) 3 w34 w.heap.size (fun k_ => some k_ ≠ (.slice Ao22 t344.length co22 : Value).ownBlock ∧ some k_ ≠ (.slice Ao23 t347.length co23 : Value).ownBlock ∧ some k_ ≠ (v366 : Value).ownBlock ∧ some k_ ≠ (v369 : Value).ownBlock ∧ some k_ ≠ (v372 : Value).ownBlock) (.slice Ao24 t350.length co24) t350) := ⟨h3_⟩
     have n4_ : Aside0 (Kd.R k57 57 w34 w.heap.size (fun k_ => some k_ ≠ (.slice Ao21 t338.length co21 : Value).ownBlock) v360 t359) := ⟨h4_⟩
     have n5_ : Aside0 (Kd.R (Kd.int .i64) 3 w34 w.heap.size (fun k_ => some k_ ≠ (.slice Ao22 t344.length co22 : Value).ownBlock ∧ some k_ ≠ (.slice Ao23 t347.length co23 : Value).ownBlock ∧ some k_ ≠ (.slice Ao24 t350.length co24 : Value).ownBlock ∧ some k_ ≠ (v369 : Value).ownBlock ∧ some k_ ≠ (v372 : Value).ownBlock) v366 t365) := ⟨h5_⟩
     have n6_ : Aside0 (Kd.R (Kd.int .i64) 3 w34 w.heap.size (fun k_ => some k_ ≠ (.slice Ao22 t344.length co22 : Value).ownBlock ∧ some k_ ≠ (.slice Ao23 t347.length co23 : Value).ownBlock ∧ some k_ ≠ (.slice Ao24 t350.length co24 : Value).ownBlock ∧ some k_ ≠ (v366 : Value).ownBlock ∧ some k_ ≠ (v372 : Value).ownBlock) v369 t368) := ⟨h6_⟩
     have n7_ : Aside0 (Kd.R (Kd.int .i64) 3 w34 w.heap.size (fun k_ => some k_ ≠ (.slice Ao22 t344.length co22 : Value).ownBlock ∧ some k_ ≠ (.slice Ao23 t347.length co23 : Value).ownBlock ∧ some k_ ≠ (.slice Ao24 t350.length co24 : Value).ownBlock ∧ some k_ ≠ (v366 : Value).ownBlock ∧ some k_ ≠ (v369 : Value).ownBlock) v372 t371) := ⟨h7_⟩
     have n8_ : Aside0 (w34.heap[gb334]? = some (.cells #[.int .i64 a0_0, .string a0_1, .int .i64 a0_2, .int .i64 a0_3, .string a0_4, .slice A0_5 l0_5.length c0_5] 26 (0, 0))) := ⟨h8_⟩
     have n9_ : Aside0 (w34.heap[gb381]? = some (.cells #[.int .i64 0, .int .i64 0, .string (⟨#[]⟩ : ByteArray)] 23 (0, 0))) := ⟨h9_⟩
     have n10_ : Aside0 (w.heap.size ≤ gb381) := ⟨h10_⟩
     have n11_ : Aside0 (w.heap.size ≤ gb381) := ⟨h11_⟩
     have n12_ : Aside0 (gb334 ≠ gb381) := ⟨h12_⟩
     have n13_ : Aside0 (gb381 ≠ gb334) := ⟨h13_⟩
     have n14_ : Aside0 (Below w.heap.size w w34) := ⟨h14_⟩
     clear HO340
     clear HO346
     clear HO349
     clear HO352
     clear BK334
     clear HB
     clear h0_ h1_ h2_ h3_ h4_ h5_ h6_ h7_ h8_ h9_ h10_ h11_ h12_ h13_ h14_
     have HO340 := n0_
     have HO346 := n1_
     have HO349 := n2_
     have HO352 := n3_
     have HO361 := n4_
     have HO367 := n5_
     have HO370 := n6_
     have HO373 := n7_
     have BK334 := n8_
     have BK381 := n9_
     have GW381 := n10_
     have GE381 := n11_
     have NB334_381 := n12_
     have NB381_334 := n13_
     have HB := n14_
     clear n0_ n1_ n2_ n3_ n4_ n5_ n6_ n7_ n8_ n9_ n10_ n11_ n12_ n13_ n14_
     have hHeld : w34.cell? ⟨gb334, 0, none⟩ = some (.int .i64 a0_0) ∧ w34.cell? ⟨gb334, 1, none⟩ = some (.string a0_1) ∧ w34.cell? ⟨gb334, 2, none⟩ = some (.int .i64 a0_2) ∧ w34.cell? ⟨gb334, 3, none⟩ = some (.int .i64 a0_3) ∧ w34.cell? ⟨gb334, 4, none⟩ = some (.string a0_4) ∧ w34.cell? ⟨gb334, 5, none⟩ = some (.slice A0_5 l0_5.length c0_5) := hS_
     refine norm_ (a' := ?_) ?_ ?_
     rotate_left
     ·simp only [putAll, Act.put, sA, sB, sC]
      rfl
     refine one_ (i := 8) (N := none) #[true, true, true, true, true, true, true, true, true, false] rfl rfl (one_of HT_.out (by kernel_rfl)) (by decide) (fun K hK => ?_)
     have hs35 : w34.cell? ⟨gb381, 0, none⟩ = some (.int .i64 0) := (blk_cell BK381.out 0).trans rfl
     have hfs35 := fz BK381 0
     have hns35_0 := NB334_381.out
     have hms35_0 := NB381_334.out
     have hs36 : w34.cell? ⟨gb381, 1, none⟩ = some (.int .i64 0) := (blk_cell BK381.out 1).trans rfl
     have hfs36 := fz BK381 1
     have hns36_0 := NB334_381.out
     have hms36_0 := NB381_334.out
     have hs37 : w34.cell? ⟨gb381, 2, none⟩ = some (.string (⟨#[]⟩ : ByteArray)) := (blk_cell BK381.out 2).trans rfl
     have hfs37 := fz BK381 2
     have hns37_0 := NB334_381.out
     have hms37_0 := NB381_334.out
     refine skip_ (w1 := ?_) (by rfl) rfl ?_ ?_
     rotate_left
     ·go_simp
      rfl
     refine hK.out _ _ ⟨((cell_far (p := ⟨gb381, _, none⟩) NB334_381.out _).trans (((cell_far (p := ⟨gb381, _, none⟩) NB334_381.out _).trans (((cell_far (p := ⟨gb381, _, none⟩) NB334_381.out _).trans (hHeld.1)))))), ((cell_far (p := ⟨gb381, _, none⟩) NB334_381.out _).trans (((cell_far (p := ⟨gb381, _, none⟩) NB334_381.out _).trans (((cell_far (p := ⟨gb381, _, none⟩) NB334_381.out _).trans (hHeld.2.1)))))), ((cell_far (p := ⟨gb381, _, none⟩) NB334_381.out _).trans (((cell_far (p := ⟨gb381, _, none⟩) NB334_381.out _).trans (((cell_far (p := ⟨gb381, _, none⟩) NB334_381.out _).trans (hHeld.2.2.1)))))), ((cell_far (p := ⟨gb381, _, none⟩) NB334_381.out _).trans (((cell_far (p := ⟨gb381, _, none⟩) NB334_381.out _).trans (((cell_far (p := ⟨gb381, _, none⟩) NB334_381.out _).trans (hHeld.2.2.2.1)))))), ((cell_far (p := ⟨gb381, _, none⟩) NB334_381.out _).trans (((cell_far (p := ⟨gb381, _, none⟩) NB334_381.out _).trans (((cell_far (p := ⟨gb381, _, none⟩) NB334_381.out _).trans (hHeld.2.2.2.2.1)))))), ((cell_far (p := ⟨gb381, _, none⟩) NB334_381.out _).trans (((cell_far (p := ⟨gb381, _, none⟩) NB334_381.out _).trans (((cell_far (p := ⟨gb381, _, none⟩) NB334_381.out _).trans (hHeld.2.2.2.2.2))))))⟩ (fun hHeld => ?_)
     clear hK K
     refine pure_ (i := 9) (N := some 8) (v := ?_) (a' := ?_) #[true, true, true, true, true, true, true, true, true, true] rfl rfl (any_of HT_.out (by kernel_rfl)) (fun _ _ _ h => h) (Or.inl ⟨by rfl, ?_⟩) ?_ ?_
     rotate_left
     ·intro w'
      go_simp
      with_reducible rfl
     rotate_left
     ·simp only [Act.put, sA, sB, sC, i64_w, i32_w]
      rfl
     refine done_ (done_of HT_.out (by kernel_rfl)) ?_
     go_upto_region 7 with (fail)
     (try simp only [Act.put, sA, sB, sC])
     refine wp_named (fun W_ => W_.heap[gb334]? = some (.cells #[.int .i64 a0_0, .string a0_1, .int .i64 a0_2, .int .i64 a0_3, .string a0_4, .slice A0_5 l0_5.length c0_5] 26 (0, 0)) ∧ W_.heap[gb381]? = some (.cells #[.int .i64 t377, .int .i64 t378, .string t379] 23 (0, 0)) ∧ Below w.heap.size w W_) ⟨(by (with_reducible repeat (first | refine blk_drewN ?_ _ | refine blk_drew ?_ | refine blk_alloc ?_ _)); refine blk_far ?_ NB334_381.out _; (with_reducible repeat (first | refine blk_drewN ?_ _ | refine blk_drew ?_ | refine blk_alloc ?_ _)); refine blk_far ?_ NB334_381.out _; (with_reducible repeat (first | refine blk_drewN ?_ _ | refine blk_drew ?_ | refine blk_alloc ?_ _)); refine blk_far ?_ NB334_381.out _; (with_reducible repeat (first | refine blk_drewN ?_ _ | refine blk_drew ?_ | refine blk_alloc ?_ _)); exact BK334.out), (by (with_reducible repeat (first | refine blk_drewN ?_ _ | refine blk_drew ?_ | refine blk_alloc ?_ _)); refine blk_put (cs := #[.int .i64 t377, .int .i64 t378, .string (⟨#[]⟩ : ByteArray)]) ?_ 2 _ rfl; (with_reducible repeat (first | refine blk_drewN ?_ _ | refine blk_drew ?_ | refine blk_alloc ?_ _)); refine blk_put (cs := #[.int .i64 t377, .int .i64 0, .string (⟨#[]⟩ : ByteArray)]) ?_ 1 _ rfl; (with_reducible repeat (first | refine blk_drewN ?_ _ | refine blk_drew ?_ | refine blk_alloc ?_ _)); refine blk_put (cs := #[.int .i64 0, .int .i64 0, .string (⟨#[]⟩ : ByteArray)]) ?_ 0 _ rfl; (with_reducible repeat (first | refine blk_drewN ?_ _ | refine blk_drew ?_ | refine blk_alloc ?_ _)); exact BK381.out), (lO HB)⟩ ?_
     rintro W_ ⟨bk334_, bk381_, hB_⟩
     have hz334_0 := (show W_.cell? ⟨gb334, 0, none⟩ = some (.int .i64 a0_0) from (blk_cell bk334_ 0).trans rfl)
     have hz334_1 := (show W_.cell? ⟨gb334, 1, none⟩ = some (.string a0_1) from (blk_cell bk334_ 1).trans rfl)
     have hz334_2 := (show W_.cell? ⟨gb334, 2, none⟩ = some (.int .i64 a0_2) from (blk_cell bk334_ 2).trans rfl)
     have hz334_3 := (show W_.cell? ⟨gb334, 3, none⟩ = some (.int .i64 a0_3) from (blk_cell bk334_ 3).trans rfl)
     have hz334_4 := (show W_.cell? ⟨gb334, 4, none⟩ = some (.string a0_4) from (blk_cell bk334_ 4).trans rfl)
     have hz334_5 := (show W_.cell? ⟨gb334, 5, none⟩ = some (.slice A0_5 l0_5.length c0_5) from (blk_cell bk334_ 5).trans rfl)
     have BK334_ := aM bk334_
     clear bk334_
     have hz381_0 := (show W_.cell? ⟨gb381, 0, none⟩ = some (.int .i64 t377) from (blk_cell bk381_ 0).trans rfl)
     have hz381_1 := (show W_.cell? ⟨gb381, 1, none⟩ = some (.int .i64 t378) from (blk_cell bk381_ 1).trans rfl)
     have hz381_2 := (show W_.cell? ⟨gb381, 2, none⟩ = some (.string t379) from (blk_cell bk381_ 2).trans rfl)
     have BK381_ := aM bk381_
     clear bk381_
     have HB_ := aM hB_
     clear hB_
     have H := HC_.out
     clear HC_
     have hh : antipodelaw19_ExprKinds.hole t356 t357 t377 t378 t379 t380 = true := by
      by_cases hh : antipodelaw19_ExprKinds.hole t356 t357 t377 t378 t379 t380 = true
      ·exact hh
      ·rw [if_neg hh] at H
       exact absurd H (by simp)
     rw [if_pos hh] at H
     obtain rfl := Option.some.inj H
     clear H
     unfold antipodelaw19_ExprKinds.hole at hh
     by_cases q0 : t357 = 0
     ·rw [if_pos q0] at hh
      have f0 : (t357 == 0) = true := beq_iff_eq.mpr q0
      have f1 : (t357 != 0) = false := bne_eq_false_iff_eq.mpr q0
      clear q0
      by_cases q1 : t380 = 0
      ·have g0 : (t380 == 0) = true := beq_iff_eq.mpr q1
       by_cases q2 : t377 = t356
       ·have e0 : (t377 == t356) = true := beq_iff_eq.mpr q2
        clear q1 q2 hh
        go_wp2
        go_ret
        exact ⟨rfl, HB_.out⟩
       ·have e0 : (t377 == t356) = false := beq_eq_false_iff_ne.mpr q2
        have q3 : t377 = 0 := by
         simp only [Bool.and_eq_true, Bool.or_eq_true, decide_eq_true_eq] at hh
         rcases hh with ⟨_, h | h⟩ | ⟨⟨⟨h, _⟩, _⟩, _⟩
         ·exact absurd h q2
         ·exact h
         ·exact h
        have e1 : (t377 == 0) = true := beq_iff_eq.mpr q3
        clear q1 q2 q3 hh
        go_wp2
        go_ret
        exact ⟨rfl, HB_.out⟩
      ·have g0 : (t380 == 0) = false := beq_eq_false_iff_ne.mpr q1
       simp only [q1, decide_false, Bool.false_and, Bool.false_or, Bool.and_eq_true, Bool.or_eq_true, decide_eq_true_eq] at hh
       obtain ⟨⟨⟨q2, q3⟩, q4⟩, q5⟩ := hh
       have e0 : (t377 == 0) = true := beq_iff_eq.mpr q2
       have e1 : (t378 == 0) = true := beq_iff_eq.mpr q3
       have e2 : (t379.toList == []) = true := by simpa using q4
       clear q1 q2 q3
       by_cases q6 : t380 = 9
       ·have g1 : (t380 == 9) = true := beq_iff_eq.mpr q6
        clear q5 q6
        go_wp2
        go_ret
        exact ⟨rfl, HB_.out⟩
       ·have g1 : (t380 == 9) = false := beq_eq_false_iff_ne.mpr q6
        by_cases q7 : t380 = 5
        ·have g2 : (t380 == 5) = true := beq_iff_eq.mpr q7
         clear q5 q6 q7
         go_wp2
         go_ret
         exact ⟨rfl, HB_.out⟩
        ·have g2 : (t380 == 5) = false := beq_eq_false_iff_ne.mpr q7
         have g3 : (t380 == 17) = true := beq_iff_eq.mpr (by omega)
         clear q5 q6 q7
         go_wp2
         go_ret
         exact ⟨rfl, HB_.out⟩
     ·rw [if_neg q0] at hh
      have f0 : (t357 == 0) = false := beq_eq_false_iff_ne.mpr q0
      have f1 : (t357 != 0) = true := bne_iff_ne.mpr q0
      simp only [Bool.and_eq_true, decide_eq_true_eq] at hh
      obtain ⟨⟨⟨⟨p1, p2⟩, q2⟩, q3⟩, q4⟩ := hh
      have g0 : (t380 == t357) = true := beq_iff_eq.mpr p1
      have g1 : (t356 == 0) = true := beq_iff_eq.mpr p2
      have e0 : (t377 == 0) = true := beq_iff_eq.mpr q2
      have e1 : (t378 == 0) = true := beq_iff_eq.mpr q3
      have e2 : (t379.toList == []) = true := by simpa using q4
      clear q0 p1 p2 q2 q3
      go_wp2
      go_ret
      exact ⟨rfl, HB_.out⟩
 ·replace c4 := Bool.eq_false_iff.mpr c4
  subst c4
  have H1 : (none) = some r := by rw [if_neg (show ¬ (false = true) by decide)] at H; exact H
  clear H
  have H := H1
  clear H1
  exact absurd H (by simp)

end Go.Proofs.Ytpmecpmankpcbaa.PK
