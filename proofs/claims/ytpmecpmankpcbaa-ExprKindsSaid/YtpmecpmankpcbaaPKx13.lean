/- Go functions of the program as plain functions, and that each call comes to them. Written by a program of this session (hprint.py) on the kit's print. No conditions. -/
import Derived.Test.YtpmecpmankpcbaaPKx0
import Derived.Test.YtpmecpmankpcbaaPKx10
import Derived.Test.YtpmecpmankpcbaaPKx12
import Derived.Test.YtpmecpmankpcbaaSq
namespace Go.Proofs.Ytpmecpmankpcbaa.PK
open Go.RowKit Go.Proofs.YtpmecpmankpcbaaW.PrintWords Go.Proofs.YtpmecpmankpcbaaW.PrintLast Go.Proofs.YtpmecpmankpcbaaW.PrintMore Go.Proofs.Ytpmecpmankpcbaa.Sq
set_option linter.unusedVariables false
set_option linter.unusedSimpArgs false

/-! ### expr_does: function 38 -/
mutual
def expr_does.l0 : Nat → ByteArray → List (S23) → List (S23) → Int → Int → Option (Int × Int × ByteArray × Int)
 | 0, _, _, _, _, _ => none
 | k + 1, x0, x1, x32, x33, x34 => if x34 < x33 then (if 0 ≤ x34 then (if x34 < (x32.length : Int) then ((expr_null.f ((rd_T23 x32 x34).f0) ((rd_T23 x32 x34).f1) ((rd_T23 x32 x34).f2)).bind fun t183 => (if t183 = true then (some (0, 0, (⟨#[]⟩ : ByteArray), 0)) else (expr_does.l0 k x0 x1 x32 x33 (wrap64 (x34 + 1))))) else (none)) else (none)) else (if x0.toList = ([78, 79, 84] : List UInt8) then (if 0 < (x1.length : Int) then ((expr_True.f ((rd_T23 x1 0).f0) ((rd_T23 x1 0).f1) ((rd_T23 x1 0).f2)).bind fun t185 => ((expr_truth.f (!t185)).bind fun bt186 => (some (bt186.1, bt186.2.1, bt186.2.2, 0)))) else (none)) else (if x0.toList = ([78, 69, 71] : List UInt8) then (if 0 < (x1.length : Int) then ((expr_minus.f 0 ((rd_T23 x1 0).f1)).bind fun bt190 => ((expr_number.f bt190.1 bt190.2).bind fun bt192 => (some (bt192.1, bt192.2.1, bt192.2.2.1, bt192.2.2.2)))) else (none)) else (if x0.toList = ([61] : List UInt8) then (expr_does.j1 k x0 x1 (x0.toList == ([61] : List UInt8))) else (if x0.toList = ([60, 62] : List UInt8) then (expr_does.j1 k x0 x1 (x0.toList == ([60, 62] : List UInt8))) else (if x0.toList = ([60] : List UInt8) then (expr_does.j1 k x0 x1 (x0.toList == ([60] : List UInt8))) else (if x0.toList = ([60, 61] : List UInt8) then (expr_does.j1 k x0 x1 (x0.toList == ([60, 61] : List UInt8))) else (if x0.toList = ([62] : List UInt8) then (expr_does.j1 k x0 x1 (x0.toList == ([62] : List UInt8))) else (expr_does.j1 k x0 x1 (x0.toList == ([62, 61] : List UInt8))))))))))
def expr_does.j1 : Nat → ByteArray → List (S23) → Bool → Option (Int × Int × ByteArray × Int)
 | 0, _, _, _ => none
 | k + 1, x0, x1, x63 => if x63 = true then (if 0 < (x1.length : Int) then (if 1 < (x1.length : Int) then ((value_Compare.f k ((rd_T23 x1 0).f0) ((rd_T23 x1 0).f1) ((rd_T23 x1 0).f2) ((rd_T23 x1 1).f0) ((rd_T23 x1 1).f1) ((rd_T23 x1 1).f2)).bind fun t198 => ((expr_holds.f x0 t198).bind fun t199 => ((expr_truth.f t199).bind fun bt200 => (some (bt200.1, bt200.2.1, bt200.2.2, 0))))) else (none)) else (none)) else (if 0 < (x1.length : Int) then (if 1 < (x1.length : Int) then ((expr_reckon.f x0 ((rd_T23 x1 0).f1) ((rd_T23 x1 1).f1)).bind fun bt205 => ((expr_number.f bt205.1 bt205.2).bind fun bt207 => (some (bt207.1, bt207.2.1, bt207.2.2.1, bt207.2.2.2)))) else (none)) else (none))
end
def expr_does.f (k : Nat) (a0 : ByteArray) (l1 : List (S23)) : Option (Int × Int × ByteArray × Int) := if a0.toList = ([73, 83, 78, 85, 76, 76] : List UInt8) then (if 0 < (l1.length : Int) then ((expr_null.f ((rd_T23 l1 0).f0) ((rd_T23 l1 0).f1) ((rd_T23 l1 0).f2)).bind fun t166 => ((expr_truth.f t166).bind fun bt167 => (some (bt167.1, bt167.2.1, bt167.2.2, 0)))) else (none)) else (if a0.toList = ([78, 79, 84, 78, 85, 76, 76] : List UInt8) then (if 0 < (l1.length : Int) then ((expr_null.f ((rd_T23 l1 0).f0) ((rd_T23 l1 0).f1) ((rd_T23 l1 0).f2)).bind fun t171 => ((expr_truth.f (!t171)).bind fun bt172 => (some (bt172.1, bt172.2.1, bt172.2.2, 0)))) else (none)) else (if a0.toList = ([65, 78, 68] : List UInt8) then ((expr_both.f k l1 0).bind fun bt175 => (some (bt175.1, bt175.2.1, bt175.2.2, 0))) else (if a0.toList = ([79, 82] : List UInt8) then ((expr_both.f k l1 1).bind fun bt178 => (some (bt178.1, bt178.2.1, bt178.2.2, 0))) else (expr_does.l0 k a0 l1 l1 (l1.length : Int) 0))))
theorem expr_does.mono_l : ∀ k, (∀ y0 y1 y2 y3 y4, LeO (expr_does.l0 k y0 y1 y2 y3 y4) (expr_does.l0 (k + 1) y0 y1 y2 y3 y4)) ∧ (∀ y0 y1 y2, LeO (expr_does.j1 k y0 y1 y2) (expr_does.j1 (k + 1) y0 y1 y2))
 | 0 => ⟨fun _ _ _ _ _ r h => by simp [expr_does.l0] at h, fun _ _ _ r h => by simp [expr_does.j1] at h⟩
 | k + 1 => by
  obtain ⟨ih0, ih1⟩ := expr_does.mono_l k
  refine ⟨?_, ?_⟩
  ·intro y0 y1 y2 y3 y4
   unfold expr_does.l0
   repeat' first
   | (with_reducible exact ih0 _ _ _ _ _)
   | (with_reducible exact ih1 _ _ _)
   | (with_reducible exact expr_both.mono _ _ _)
   | (with_reducible exact value_Compare.mono _ _ _ _ _ _ _)
   | (with_reducible exact LeO.refl _)
   | (with_reducible exact LeO.none _)
   | (with_reducible refine LeO.ite ?_ ?_)
   | (with_reducible refine LeO.bind ?_ (fun _ => ?_))
   | exact ih0 _ _ _ _ _
   | exact ih1 _ _ _
   | exact expr_both.mono _ _ _
   | exact value_Compare.mono _ _ _ _ _ _ _
   | exact LeO.none _
   | refine LeO.ite ?_ ?_
   | refine LeO.bind ?_ (fun _ => ?_)
  ·intro y0 y1 y2
   unfold expr_does.j1
   repeat' first
   | (with_reducible exact ih0 _ _ _ _ _)
   | (with_reducible exact ih1 _ _ _)
   | (with_reducible exact expr_both.mono _ _ _)
   | (with_reducible exact value_Compare.mono _ _ _ _ _ _ _)
   | (with_reducible exact LeO.refl _)
   | (with_reducible exact LeO.none _)
   | (with_reducible refine LeO.ite ?_ ?_)
   | (with_reducible refine LeO.bind ?_ (fun _ => ?_))
   | exact ih0 _ _ _ _ _
   | exact ih1 _ _ _
   | exact expr_both.mono _ _ _
   | exact value_Compare.mono _ _ _ _ _ _ _
   | exact LeO.none _
   | refine LeO.ite ?_ ?_
   | refine LeO.bind ?_ (fun _ => ?_)
theorem expr_does.mono : ∀ a0 a1 k, LeO (expr_does.f k a0 a1) (expr_does.f (k + 1) a0 a1) := by
 intro a0 a1 k
 obtain ⟨ih0, ih1⟩ := expr_does.mono_l k
 unfold expr_does.f
 repeat' first
   | (with_reducible exact ih0 _ _ _ _ _)
   | (with_reducible exact ih1 _ _ _)
   | (with_reducible exact expr_both.mono _ _ _)
   | (with_reducible exact value_Compare.mono _ _ _ _ _ _ _)
   | (with_reducible exact LeO.refl _)
   | (with_reducible exact LeO.none _)
   | (with_reducible refine LeO.ite ?_ ?_)
   | (with_reducible refine LeO.bind ?_ (fun _ => ?_))
   | exact ih0 _ _ _ _ _
   | exact ih1 _ _ _
   | exact expr_both.mono _ _ _
   | exact value_Compare.mono _ _ _ _ _ _ _
   | exact LeO.none _
   | refine LeO.ite ?_ ?_
   | refine LeO.bind ?_ (fun _ => ?_)
def expr_does.T27 : Bool × List (List Nat × List Nat) := (true, [([], []), ([], []), ([1], [1]), ([2], [2]), ([], []), ([4], [4]), ([5], [5]), ([3, 6], [3, 6]), ([0, 7, 7], [0, 7]), ([8, 8], [8]), ([9, 9, 0, 1, 2, 3, 4, 5, 6, 7, 8, 9], [9]), ([10, 0, 1, 2, 3, 4, 5, 6, 7, 8, 9, 10], [])])
def expr_does.B27 : List Nat := [0, 0, 2, 6, 0, 16, 48, 126, 255, 511, 1023, 2047]
theorem expr_does.tab27 : rtab .any (opsOf Try.f38 27) = expr_does.T27 := by kernel_rfl
theorem expr_does.bits27 : waitsOk expr_does.T27.2 expr_does.B27 = true := by kernel_rfl
def expr_does.T28 : Bool × List (List Nat × List Nat) := (true, [([], []), ([], []), ([1], [1]), ([2], [2]), ([3], [3]), ([], []), ([5], [5]), ([6], [6]), ([7], [7]), ([0, 4, 8], [0, 4, 8]), ([9], [9]), ([9], [9]), ([10, 11, 9], [10, 11]), ([12], [12]), ([12], [12]), ([13, 12, 0, 1, 2, 3, 4, 5, 6, 7, 8, 9, 10, 11, 12, 13, 14], [13]), ([14, 15, 0, 1, 2, 3, 4, 5, 6, 7, 8, 9, 10, 11, 12, 13, 14, 15], [14])])
def expr_does.B28 : List Nat := [0, 0, 2, 6, 14, 0, 32, 96, 224, 511, 1023, 1023, 4095, 8191, 8191, 32767, 65535]
theorem expr_does.tab28 : rtab .any (opsOf Try.f38 28) = expr_does.T28 := by kernel_rfl
theorem expr_does.bits28 : waitsOk expr_does.T28.2 expr_does.B28 = true := by kernel_rfl
set_option maxHeartbeats 8000000 in
set_option maxRecDepth 100000 in
theorem expr_does.calls (k : Nat) (a0 : ByteArray) (A1 : Option Addr) (c1 : Nat) (l1 : List (S23)) (r1 : Int) (r2 : Int) (r3 : ByteArray) (r4 : Int) (w : World) (hr1 : Kd.C k23 w A1 l1.length l1) (hc1 : l1.length ≤ c1) (h : expr_does.f k a0 l1 = some (r1, r2, r3, r4)) :
  Calls Try.prog 38 #[.string a0, .slice A1 l1.length c1] w fun e w' => e = .returned (.tuple #[.agg #[.int .i64 r1, .int .i64 r2, .string r3], .int .i64 r4]) ∧ Below w.heap.size w w' := by
 have hu23 := Try.underlying23
 have HR1 := aM hr1
 have HC1 := aM hc1
 clear hr1 hc1
 have HB := aM (Below.refl w.heap.size w)
 have H : (if a0.toList = ([73, 83, 78, 85, 76, 76] : List UInt8) then (if 0 < (l1.length : Int) then ((expr_null.f ((rd_T23 l1 0).f0) ((rd_T23 l1 0).f1) ((rd_T23 l1 0).f2)).bind fun t166 => ((expr_truth.f t166).bind fun bt167 => (some (bt167.1, bt167.2.1, bt167.2.2, 0)))) else (none)) else (if a0.toList = ([78, 79, 84, 78, 85, 76, 76] : List UInt8) then (if 0 < (l1.length : Int) then ((expr_null.f ((rd_T23 l1 0).f0) ((rd_T23 l1 0).f1) ((rd_T23 l1 0).f2)).bind fun t171 => ((expr_truth.f (!t171)).bind fun bt172 => (some (bt172.1, bt172.2.1, bt172.2.2, 0)))) else (none)) else (if a0.toList = ([65, 78, 68] : List UInt8) then ((expr_both.f k l1 0).bind fun bt175 => (some (bt175.1, bt175.2.1, bt175.2.2, 0))) else (if a0.toList = ([79, 82] : List UInt8) then ((expr_both.f k l1 1).bind fun bt178 => (some (bt178.1, bt178.2.1, bt178.2.2, 0))) else (expr_does.l0 k a0 l1 l1 (l1.length : Int) 0))))) = some (r1, r2, r3, r4) := h
 clear h
 by_cases c3 : a0.toList = ([73, 83, 78, 85, 76, 76] : List UInt8)
 ·rw [if_pos c3] at H
  have c3b0 : (a0.toList == ([73, 83, 78, 85, 76, 76] : List UInt8)) = true := beq_iff_eq.mpr c3
  have c3b1 : (a0.toList != ([73, 83, 78, 85, 76, 76] : List UInt8)) = false := bne_eq_false_iff_eq.mpr c3
  clear c3
  by_cases c4 : 0 < (l1.length : Int)
  ·rw [if_pos c4] at H
   have c4b0 : decide (0 < (l1.length : Int)) = true := decide_eq_true c4
   have c4b1 : decide (0 < l1.length) = true := decide_eq_true (by omega)
   clear c4
   replace H := Option.bind_eq_some_iff.mp H
   obtain ⟨t166, A50, H⟩ := H
   replace H : ((expr_truth.f t166).bind fun bt167 => (some (bt167.1, bt167.2.1, bt167.2.2, 0))) = some (r1, r2, r3, r4) := H
   have A5 := aM A50
   clear A50
   replace H := Option.bind_eq_some_iff.mp H
   obtain ⟨⟨t167, t168, t169⟩, A60, H⟩ := H
   replace H : (some (t167, t168, t169, 0)) = some (r1, r2, r3, r4) := H
   have A6 := aM A60
   clear A60
   simp only [Option.some.injEq, Prod.mk.injEq] at H
   obtain ⟨rfl, rfl, rfl, rfl⟩ := H
   go_enter Try.func38, Try.ntmps38
   go_wp2_with (first | ((with_reducible refine gate_dst (N := 4) rfl ?_); refine bE (N := 4) (cs := #[.int .i64 0, .int .i64 0, .string (⟨#[]⟩ : ByteArray)]) (t := 23) ?_; intro gb164 hg w7 hbox hb; have n0_ := aM (below_step (lO HB) hb); have n1_ := aM (hbox); have n2_ := aM (gO hg (lO HB)); have n3_ := aM (gO hg (lO HB)); clear HB; have HB := n0_; have BK164 := n1_; have GW164 := n2_; have GE164 := n3_; clear n0_ n1_ n2_ n3_; clear hb hbox hg; have p165 : 0 ≤ (0 : Int) := (by omega); have q165 : 0 < (l1.length : Int) := of_decide_eq_true (by first | (with_reducible assumption) | assumption); obtain ⟨ad165, e165, hx165_0, hx165_1, hx165_2⟩ := at_T23 HR1.out 0 p165 q165; cases e165; have qi165 : (0 < l1.length) = True := eq_true (by omega); (try rw [show ((0 : Int)).toNat = 0 from rfl] at hx165_0); (try rw [show 0 * 3 = 0 from rfl] at hx165_0); (try rw [Addr.add_zero'] at hx165_0); (try rw [show ((0 : Int)).toNat = 0 from rfl] at hx165_1); (try rw [show 0 * 3 = 0 from rfl] at hx165_1); (try rw [Addr.add_zero'] at hx165_1); (try rw [show ((0 : Int)).toNat = 0 from rfl] at hx165_2); (try rw [show 0 * 3 = 0 from rfl] at hx165_2); (try rw [Addr.add_zero'] at hx165_2); replace hx165_0 := (HB.out.cell (World.block_lt_of_cell? w _ hx165_0)).trans hx165_0; replace hx165_1 := (HB.out.cell (World.block_lt_of_cell? w _ hx165_1)).trans hx165_1; replace hx165_2 := (HB.out.cell (World.block_lt_of_cell? w _ hx165_2)).trans hx165_2; replace p165 := eq_true p165; replace q165 := eq_true q165) | ((with_reducible refine gate_callee (f := 51) rfl ?_); refine gL (some 14) rfl rfl Try.func51 (by kernel_rfl) rfl #[.agg #[.int .i64 ((rd_T23 l1 0).f0), .int .i64 ((rd_T23 l1 0).f1), .string ((rd_T23 l1 0).f2)]] rfl ?_; (with_reducible refine (expr_null.calls ((rd_T23 l1 0).f0) ((rd_T23 l1 0).f1) ((rd_T23 l1 0).f2) t166 _ A5.out).mono ?_); rintro e w8 ⟨rfl, hb⟩; refine ⟨_, rfl, ?_⟩; have n0_ := aM (blk_below (bO BK164) hb); have n1_ := aM (below_step (lO HB) hb); clear BK164; clear HB; have BK164 := n0_; have HB := n1_; clear n0_ n1_; (try clear hb); (try clear hb2); (try clear hk); (try clear hi)) | ((with_reducible refine gate_callee (f := 32) rfl ?_); refine gL (some 15) rfl rfl Try.func32 (by kernel_rfl) rfl #[.bool t166] rfl ?_; (with_reducible refine (expr_truth.calls t166 t167 t168 t169 _ A6.out).mono ?_); rintro e w9 ⟨rfl, hb⟩; refine ⟨_, rfl, ?_⟩; have n0_ := aM (blk_below (bO BK164) hb); have n1_ := aM (below_step (lO HB) hb); clear BK164; clear HB; have BK164 := n0_; have HB := n1_; clear n0_ n1_; (try clear hb); (try clear hb2); (try clear hk); (try clear hi); have C10_0 := c3_0 BK164; have C10_1 := c3_1 BK164; have C10_2 := c3_2 BK164; have F10_0 := fz BK164 0; have F10_1 := fz BK164 1; have F10_2 := fz BK164 2))
   refine bodyPost_ret (results_ct rfl _ _ gb164 23 #[.int .i64 t167, .int .i64 t168, .string t169] (0, 0) _ rfl (by (with_reducible repeat (first | refine blk_drewN ?_ _ | refine blk_drew ?_ | refine blk_alloc ?_ _)); refine blk_put (cs := #[.int .i64 t167, .int .i64 t168, .string (⟨#[]⟩ : ByteArray)]) ?_ 2 _ rfl; (with_reducible repeat (first | refine blk_drewN ?_ _ | refine blk_drew ?_ | refine blk_alloc ?_ _)); refine blk_put (cs := #[.int .i64 t167, .int .i64 0, .string (⟨#[]⟩ : ByteArray)]) ?_ 1 _ rfl; (with_reducible repeat (first | refine blk_drewN ?_ _ | refine blk_drew ?_ | refine blk_alloc ?_ _)); refine blk_put (cs := #[.int .i64 0, .int .i64 0, .string (⟨#[]⟩ : ByteArray)]) ?_ 0 _ rfl; (with_reducible repeat (first | refine blk_drewN ?_ _ | refine blk_drew ?_ | refine blk_alloc ?_ _)); exact BK164.out) Try.underlying23 rfl (by kernel_rfl)) rfl ?_
   exact ⟨by first | rfl | (simp [errW_none, errW_some] <;> rfl) | (simp [*, errW_none, errW_some] <;> rfl), (lO HB)⟩
  ·rw [if_neg c4] at H
   exact absurd H (by simp)
 ·rw [if_neg c3] at H
  have c3b0 : (a0.toList == ([73, 83, 78, 85, 76, 76] : List UInt8)) = false := beq_eq_false_iff_ne.mpr c3
  have c3b1 : (a0.toList != ([73, 83, 78, 85, 76, 76] : List UInt8)) = true := bne_iff_ne.mpr c3
  by_cases c11 : a0.toList = ([78, 79, 84, 78, 85, 76, 76] : List UInt8)
  ·rw [if_pos c11] at H
   have c11b0 : (a0.toList == ([78, 79, 84, 78, 85, 76, 76] : List UInt8)) = true := beq_iff_eq.mpr c11
   have c11b1 : (a0.toList != ([78, 79, 84, 78, 85, 76, 76] : List UInt8)) = false := bne_eq_false_iff_eq.mpr c11
   clear c11
   by_cases c12 : 0 < (l1.length : Int)
   ·rw [if_pos c12] at H
    have c12b0 : decide (0 < (l1.length : Int)) = true := decide_eq_true c12
    have c12b1 : decide (0 < l1.length) = true := decide_eq_true (by omega)
    clear c12
    replace H := Option.bind_eq_some_iff.mp H
    obtain ⟨t171, A130, H⟩ := H
    replace H : ((expr_truth.f (!t171)).bind fun bt172 => (some (bt172.1, bt172.2.1, bt172.2.2, 0))) = some (r1, r2, r3, r4) := H
    have A13 := aM A130
    clear A130
    replace H := Option.bind_eq_some_iff.mp H
    obtain ⟨⟨t172, t173, t174⟩, A140, H⟩ := H
    replace H : (some (t172, t173, t174, 0)) = some (r1, r2, r3, r4) := H
    have A14 := aM A140
    clear A140
    simp only [Option.some.injEq, Prod.mk.injEq] at H
    obtain ⟨rfl, rfl, rfl, rfl⟩ := H
    go_enter Try.func38, Try.ntmps38
    go_wp2_with (first | ((with_reducible refine gate_dst (N := 4) rfl ?_); refine bE (N := 4) (cs := #[.int .i64 0, .int .i64 0, .string (⟨#[]⟩ : ByteArray)]) (t := 23) ?_; intro gb164 hg w15 hbox hb; have n0_ := aM (below_step (lO HB) hb); have n1_ := aM (hbox); have n2_ := aM (gO hg (lO HB)); have n3_ := aM (gO hg (lO HB)); clear HB; have HB := n0_; have BK164 := n1_; have GW164 := n2_; have GE164 := n3_; clear n0_ n1_ n2_ n3_; clear hb hbox hg; have p170 : 0 ≤ (0 : Int) := (by omega); have q170 : 0 < (l1.length : Int) := of_decide_eq_true (by first | (with_reducible assumption) | assumption); obtain ⟨ad170, e170, hx170_0, hx170_1, hx170_2⟩ := at_T23 HR1.out 0 p170 q170; cases e170; have qi170 : (0 < l1.length) = True := eq_true (by omega); (try rw [show ((0 : Int)).toNat = 0 from rfl] at hx170_0); (try rw [show 0 * 3 = 0 from rfl] at hx170_0); (try rw [Addr.add_zero'] at hx170_0); (try rw [show ((0 : Int)).toNat = 0 from rfl] at hx170_1); (try rw [show 0 * 3 = 0 from rfl] at hx170_1); (try rw [Addr.add_zero'] at hx170_1); (try rw [show ((0 : Int)).toNat = 0 from rfl] at hx170_2); (try rw [show 0 * 3 = 0 from rfl] at hx170_2); (try rw [Addr.add_zero'] at hx170_2); replace hx170_0 := (HB.out.cell (World.block_lt_of_cell? w _ hx170_0)).trans hx170_0; replace hx170_1 := (HB.out.cell (World.block_lt_of_cell? w _ hx170_1)).trans hx170_1; replace hx170_2 := (HB.out.cell (World.block_lt_of_cell? w _ hx170_2)).trans hx170_2; replace p170 := eq_true p170; replace q170 := eq_true q170) | ((with_reducible refine gate_callee (f := 51) rfl ?_); refine gL (some 21) rfl rfl Try.func51 (by kernel_rfl) rfl #[.agg #[.int .i64 ((rd_T23 l1 0).f0), .int .i64 ((rd_T23 l1 0).f1), .string ((rd_T23 l1 0).f2)]] rfl ?_; (with_reducible refine (expr_null.calls ((rd_T23 l1 0).f0) ((rd_T23 l1 0).f1) ((rd_T23 l1 0).f2) t171 _ A13.out).mono ?_); rintro e w16 ⟨rfl, hb⟩; refine ⟨_, rfl, ?_⟩; have n0_ := aM (blk_below (bO BK164) hb); have n1_ := aM (below_step (lO HB) hb); clear BK164; clear HB; have BK164 := n0_; have HB := n1_; clear n0_ n1_; (try clear hb); (try clear hb2); (try clear hk); (try clear hi)) | ((with_reducible refine gate_callee (f := 32) rfl ?_); refine gL (some 23) rfl rfl Try.func32 (by kernel_rfl) rfl #[.bool (!t171)] rfl ?_; (with_reducible refine (expr_truth.calls (!t171) t172 t173 t174 _ A14.out).mono ?_); rintro e w17 ⟨rfl, hb⟩; refine ⟨_, rfl, ?_⟩; have n0_ := aM (blk_below (bO BK164) hb); have n1_ := aM (below_step (lO HB) hb); clear BK164; clear HB; have BK164 := n0_; have HB := n1_; clear n0_ n1_; (try clear hb); (try clear hb2); (try clear hk); (try clear hi); have C18_0 := c3_0 BK164; have C18_1 := c3_1 BK164; have C18_2 := c3_2 BK164; have F18_0 := fz BK164 0; have F18_1 := fz BK164 1; have F18_2 := fz BK164 2))
    refine bodyPost_ret (results_ct rfl _ _ gb164 23 #[.int .i64 t172, .int .i64 t173, .string t174] (0, 0) _ rfl (by (with_reducible repeat (first | refine blk_drewN ?_ _ | refine blk_drew ?_ | refine blk_alloc ?_ _)); refine blk_put (cs := #[.int .i64 t172, .int .i64 t173, .string (⟨#[]⟩ : ByteArray)]) ?_ 2 _ rfl; (with_reducible repeat (first | refine blk_drewN ?_ _ | refine blk_drew ?_ | refine blk_alloc ?_ _)); refine blk_put (cs := #[.int .i64 t172, .int .i64 0, .string (⟨#[]⟩ : ByteArray)]) ?_ 1 _ rfl; (with_reducible repeat (first | refine blk_drewN ?_ _ | refine blk_drew ?_ | refine blk_alloc ?_ _)); refine blk_put (cs := #[.int .i64 0, .int .i64 0, .string (⟨#[]⟩ : ByteArray)]) ?_ 0 _ rfl; (with_reducible repeat (first | refine blk_drewN ?_ _ | refine blk_drew ?_ | refine blk_alloc ?_ _)); exact BK164.out) Try.underlying23 rfl (by kernel_rfl)) rfl ?_
    exact ⟨by first | rfl | (simp [errW_none, errW_some] <;> rfl) | (simp [*, errW_none, errW_some] <;> rfl), (lO HB)⟩
   ·rw [if_neg c12] at H
    exact absurd H (by simp)
  ·rw [if_neg c11] at H
   have c11b0 : (a0.toList == ([78, 79, 84, 78, 85, 76, 76] : List UInt8)) = false := beq_eq_false_iff_ne.mpr c11
   have c11b1 : (a0.toList != ([78, 79, 84, 78, 85, 76, 76] : List UInt8)) = true := bne_iff_ne.mpr c11
   by_cases c19 : a0.toList = ([65, 78, 68] : List UInt8)
   ·rw [if_pos c19] at H
    have c19b0 : (a0.toList == ([65, 78, 68] : List UInt8)) = true := beq_iff_eq.mpr c19
    have c19b1 : (a0.toList != ([65, 78, 68] : List UInt8)) = false := bne_eq_false_iff_eq.mpr c19
    clear c19
    replace H := Option.bind_eq_some_iff.mp H
    obtain ⟨⟨t175, t176, t177⟩, A200, H⟩ := H
    replace H : (some (t175, t176, t177, 0)) = some (r1, r2, r3, r4) := H
    have A20 := aM A200
    clear A200
    simp only [Option.some.injEq, Prod.mk.injEq] at H
    obtain ⟨rfl, rfl, rfl, rfl⟩ := H
    go_enter Try.func38, Try.ntmps38
    go_wp2_with (first | ((with_reducible refine gate_dst (N := 4) rfl ?_); refine bE (N := 4) (cs := #[.int .i64 0, .int .i64 0, .string (⟨#[]⟩ : ByteArray)]) (t := 23) ?_; intro gb164 hg w21 hbox hb; have n0_ := aM (below_step (lO HB) hb); have n1_ := aM (hbox); have n2_ := aM (gO hg (lO HB)); have n3_ := aM (gO hg (lO HB)); clear HB; have HB := n0_; have BK164 := n1_; have GW164 := n2_; have GE164 := n3_; clear n0_ n1_ n2_ n3_; clear hb hbox hg) | ((with_reducible refine gate_callee (f := 52) rfl ?_); refine gL (some 27) rfl rfl Try.func52 (by kernel_rfl) rfl #[.slice A1 l1.length c1, .int .i64 0] rfl ?_; (with_reducible refine (expr_both.calls k _ _ l1 0 t175 t176 t177 _ ?side1 ?side2 A20.out).mono ?_); (case side1 => exact cO (Kd.C_below HR1.out HB.out)); (case side2 => exact HC1.out); rintro e w22 ⟨rfl, hb⟩; refine ⟨_, rfl, ?_⟩; have n0_ := aM (blk_below (bO BK164) hb); have n1_ := aM (below_step (lO HB) hb); clear BK164; clear HB; have BK164 := n0_; have HB := n1_; clear n0_ n1_; (try clear hb); (try clear hb2); (try clear hk); (try clear hi); have C23_0 := c3_0 BK164; have C23_1 := c3_1 BK164; have C23_2 := c3_2 BK164; have F23_0 := fz BK164 0; have F23_1 := fz BK164 1; have F23_2 := fz BK164 2))
    refine bodyPost_ret (results_ct rfl _ _ gb164 23 #[.int .i64 t175, .int .i64 t176, .string t177] (0, 0) _ rfl (by (with_reducible repeat (first | refine blk_drewN ?_ _ | refine blk_drew ?_ | refine blk_alloc ?_ _)); refine blk_put (cs := #[.int .i64 t175, .int .i64 t176, .string (⟨#[]⟩ : ByteArray)]) ?_ 2 _ rfl; (with_reducible repeat (first | refine blk_drewN ?_ _ | refine blk_drew ?_ | refine blk_alloc ?_ _)); refine blk_put (cs := #[.int .i64 t175, .int .i64 0, .string (⟨#[]⟩ : ByteArray)]) ?_ 1 _ rfl; (with_reducible repeat (first | refine blk_drewN ?_ _ | refine blk_drew ?_ | refine blk_alloc ?_ _)); refine blk_put (cs := #[.int .i64 0, .int .i64 0, .string (⟨#[]⟩ : ByteArray)]) ?_ 0 _ rfl; (with_reducible repeat (first | refine blk_drewN ?_ _ | refine blk_drew ?_ | refine blk_alloc ?_ _)); exact BK164.out) Try.underlying23 rfl (by kernel_rfl)) rfl ?_
    exact ⟨by first | rfl | (simp [errW_none, errW_some] <;> rfl) | (simp [*, errW_none, errW_some] <;> rfl), (lO HB)⟩
   ·rw [if_neg c19] at H
    have c19b0 : (a0.toList == ([65, 78, 68] : List UInt8)) = false := beq_eq_false_iff_ne.mpr c19
    have c19b1 : (a0.toList != ([65, 78, 68] : List UInt8)) = true := bne_iff_ne.mpr c19
    by_cases c24 : a0.toList = ([79, 82] : List UInt8)
    ·rw [if_pos c24] at H
     have c24b0 : (a0.toList == ([79, 82] : List UInt8)) = true := beq_iff_eq.mpr c24
     have c24b1 : (a0.toList != ([79, 82] : List UInt8)) = false := bne_eq_false_iff_eq.mpr c24
     clear c24
     replace H := Option.bind_eq_some_iff.mp H
     obtain ⟨⟨t178, t179, t180⟩, A250, H⟩ := H
     replace H : (some (t178, t179, t180, 0)) = some (r1, r2, r3, r4) := H
     have A25 := aM A250
     clear A250
     simp only [Option.some.injEq, Prod.mk.injEq] at H
     obtain ⟨rfl, rfl, rfl, rfl⟩ := H
     go_enter Try.func38, Try.ntmps38
     go_wp2_with (first | ((with_reducible refine gate_dst (N := 4) rfl ?_); refine bE (N := 4) (cs := #[.int .i64 0, .int .i64 0, .string (⟨#[]⟩ : ByteArray)]) (t := 23) ?_; intro gb164 hg w26 hbox hb; have n0_ := aM (below_step (lO HB) hb); have n1_ := aM (hbox); have n2_ := aM (gO hg (lO HB)); have n3_ := aM (gO hg (lO HB)); clear HB; have HB := n0_; have BK164 := n1_; have GW164 := n2_; have GE164 := n3_; clear n0_ n1_ n2_ n3_; clear hb hbox hg) | ((with_reducible refine gate_callee (f := 52) rfl ?_); refine gL (some 31) rfl rfl Try.func52 (by kernel_rfl) rfl #[.slice A1 l1.length c1, .int .i64 1] rfl ?_; (with_reducible refine (expr_both.calls k _ _ l1 1 t178 t179 t180 _ ?side1 ?side2 A25.out).mono ?_); (case side1 => exact cO (Kd.C_below HR1.out HB.out)); (case side2 => exact HC1.out); rintro e w27 ⟨rfl, hb⟩; refine ⟨_, rfl, ?_⟩; have n0_ := aM (blk_below (bO BK164) hb); have n1_ := aM (below_step (lO HB) hb); clear BK164; clear HB; have BK164 := n0_; have HB := n1_; clear n0_ n1_; (try clear hb); (try clear hb2); (try clear hk); (try clear hi); have C28_0 := c3_0 BK164; have C28_1 := c3_1 BK164; have C28_2 := c3_2 BK164; have F28_0 := fz BK164 0; have F28_1 := fz BK164 1; have F28_2 := fz BK164 2))
     refine bodyPost_ret (results_ct rfl _ _ gb164 23 #[.int .i64 t178, .int .i64 t179, .string t180] (0, 0) _ rfl (by (with_reducible repeat (first | refine blk_drewN ?_ _ | refine blk_drew ?_ | refine blk_alloc ?_ _)); refine blk_put (cs := #[.int .i64 t178, .int .i64 t179, .string (⟨#[]⟩ : ByteArray)]) ?_ 2 _ rfl; (with_reducible repeat (first | refine blk_drewN ?_ _ | refine blk_drew ?_ | refine blk_alloc ?_ _)); refine blk_put (cs := #[.int .i64 t178, .int .i64 0, .string (⟨#[]⟩ : ByteArray)]) ?_ 1 _ rfl; (with_reducible repeat (first | refine blk_drewN ?_ _ | refine blk_drew ?_ | refine blk_alloc ?_ _)); refine blk_put (cs := #[.int .i64 0, .int .i64 0, .string (⟨#[]⟩ : ByteArray)]) ?_ 0 _ rfl; (with_reducible repeat (first | refine blk_drewN ?_ _ | refine blk_drew ?_ | refine blk_alloc ?_ _)); exact BK164.out) Try.underlying23 rfl (by kernel_rfl)) rfl ?_
     exact ⟨by first | rfl | (simp [errW_none, errW_some] <;> rfl) | (simp [*, errW_none, errW_some] <;> rfl), (lO HB)⟩
    ·rw [if_neg c24] at H
     have c24b0 : (a0.toList == ([79, 82] : List UInt8)) = false := beq_eq_false_iff_ne.mpr c24
     have c24b1 : (a0.toList != ([79, 82] : List UInt8)) = true := bne_iff_ne.mpr c24
     have H' := aM H
     clear H
     go_enter Try.func38, Try.ntmps38
     go_wp2_with (first | ((with_reducible refine gate_dst (N := 4) rfl ?_); refine bE (N := 4) (cs := #[.int .i64 0, .int .i64 0, .string (⟨#[]⟩ : ByteArray)]) (t := 23) ?_; intro gb164 hg w29 hbox hb; have n0_ := aM (below_step (lO HB) hb); have n1_ := aM (hbox); have n2_ := aM (gO hg (lO HB)); have n3_ := aM (gO hg (lO HB)); clear HB; have HB := n0_; have BK164 := n1_; have GW164 := n2_; have GE164 := n3_; clear n0_ n1_ n2_ n3_; clear hb hbox hg))
     go_loopg [34] k (fun kq v34 w' => ∃ (x34_1 : Int) (x165000_1 : Int) (x165001_1 : Int) (x165002_1 : ByteArray), v34 = .int .i64 x34_1 ∧ Aside0 (expr_does.l0 kq a0 l1 l1 (l1.length : Int) x34_1 = some (r1, r2, r3, r4)) ∧ Aside0 (kq ≤ k) ∧ Aside0 (w'.heap[gb164]? = some (.cells #[.int .i64 x165000_1, .int .i64 x165001_1, .string x165002_1] 23 (0, 0))) ∧ Aside0 (Below w.heap.size w w'))
     case atStart => exact ⟨(0), (0), (0), ((⟨#[]⟩ : ByteArray)), (by first | rfl | (simp; done) | (simp [*]; done)), H', ⟨Nat.le_refl _⟩, ⟨bO BK164⟩, ⟨(lO HB)⟩⟩
     case round =>
      clear H'
      try clear c1
      try clear p1
      try clear q1
      try clear hx1
      try clear qi1
      try clear c2
      try clear p2
      try clear c3
      try clear c3b0
      try clear c3b1
      try clear c4
      try clear c4b0
      try clear c4b1
      try clear c5
      try clear c11
      try clear c11b0
      try clear c11b1
      try clear c12
      try clear c12b0
      try clear c12b1
      try clear p16
      try clear q16
      try clear hx16
      try clear qi16
      try clear p17
      try clear q17
      try clear hx17
      try clear qi17
      try clear c19
      try clear c19b0
      try clear c19b1
      try clear c24
      try clear c24b0
      try clear c24b1
      try clear C10_0
      try clear C10_1
      try clear C10_2
      try clear C18_0
      try clear C18_1
      try clear C18_2
      try clear C23_0
      try clear C23_1
      try clear C23_2
      try clear C28_0
      try clear C28_1
      try clear C28_2
      try clear F10_0
      try clear F10_1
      try clear F10_2
      try clear F18_0
      try clear F18_1
      try clear F18_2
      try clear F23_0
      try clear F23_1
      try clear F23_2
      try clear F28_0
      try clear F28_1
      try clear F28_2
      try clear hx165_0
      try clear hx165_1
      try clear hx165_2
      try clear hx170_0
      try clear hx170_1
      try clear hx170_2
      try clear p165
      try clear p170
      try clear q165
      try clear q170
      obtain ⟨x34_1, x165000_1, x165001_1, x165002_1, rfl, HA, HK1, BK164, HB⟩ := hrel
      cases gk with
      | zero => exact absurd HA.out (by simp [expr_does.l0])
      | succ k1 =>
       have H := HA.out
       clear HA
       simp only [expr_does.l0] at H
       by_cases c30 : x34_1 < (l1.length : Int)
       ·rw [if_pos c30] at H
        have c30b0 : decide (x34_1 < (l1.length : Int)) = true := decide_eq_true c30
        clear c30
        by_cases c31 : 0 ≤ x34_1
        ·rw [if_pos c31] at H
         have c31b0 : decide (0 ≤ x34_1) = true := decide_eq_true c31
         clear c31
         by_cases c32 : x34_1 < (l1.length : Int)
         ·rw [if_pos c32] at H
          have c32b0 : decide (x34_1 < (l1.length : Int)) = true := decide_eq_true c32
          clear c32
          replace H := Option.bind_eq_some_iff.mp H
          obtain ⟨t183, A330, H⟩ := H
          replace H : (if t183 = true then (some (0, 0, (⟨#[]⟩ : ByteArray), 0)) else (expr_does.l0 k1 a0 l1 l1 (l1.length : Int) (wrap64 (x34_1 + 1)))) = some (r1, r2, r3, r4) := H
          have A33 := aM A330
          clear A330
          by_cases c34 : t183 = true
          ·subst c34
           have H1 : (some (0, 0, (⟨#[]⟩ : ByteArray), 0)) = some (r1, r2, r3, r4) := by rw [if_pos rfl] at H; exact H
           clear H
           have H := H1
           clear H1
           simp only [Option.some.injEq, Prod.mk.injEq] at H
           obtain ⟨rfl, rfl, rfl, rfl⟩ := H
           have p181 : 0 ≤ (x34_1 : Int) := of_decide_eq_true (by first | (with_reducible assumption) | assumption)
           have q181 : x34_1 < (l1.length : Int) := of_decide_eq_true (by first | (with_reducible assumption) | assumption)
           obtain ⟨ad181, e181, hx181_0, hx181_1, hx181_2⟩ := at_T23 HR1.out x34_1 p181 q181
           cases e181
           replace hx181_0 := (HB.out.cell (World.block_lt_of_cell? w _ hx181_0)).trans hx181_0
           replace hx181_1 := (HB.out.cell (World.block_lt_of_cell? w _ hx181_1)).trans hx181_1
           replace hx181_2 := (HB.out.cell (World.block_lt_of_cell? w _ hx181_2)).trans hx181_2
           replace p181 := eq_true p181
           replace q181 := eq_true q181
           go_wp2_with (first | ((with_reducible refine gate_dst (N := 7) rfl ?_); refine bE (N := 7) (cs := #[.int .i64 0, .int .i64 0, .string (⟨#[]⟩ : ByteArray)]) (t := 23) ?_; intro gb182 hg w35 hbox hb; have n0_ := aM (blk_below (bO BK164) hb); have n1_ := aM (below_step (lO HB) hb); have n2_ := aM (hbox); have n3_ := aM (gO hg (lO HB)); have n4_ := aM (gO hg (lO HB)); have n5_ := aM (ne_lt hg (bO BK164)); have n6_ := aM (ne_gt hg (bO BK164)); clear BK164; clear HB; have BK164 := n0_; have HB := n1_; have BK182 := n2_; have GW182 := n3_; have GE182 := n4_; have NB164_182 := n5_; have NB182_164 := n6_; clear n0_ n1_ n2_ n3_ n4_ n5_ n6_; clear hb hbox hg; have hnb36 := NB182_164.out; have hnc36 := NB164_182.out; have C37_0 := c3_0 BK182; have C37_1 := c3_1 BK182; have C37_2 := c3_2 BK182; have F37_0 := fz BK182 0; have F37_1 := fz BK182 1; have F37_2 := fz BK182 2) | ((with_reducible refine gate_callee (f := 51) rfl ?_); refine gL (some 39) rfl rfl Try.func51 (by kernel_rfl) rfl #[.agg #[.int .i64 ((rd_T23 l1 x34_1).f0), .int .i64 ((rd_T23 l1 x34_1).f1), .string ((rd_T23 l1 x34_1).f2)]] rfl ?_; (with_reducible refine (expr_null.calls ((rd_T23 l1 x34_1).f0) ((rd_T23 l1 x34_1).f1) ((rd_T23 l1 x34_1).f2) true _ A33.out).mono ?_); rintro e w38 ⟨rfl, hb⟩; refine ⟨_, rfl, ?_⟩; have n0_ := aM (blk_below (g := gb164) (o := .cells #[.int .i64 x165000_1, .int .i64 x165001_1, .string x165002_1] 23 (0, 0)) (by (with_reducible repeat (first | refine blk_drewN ?_ _ | refine blk_drew ?_ | refine blk_alloc ?_ _)); refine blk_far ?_ NB164_182.out _; (with_reducible repeat (first | refine blk_drewN ?_ _ | refine blk_drew ?_ | refine blk_alloc ?_ _)); refine blk_far ?_ NB164_182.out _; (with_reducible repeat (first | refine blk_drewN ?_ _ | refine blk_drew ?_ | refine blk_alloc ?_ _)); refine blk_far ?_ NB164_182.out _; (with_reducible repeat (first | refine blk_drewN ?_ _ | refine blk_drew ?_ | refine blk_alloc ?_ _)); exact BK164.out) hb); have n1_ := aM (blk_below (g := gb182) (o := .cells #[.int .i64 ((rd_T23 l1 x34_1).f0), .int .i64 ((rd_T23 l1 x34_1).f1), .string ((rd_T23 l1 x34_1).f2)] 23 (0, 0)) (by (with_reducible repeat (first | refine blk_drewN ?_ _ | refine blk_drew ?_ | refine blk_alloc ?_ _)); refine blk_put (cs := #[.int .i64 ((rd_T23 l1 x34_1).f0), .int .i64 ((rd_T23 l1 x34_1).f1), .string (⟨#[]⟩ : ByteArray)]) ?_ 2 _ rfl; (with_reducible repeat (first | refine blk_drewN ?_ _ | refine blk_drew ?_ | refine blk_alloc ?_ _)); refine blk_put (cs := #[.int .i64 ((rd_T23 l1 x34_1).f0), .int .i64 0, .string (⟨#[]⟩ : ByteArray)]) ?_ 1 _ rfl; (with_reducible repeat (first | refine blk_drewN ?_ _ | refine blk_drew ?_ | refine blk_alloc ?_ _)); refine blk_put (cs := #[.int .i64 0, .int .i64 0, .string (⟨#[]⟩ : ByteArray)]) ?_ 0 _ rfl; (with_reducible repeat (first | refine blk_drewN ?_ _ | refine blk_drew ?_ | refine blk_alloc ?_ _)); exact BK182.out) hb); have n2_ := aM (below_step (lO HB) hb); clear BK164; clear BK182; clear HB; have BK164 := n0_; have BK182 := n1_; have HB := n2_; clear n0_ n1_ n2_; (try clear hb); (try clear hb2); (try clear hk); (try clear hi); have C39_0 := c3_0 BK164; have C39_1 := c3_1 BK164; have C39_2 := c3_2 BK164; have F39_0 := fz BK164 0; have F39_1 := fz BK164 1; have F39_2 := fz BK164 2))
           refine bodyPost_ret (results_ct rfl _ _ gb164 23 #[.int .i64 0, .int .i64 0, .string (⟨#[]⟩ : ByteArray)] (0, 0) _ rfl (by (with_reducible repeat (first | refine blk_drewN ?_ _ | refine blk_drew ?_ | refine blk_alloc ?_ _)); refine blk_put (cs := #[.int .i64 0, .int .i64 0, .string x165002_1]) ?_ 2 _ rfl; (with_reducible repeat (first | refine blk_drewN ?_ _ | refine blk_drew ?_ | refine blk_alloc ?_ _)); refine blk_put (cs := #[.int .i64 0, .int .i64 x165001_1, .string x165002_1]) ?_ 1 _ rfl; (with_reducible repeat (first | refine blk_drewN ?_ _ | refine blk_drew ?_ | refine blk_alloc ?_ _)); refine blk_put (cs := #[.int .i64 x165000_1, .int .i64 x165001_1, .string x165002_1]) ?_ 0 _ rfl; (with_reducible repeat (first | refine blk_drewN ?_ _ | refine blk_drew ?_ | refine blk_alloc ?_ _)); exact BK164.out) Try.underlying23 rfl (by kernel_rfl)) rfl ?_
           exact ⟨by first | rfl | (simp [errW_none, errW_some] <;> rfl) | (simp [*, errW_none, errW_some] <;> rfl), (lO HB)⟩
          ·replace c34 := Bool.eq_false_iff.mpr c34
           subst c34
           have H1 : (expr_does.l0 k1 a0 l1 l1 (l1.length : Int) (wrap64 (x34_1 + 1))) = some (r1, r2, r3, r4) := by rw [if_neg (show ¬ (false = true) by decide)] at H; exact H
           clear H
           have H := H1
           clear H1
           have H' := aM H
           clear H
           have p181 : 0 ≤ (x34_1 : Int) := of_decide_eq_true (by first | (with_reducible assumption) | assumption)
           have q181 : x34_1 < (l1.length : Int) := of_decide_eq_true (by first | (with_reducible assumption) | assumption)
           obtain ⟨ad181, e181, hx181_0, hx181_1, hx181_2⟩ := at_T23 HR1.out x34_1 p181 q181
           cases e181
           replace hx181_0 := (HB.out.cell (World.block_lt_of_cell? w _ hx181_0)).trans hx181_0
           replace hx181_1 := (HB.out.cell (World.block_lt_of_cell? w _ hx181_1)).trans hx181_1
           replace hx181_2 := (HB.out.cell (World.block_lt_of_cell? w _ hx181_2)).trans hx181_2
           replace p181 := eq_true p181
           replace q181 := eq_true q181
           go_wp2_with (first | ((with_reducible refine gate_dst (N := 7) rfl ?_); refine bE (N := 7) (cs := #[.int .i64 0, .int .i64 0, .string (⟨#[]⟩ : ByteArray)]) (t := 23) ?_; intro gb182 hg w40 hbox hb; have n0_ := aM (blk_below (bO BK164) hb); have n1_ := aM (below_step (lO HB) hb); have n2_ := aM (hbox); have n3_ := aM (gO hg (lO HB)); have n4_ := aM (gO hg (lO HB)); have n5_ := aM (ne_lt hg (bO BK164)); have n6_ := aM (ne_gt hg (bO BK164)); clear BK164; clear HB; have BK164 := n0_; have HB := n1_; have BK182 := n2_; have GW182 := n3_; have GE182 := n4_; have NB164_182 := n5_; have NB182_164 := n6_; clear n0_ n1_ n2_ n3_ n4_ n5_ n6_; clear hb hbox hg; have hnb41 := NB182_164.out; have hnc41 := NB164_182.out; have C42_0 := c3_0 BK182; have C42_1 := c3_1 BK182; have C42_2 := c3_2 BK182; have F42_0 := fz BK182 0; have F42_1 := fz BK182 1; have F42_2 := fz BK182 2) | ((with_reducible refine gate_callee (f := 51) rfl ?_); refine gL (some 39) rfl rfl Try.func51 (by kernel_rfl) rfl #[.agg #[.int .i64 ((rd_T23 l1 x34_1).f0), .int .i64 ((rd_T23 l1 x34_1).f1), .string ((rd_T23 l1 x34_1).f2)]] rfl ?_; (with_reducible refine (expr_null.calls ((rd_T23 l1 x34_1).f0) ((rd_T23 l1 x34_1).f1) ((rd_T23 l1 x34_1).f2) false _ A33.out).mono ?_); rintro e w43 ⟨rfl, hb⟩; refine ⟨_, rfl, ?_⟩; have n0_ := aM (blk_below (g := gb164) (o := .cells #[.int .i64 x165000_1, .int .i64 x165001_1, .string x165002_1] 23 (0, 0)) (by (with_reducible repeat (first | refine blk_drewN ?_ _ | refine blk_drew ?_ | refine blk_alloc ?_ _)); refine blk_far ?_ NB164_182.out _; (with_reducible repeat (first | refine blk_drewN ?_ _ | refine blk_drew ?_ | refine blk_alloc ?_ _)); refine blk_far ?_ NB164_182.out _; (with_reducible repeat (first | refine blk_drewN ?_ _ | refine blk_drew ?_ | refine blk_alloc ?_ _)); refine blk_far ?_ NB164_182.out _; (with_reducible repeat (first | refine blk_drewN ?_ _ | refine blk_drew ?_ | refine blk_alloc ?_ _)); exact BK164.out) hb); have n1_ := aM (blk_below (g := gb182) (o := .cells #[.int .i64 ((rd_T23 l1 x34_1).f0), .int .i64 ((rd_T23 l1 x34_1).f1), .string ((rd_T23 l1 x34_1).f2)] 23 (0, 0)) (by (with_reducible repeat (first | refine blk_drewN ?_ _ | refine blk_drew ?_ | refine blk_alloc ?_ _)); refine blk_put (cs := #[.int .i64 ((rd_T23 l1 x34_1).f0), .int .i64 ((rd_T23 l1 x34_1).f1), .string (⟨#[]⟩ : ByteArray)]) ?_ 2 _ rfl; (with_reducible repeat (first | refine blk_drewN ?_ _ | refine blk_drew ?_ | refine blk_alloc ?_ _)); refine blk_put (cs := #[.int .i64 ((rd_T23 l1 x34_1).f0), .int .i64 0, .string (⟨#[]⟩ : ByteArray)]) ?_ 1 _ rfl; (with_reducible repeat (first | refine blk_drewN ?_ _ | refine blk_drew ?_ | refine blk_alloc ?_ _)); refine blk_put (cs := #[.int .i64 0, .int .i64 0, .string (⟨#[]⟩ : ByteArray)]) ?_ 0 _ rfl; (with_reducible repeat (first | refine blk_drewN ?_ _ | refine blk_drew ?_ | refine blk_alloc ?_ _)); exact BK182.out) hb); have n2_ := aM (below_step (lO HB) hb); clear BK164; clear BK182; clear HB; have BK164 := n0_; have BK182 := n1_; have HB := n2_; clear n0_ n1_ n2_; (try clear hb); (try clear hb2); (try clear hk); (try clear hi)))
           go_roundg k1
           case measure => have := HK1.out; omega
           case rel => exact ⟨(wrap64 (x34_1 + 1)), (x165000_1), (x165001_1), (x165002_1), (by first | rfl | (simp; done) | (simp [*]; done)), H', ⟨by have := HK1.out; omega⟩, ⟨bO BK164⟩, ⟨(lO HB)⟩⟩
         ·rw [if_neg c32] at H
          exact absurd H (by simp)
        ·rw [if_neg c31] at H
         exact absurd H (by simp)
       ·rw [if_neg c30] at H
        have c30b0 : decide (x34_1 < (l1.length : Int)) = false := decide_eq_false c30
        clear c30
        by_cases c44 : a0.toList = ([78, 79, 84] : List UInt8)
        ·rw [if_pos c44] at H
         have c44b0 : (a0.toList == ([78, 79, 84] : List UInt8)) = true := beq_iff_eq.mpr c44
         have c44b1 : (a0.toList != ([78, 79, 84] : List UInt8)) = false := bne_eq_false_iff_eq.mpr c44
         clear c44
         by_cases c45 : 0 < (l1.length : Int)
         ·rw [if_pos c45] at H
          have c45b0 : decide (0 < (l1.length : Int)) = true := decide_eq_true c45
          have c45b1 : decide (0 < l1.length) = true := decide_eq_true (by omega)
          clear c45
          replace H := Option.bind_eq_some_iff.mp H
          obtain ⟨t185, A460, H⟩ := H
          replace H : ((expr_truth.f (!t185)).bind fun bt186 => (some (bt186.1, bt186.2.1, bt186.2.2, 0))) = some (r1, r2, r3, r4) := H
          have A46 := aM A460
          clear A460
          replace H := Option.bind_eq_some_iff.mp H
          obtain ⟨⟨t186, t187, t188⟩, A470, H⟩ := H
          replace H : (some (t186, t187, t188, 0)) = some (r1, r2, r3, r4) := H
          have A47 := aM A470
          clear A470
          simp only [Option.some.injEq, Prod.mk.injEq] at H
          obtain ⟨rfl, rfl, rfl, rfl⟩ := H
          have p184 : 0 ≤ (0 : Int) := (by omega)
          have q184 : 0 < (l1.length : Int) := of_decide_eq_true (by first | (with_reducible assumption) | assumption)
          obtain ⟨ad184, e184, hx184_0, hx184_1, hx184_2⟩ := at_T23 HR1.out 0 p184 q184
          cases e184
          have qi184 : (0 < l1.length) = True := eq_true (by omega)
          (try rw [show ((0 : Int)).toNat = 0 from rfl] at hx184_0)
          (try rw [show 0 * 3 = 0 from rfl] at hx184_0)
          (try rw [Addr.add_zero'] at hx184_0)
          (try rw [show ((0 : Int)).toNat = 0 from rfl] at hx184_1)
          (try rw [show 0 * 3 = 0 from rfl] at hx184_1)
          (try rw [Addr.add_zero'] at hx184_1)
          (try rw [show ((0 : Int)).toNat = 0 from rfl] at hx184_2)
          (try rw [show 0 * 3 = 0 from rfl] at hx184_2)
          (try rw [Addr.add_zero'] at hx184_2)
          replace hx184_0 := (HB.out.cell (World.block_lt_of_cell? w _ hx184_0)).trans hx184_0
          replace hx184_1 := (HB.out.cell (World.block_lt_of_cell? w _ hx184_1)).trans hx184_1
          replace hx184_2 := (HB.out.cell (World.block_lt_of_cell? w _ hx184_2)).trans hx184_2
          replace p184 := eq_true p184
          replace q184 := eq_true q184
          go_wp2_with (first | ((with_reducible refine gate_callee (f := 17) rfl ?_); refine gL (some 48) rfl rfl Try.func17 (by kernel_rfl) rfl #[.agg #[.int .i64 ((rd_T23 l1 0).f0), .int .i64 ((rd_T23 l1 0).f1), .string ((rd_T23 l1 0).f2)]] rfl ?_; (with_reducible refine (expr_True.calls ((rd_T23 l1 0).f0) ((rd_T23 l1 0).f1) ((rd_T23 l1 0).f2) t185 _ A46.out).mono ?_); rintro e w48 ⟨rfl, hb⟩; refine ⟨_, rfl, ?_⟩; have n0_ := aM (blk_below (bO BK164) hb); have n1_ := aM (below_step (lO HB) hb); clear BK164; clear HB; have BK164 := n0_; have HB := n1_; clear n0_ n1_; (try clear hb); (try clear hb2); (try clear hk); (try clear hi)) | ((with_reducible refine gate_callee (f := 32) rfl ?_); refine gL (some 50) rfl rfl Try.func32 (by kernel_rfl) rfl #[.bool (!t185)] rfl ?_; (with_reducible refine (expr_truth.calls (!t185) t186 t187 t188 _ A47.out).mono ?_); rintro e w49 ⟨rfl, hb⟩; refine ⟨_, rfl, ?_⟩; have n0_ := aM (blk_below (bO BK164) hb); have n1_ := aM (below_step (lO HB) hb); clear BK164; clear HB; have BK164 := n0_; have HB := n1_; clear n0_ n1_; (try clear hb); (try clear hb2); (try clear hk); (try clear hi); have C50_0 := c3_0 BK164; have C50_1 := c3_1 BK164; have C50_2 := c3_2 BK164; have F50_0 := fz BK164 0; have F50_1 := fz BK164 1; have F50_2 := fz BK164 2))
          refine bodyPost_ret (results_ct rfl _ _ gb164 23 #[.int .i64 t186, .int .i64 t187, .string t188] (0, 0) _ rfl (by (with_reducible repeat (first | refine blk_drewN ?_ _ | refine blk_drew ?_ | refine blk_alloc ?_ _)); refine blk_put (cs := #[.int .i64 t186, .int .i64 t187, .string x165002_1]) ?_ 2 _ rfl; (with_reducible repeat (first | refine blk_drewN ?_ _ | refine blk_drew ?_ | refine blk_alloc ?_ _)); refine blk_put (cs := #[.int .i64 t186, .int .i64 x165001_1, .string x165002_1]) ?_ 1 _ rfl; (with_reducible repeat (first | refine blk_drewN ?_ _ | refine blk_drew ?_ | refine blk_alloc ?_ _)); refine blk_put (cs := #[.int .i64 x165000_1, .int .i64 x165001_1, .string x165002_1]) ?_ 0 _ rfl; (with_reducible repeat (first | refine blk_drewN ?_ _ | refine blk_drew ?_ | refine blk_alloc ?_ _)); exact BK164.out) Try.underlying23 rfl (by kernel_rfl)) rfl ?_
          exact ⟨by first | rfl | (simp [errW_none, errW_some] <;> rfl) | (simp [*, errW_none, errW_some] <;> rfl), (lO HB)⟩
         ·rw [if_neg c45] at H
          exact absurd H (by simp)
        ·rw [if_neg c44] at H
         have c44b0 : (a0.toList == ([78, 79, 84] : List UInt8)) = false := beq_eq_false_iff_ne.mpr c44
         have c44b1 : (a0.toList != ([78, 79, 84] : List UInt8)) = true := bne_iff_ne.mpr c44
         by_cases c51 : a0.toList = ([78, 69, 71] : List UInt8)
         ·rw [if_pos c51] at H
          have c51b0 : (a0.toList == ([78, 69, 71] : List UInt8)) = true := beq_iff_eq.mpr c51
          have c51b1 : (a0.toList != ([78, 69, 71] : List UInt8)) = false := bne_eq_false_iff_eq.mpr c51
          clear c51
          by_cases c52 : 0 < (l1.length : Int)
          ·rw [if_pos c52] at H
           have c52b0 : decide (0 < (l1.length : Int)) = true := decide_eq_true c52
           have c52b1 : decide (0 < l1.length) = true := decide_eq_true (by omega)
           clear c52
           replace H := Option.bind_eq_some_iff.mp H
           obtain ⟨⟨t190, t191⟩, A530, H⟩ := H
           replace H : ((expr_number.f t190 t191).bind fun bt192 => (some (bt192.1, bt192.2.1, bt192.2.2.1, bt192.2.2.2))) = some (r1, r2, r3, r4) := H
           have A53 := aM A530
           clear A530
           replace H := Option.bind_eq_some_iff.mp H
           obtain ⟨⟨t192, t193, t194, t195⟩, A540, H⟩ := H
           replace H : (some (t192, t193, t194, t195)) = some (r1, r2, r3, r4) := H
           have A54 := aM A540
           clear A540
           simp only [Option.some.injEq, Prod.mk.injEq] at H
           obtain ⟨rfl, rfl, rfl, rfl⟩ := H
           have p189 : 0 ≤ (0 : Int) := (by omega)
           have q189 : 0 < (l1.length : Int) := of_decide_eq_true (by first | (with_reducible assumption) | assumption)
           obtain ⟨ad189, e189, hx189_0, hx189_1, hx189_2⟩ := at_T23 HR1.out 0 p189 q189
           cases e189
           have qi189 : (0 < l1.length) = True := eq_true (by omega)
           (try rw [show ((0 : Int)).toNat = 0 from rfl] at hx189_0)
           (try rw [show 0 * 3 = 0 from rfl] at hx189_0)
           (try rw [Addr.add_zero'] at hx189_0)
           (try rw [show ((0 : Int)).toNat = 0 from rfl] at hx189_1)
           (try rw [show 0 * 3 = 0 from rfl] at hx189_1)
           (try rw [Addr.add_zero'] at hx189_1)
           (try rw [show ((0 : Int)).toNat = 0 from rfl] at hx189_2)
           (try rw [show 0 * 3 = 0 from rfl] at hx189_2)
           (try rw [Addr.add_zero'] at hx189_2)
           replace hx189_0 := (HB.out.cell (World.block_lt_of_cell? w _ hx189_0)).trans hx189_0
           replace hx189_1 := (HB.out.cell (World.block_lt_of_cell? w _ hx189_1)).trans hx189_1
           replace hx189_2 := (HB.out.cell (World.block_lt_of_cell? w _ hx189_2)).trans hx189_2
           replace p189 := eq_true p189
           replace q189 := eq_true q189
           go_wp2_with (first | ((with_reducible refine gate_callee (f := 54) rfl ?_); refine gL (some 57) rfl rfl Try.func54 (by kernel_rfl) rfl #[.int .i64 0, .int .i64 ((rd_T23 l1 0).f1)] rfl ?_; (with_reducible refine (expr_minus.calls 0 ((rd_T23 l1 0).f1) t190 t191 _ A53.out).mono ?_); rintro e w' ⟨rfl, ⟨nd, rfl⟩⟩; refine ⟨_, rfl, ?_⟩; (try (rw [drewN_self wr]; generalize hq_ : World.drewN wr _ = wr; have n0_ : Aside0 (wr.heap[gb164]? = some (.cells #[.int .i64 x165000_1, .int .i64 x165001_1, .string x165002_1] 23 (0, 0))) := ⟨by rw [← hq_]; exact (bO BK164)⟩; have n1_ : Aside0 (Below w.heap.size w wr) := ⟨by rw [← hq_]; exact (lO HB)⟩; clear BK164 HB hq_; have BK164 := n0_; have HB := n1_; clear n0_ n1_))) | ((with_reducible refine gate_callee (f := 53) rfl ?_); refine gL (some 60) rfl rfl Try.func53 (by kernel_rfl) rfl #[.int .i64 t190, .int .i64 t191] rfl ?_; (with_reducible refine (expr_number.calls t190 t191 t192 t193 t194 t195 _ A54.out).mono ?_); rintro e w55 ⟨rfl, hb⟩; refine ⟨_, rfl, ?_⟩; have n0_ := aM (blk_below (bO BK164) hb); have n1_ := aM (below_step (lO HB) hb); clear BK164; clear HB; have BK164 := n0_; have HB := n1_; clear n0_ n1_; (try clear hb); (try clear hb2); (try clear hk); (try clear hi); have C56_0 := c3_0 BK164; have C56_1 := c3_1 BK164; have C56_2 := c3_2 BK164; have F56_0 := fz BK164 0; have F56_1 := fz BK164 1; have F56_2 := fz BK164 2))
           refine bodyPost_ret (results_ct rfl _ _ gb164 23 #[.int .i64 t192, .int .i64 t193, .string t194] (0, 0) _ rfl (by (with_reducible repeat (first | refine blk_drewN ?_ _ | refine blk_drew ?_ | refine blk_alloc ?_ _)); refine blk_put (cs := #[.int .i64 t192, .int .i64 t193, .string x165002_1]) ?_ 2 _ rfl; (with_reducible repeat (first | refine blk_drewN ?_ _ | refine blk_drew ?_ | refine blk_alloc ?_ _)); refine blk_put (cs := #[.int .i64 t192, .int .i64 x165001_1, .string x165002_1]) ?_ 1 _ rfl; (with_reducible repeat (first | refine blk_drewN ?_ _ | refine blk_drew ?_ | refine blk_alloc ?_ _)); refine blk_put (cs := #[.int .i64 x165000_1, .int .i64 x165001_1, .string x165002_1]) ?_ 0 _ rfl; (with_reducible repeat (first | refine blk_drewN ?_ _ | refine blk_drew ?_ | refine blk_alloc ?_ _)); exact BK164.out) Try.underlying23 rfl (by kernel_rfl)) rfl ?_
           exact ⟨by first | rfl | (simp [errW_none, errW_some] <;> rfl) | (simp [*, errW_none, errW_some] <;> rfl), (lO HB)⟩
          ·rw [if_neg c52] at H
           exact absurd H (by simp)
         ·rw [if_neg c51] at H
          have c51b0 : (a0.toList == ([78, 69, 71] : List UInt8)) = false := beq_eq_false_iff_ne.mpr c51
          have c51b1 : (a0.toList != ([78, 69, 71] : List UInt8)) = true := bne_iff_ne.mpr c51
          have HC57 := aM H
          clear H
          go_upto_if 63 with (fail)
          go_cut [63] (fun v63 wc => ∃ (kq : Nat) (x63_56 : Bool), v63 = .bool x63_56 ∧ Aside0 (expr_does.j1 kq a0 l1 x63_56 = some (r1, r2, r3, r4)) ∧ Aside0 (kq ≤ k1) ∧ Aside0 (wc.heap[gb164]? = some (.cells #[.int .i64 x165000_1, .int .i64 x165001_1, .string x165002_1] 23 (0, 0))) ∧ Aside0 (Below w.heap.size w wc))
          case first =>
           have H := HC57.out
           clear HC57
           by_cases c58 : a0.toList = ([61] : List UInt8)
           ·rw [if_pos c58] at H
            have c58b0 : (a0.toList == ([61] : List UInt8)) = true := beq_iff_eq.mpr c58
            have c58b1 : (a0.toList != ([61] : List UInt8)) = false := bne_eq_false_iff_eq.mpr c58
            clear c58
            (first | rw [c58b0] | (simp only [i64_w, i32_w]; rw [c58b0]) | skip)
            have H' := aM H
            clear H
            go_wp2
            go_meet
            case rel => exact ⟨_, ((a0.toList == ([61] : List UInt8))), (by first | rfl | (simp; done) | (simp [*]; done)), H', ⟨by have := HK1.out; first | omega | exact Nat.le_refl _⟩, ⟨bO BK164⟩, ⟨(lO HB)⟩⟩
           ·rw [if_neg c58] at H
            have c58b0 : (a0.toList == ([61] : List UInt8)) = false := beq_eq_false_iff_ne.mpr c58
            have c58b1 : (a0.toList != ([61] : List UInt8)) = true := bne_iff_ne.mpr c58
            (first | rw [c58b0] | (simp only [i64_w, i32_w]; rw [c58b0]) | skip)
            by_cases c59 : a0.toList = ([60, 62] : List UInt8)
            ·rw [if_pos c59] at H
             have c59b0 : (a0.toList == ([60, 62] : List UInt8)) = true := beq_iff_eq.mpr c59
             have c59b1 : (a0.toList != ([60, 62] : List UInt8)) = false := bne_eq_false_iff_eq.mpr c59
             clear c59
             have H' := aM H
             clear H
             go_wp2
             go_meet
             case rel => exact ⟨_, ((a0.toList == ([60, 62] : List UInt8))), (by first | rfl | (simp; done) | (simp [*]; done)), H', ⟨by have := HK1.out; first | omega | exact Nat.le_refl _⟩, ⟨bO BK164⟩, ⟨(lO HB)⟩⟩
            ·rw [if_neg c59] at H
             have c59b0 : (a0.toList == ([60, 62] : List UInt8)) = false := beq_eq_false_iff_ne.mpr c59
             have c59b1 : (a0.toList != ([60, 62] : List UInt8)) = true := bne_iff_ne.mpr c59
             by_cases c60 : a0.toList = ([60] : List UInt8)
             ·rw [if_pos c60] at H
              have c60b0 : (a0.toList == ([60] : List UInt8)) = true := beq_iff_eq.mpr c60
              have c60b1 : (a0.toList != ([60] : List UInt8)) = false := bne_eq_false_iff_eq.mpr c60
              clear c60
              have H' := aM H
              clear H
              go_wp2
              go_meet
              case rel => exact ⟨_, ((a0.toList == ([60] : List UInt8))), (by first | rfl | (simp; done) | (simp [*]; done)), H', ⟨by have := HK1.out; first | omega | exact Nat.le_refl _⟩, ⟨bO BK164⟩, ⟨(lO HB)⟩⟩
             ·rw [if_neg c60] at H
              have c60b0 : (a0.toList == ([60] : List UInt8)) = false := beq_eq_false_iff_ne.mpr c60
              have c60b1 : (a0.toList != ([60] : List UInt8)) = true := bne_iff_ne.mpr c60
              by_cases c61 : a0.toList = ([60, 61] : List UInt8)
              ·rw [if_pos c61] at H
               have c61b0 : (a0.toList == ([60, 61] : List UInt8)) = true := beq_iff_eq.mpr c61
               have c61b1 : (a0.toList != ([60, 61] : List UInt8)) = false := bne_eq_false_iff_eq.mpr c61
               clear c61
               have H' := aM H
               clear H
               go_wp2
               go_meet
               case rel => exact ⟨_, ((a0.toList == ([60, 61] : List UInt8))), (by first | rfl | (simp; done) | (simp [*]; done)), H', ⟨by have := HK1.out; first | omega | exact Nat.le_refl _⟩, ⟨bO BK164⟩, ⟨(lO HB)⟩⟩
              ·rw [if_neg c61] at H
               have c61b0 : (a0.toList == ([60, 61] : List UInt8)) = false := beq_eq_false_iff_ne.mpr c61
               have c61b1 : (a0.toList != ([60, 61] : List UInt8)) = true := bne_iff_ne.mpr c61
               by_cases c62 : a0.toList = ([62] : List UInt8)
               ·rw [if_pos c62] at H
                have c62b0 : (a0.toList == ([62] : List UInt8)) = true := beq_iff_eq.mpr c62
                have c62b1 : (a0.toList != ([62] : List UInt8)) = false := bne_eq_false_iff_eq.mpr c62
                clear c62
                have H' := aM H
                clear H
                go_wp2
                go_meet
                case rel => exact ⟨_, ((a0.toList == ([62] : List UInt8))), (by first | rfl | (simp; done) | (simp [*]; done)), H', ⟨by have := HK1.out; first | omega | exact Nat.le_refl _⟩, ⟨bO BK164⟩, ⟨(lO HB)⟩⟩
               ·rw [if_neg c62] at H
                have c62b0 : (a0.toList == ([62] : List UInt8)) = false := beq_eq_false_iff_ne.mpr c62
                have c62b1 : (a0.toList != ([62] : List UInt8)) = true := bne_iff_ne.mpr c62
                have H' := aM H
                clear H
                go_wp2
                go_meet
                case rel => exact ⟨_, ((a0.toList == ([62, 61] : List UInt8))), (by first | rfl | (simp; done) | (simp [*]; done)), H', ⟨by have := HK1.out; first | omega | exact Nat.le_refl _⟩, ⟨bO BK164⟩, ⟨(lO HB)⟩⟩
          case rest =>
           clear HC57
           try clear c1
           try clear p1
           try clear q1
           try clear hx1
           try clear qi1
           try clear c2
           try clear p2
           try clear c3
           try clear c3b0
           try clear c3b1
           try clear c4
           try clear c4b0
           try clear c4b1
           try clear c5
           try clear c6
           try clear p6
           try clear c11
           try clear c11b0
           try clear c11b1
           try clear c12
           try clear c12b0
           try clear c12b1
           try clear p16
           try clear q16
           try clear hx16
           try clear qi16
           try clear c17
           try clear p17
           try clear q17
           try clear hx17
           try clear qi17
           try clear p18
           try clear q18
           try clear hx18
           try clear qi18
           try clear c19
           try clear c19b0
           try clear c19b1
           try clear c24
           try clear c24b0
           try clear c24b1
           try clear c30
           try clear c30b0
           try clear c31
           try clear c31b0
           try clear c32
           try clear c32b0
           try clear c34
           try clear c36
           try clear c38
           try clear c41
           try clear c44
           try clear c44b0
           try clear c44b1
           try clear c45
           try clear c45b0
           try clear c45b1
           try clear c51
           try clear c51b0
           try clear c51b1
           try clear c52
           try clear c52b0
           try clear c52b1
           try clear c53
           try clear c54
           try clear c58
           try clear c58b0
           try clear c58b1
           try clear c59
           try clear c59b0
           try clear c59b1
           try clear c60
           try clear c60b0
           try clear c60b1
           try clear c61
           try clear c61b0
           try clear c61b1
           try clear c62
           try clear c62b0
           try clear c62b1
           try clear C10_0
           try clear C10_1
           try clear C10_2
           try clear C18_0
           try clear C18_1
           try clear C18_2
           try clear C23_0
           try clear C23_1
           try clear C23_2
           try clear C28_0
           try clear C28_1
           try clear C28_2
           try clear C37_0
           try clear C37_1
           try clear C37_2
           try clear C39_0
           try clear C39_1
           try clear C39_2
           try clear C42_0
           try clear C42_1
           try clear C42_2
           try clear C50_0
           try clear C50_1
           try clear C50_2
           try clear C56_0
           try clear C56_1
           try clear C56_2
           try clear F10_0
           try clear F10_1
           try clear F10_2
           try clear F18_0
           try clear F18_1
           try clear F18_2
           try clear F23_0
           try clear F23_1
           try clear F23_2
           try clear F28_0
           try clear F28_1
           try clear F28_2
           try clear F37_0
           try clear F37_1
           try clear F37_2
           try clear F39_0
           try clear F39_1
           try clear F39_2
           try clear F42_0
           try clear F42_1
           try clear F42_2
           try clear F50_0
           try clear F50_1
           try clear F50_2
           try clear F56_0
           try clear F56_1
           try clear F56_2
           try clear hx165_0
           try clear hx165_1
           try clear hx165_2
           try clear hx170_0
           try clear hx170_1
           try clear hx170_2
           try clear hx181_0
           try clear hx181_1
           try clear hx181_2
           try clear hx184_0
           try clear hx184_1
           try clear hx184_2
           try clear hx189_0
           try clear hx189_1
           try clear hx189_2
           try clear p1
           try clear p16
           try clear p165
           try clear p17
           try clear p170
           try clear p181
           try clear p184
           try clear p189
           try clear p2
           try clear q1
           try clear q16
           try clear q165
           try clear q17
           try clear q170
           try clear q181
           try clear q184
           try clear q189
           obtain ⟨kq, x63_56, rfl, HA, HJ56, BK164, HB⟩ := hcut
           cases kq with
           | zero => exact absurd HA.out (by simp [expr_does.j1])
           | succ kj56 =>
            have H := HA.out
            clear HA
            simp only [expr_does.j1] at H
            by_cases c63 : x63_56 = true
            ·subst c63
             have H1 : (if 0 < (l1.length : Int) then (if 1 < (l1.length : Int) then ((value_Compare.f kj56 ((rd_T23 l1 0).f0) ((rd_T23 l1 0).f1) ((rd_T23 l1 0).f2) ((rd_T23 l1 1).f0) ((rd_T23 l1 1).f1) ((rd_T23 l1 1).f2)).bind fun t198 => ((expr_holds.f a0 t198).bind fun t199 => ((expr_truth.f t199).bind fun bt200 => (some (bt200.1, bt200.2.1, bt200.2.2, 0))))) else (none)) else (none)) = some (r1, r2, r3, r4) := by rw [if_pos rfl] at H; exact H
             clear H
             have H := H1
             clear H1
             by_cases c64 : 0 < (l1.length : Int)
             ·rw [if_pos c64] at H
              have c64b0 : decide (0 < (l1.length : Int)) = true := decide_eq_true c64
              have c64b1 : decide (0 < l1.length) = true := decide_eq_true (by omega)
              clear c64
              by_cases c65 : 1 < (l1.length : Int)
              ·rw [if_pos c65] at H
               have c65b0 : decide (1 < (l1.length : Int)) = true := decide_eq_true c65
               have c65b1 : decide (1 < l1.length) = true := decide_eq_true (by omega)
               clear c65
               replace H := Option.bind_eq_some_iff.mp H
               obtain ⟨t198, A660, H⟩ := H
               replace H : ((expr_holds.f a0 t198).bind fun t199 => ((expr_truth.f t199).bind fun bt200 => (some (bt200.1, bt200.2.1, bt200.2.2, 0)))) = some (r1, r2, r3, r4) := H
               have A66 := aM A660
               clear A660
               replace H := Option.bind_eq_some_iff.mp H
               obtain ⟨t199, A670, H⟩ := H
               replace H : ((expr_truth.f t199).bind fun bt200 => (some (bt200.1, bt200.2.1, bt200.2.2, 0))) = some (r1, r2, r3, r4) := H
               have A67 := aM A670
               clear A670
               replace H := Option.bind_eq_some_iff.mp H
               obtain ⟨⟨t200, t201, t202⟩, A680, H⟩ := H
               replace H : (some (t200, t201, t202, 0)) = some (r1, r2, r3, r4) := H
               have A68 := aM A680
               clear A680
               simp only [Option.some.injEq, Prod.mk.injEq] at H
               obtain ⟨rfl, rfl, rfl, rfl⟩ := H
               try go_wp2
               have n0_ := aM (blk_drew BK164.out)
               have n1_ := aM (below_drew1 HB.out)
               clear BK164
               clear HB
               have BK164 := n0_
               have HB := n1_
               clear n0_ n1_
               have p196 : 0 ≤ (0 : Int) := (by omega)
               have q196 : 0 < (l1.length : Int) := of_decide_eq_true (by first | (with_reducible assumption) | assumption)
               obtain ⟨ad196, e196, hx196_0, hx196_1, hx196_2⟩ := at_T23 HR1.out 0 p196 q196
               have hw196_2 := hx196_2
               (try rw [show ((0 : Int)).toNat = 0 from rfl] at hw196_2)
               (try rw [show 0 * 3 = 0 from rfl] at hw196_2)
               (try rw [Addr.add_zero'] at hw196_2)
               have hw196_1 := hx196_1
               (try rw [show ((0 : Int)).toNat = 0 from rfl] at hw196_1)
               (try rw [show 0 * 3 = 0 from rfl] at hw196_1)
               (try rw [Addr.add_zero'] at hw196_1)
               have hw196_0 := hx196_0
               (try rw [show ((0 : Int)).toNat = 0 from rfl] at hw196_0)
               (try rw [show 0 * 3 = 0 from rfl] at hw196_0)
               (try rw [Addr.add_zero'] at hw196_0)
               cases e196
               have qi196 : (0 < l1.length) = True := eq_true (by omega)
               (try rw [show ((0 : Int)).toNat = 0 from rfl] at hx196_0)
               (try rw [show 0 * 3 = 0 from rfl] at hx196_0)
               (try rw [Addr.add_zero'] at hx196_0)
               (try rw [show ((0 : Int)).toNat = 0 from rfl] at hx196_1)
               (try rw [show 0 * 3 = 0 from rfl] at hx196_1)
               (try rw [Addr.add_zero'] at hx196_1)
               (try rw [show ((0 : Int)).toNat = 0 from rfl] at hx196_2)
               (try rw [show 0 * 3 = 0 from rfl] at hx196_2)
               (try rw [Addr.add_zero'] at hx196_2)
               replace hx196_0 := (HB.out.cell (World.block_lt_of_cell? w _ hx196_0)).trans hx196_0
               replace hx196_1 := (HB.out.cell (World.block_lt_of_cell? w _ hx196_1)).trans hx196_1
               replace hx196_2 := (HB.out.cell (World.block_lt_of_cell? w _ hx196_2)).trans hx196_2
               replace p196 := eq_true p196
               replace q196 := eq_true q196
               have p197 : 0 ≤ (1 : Int) := (by omega)
               have q197 : 1 < (l1.length : Int) := of_decide_eq_true (by first | (with_reducible assumption) | assumption)
               obtain ⟨ad197, e197, hx197_0, hx197_1, hx197_2⟩ := at_T23 HR1.out 1 p197 q197
               have hw197_2 := hx197_2
               (try rw [show ((1 : Int)).toNat = 1 from rfl] at hw197_2)
               (try rw [show 1 * 3 = 3 from rfl] at hw197_2)
               (try simp only [Nat.reduceMul, Nat.reduceEqDiff, Go.Addr.add, ↓reduceIte] at hw197_2)
               have hw197_1 := hx197_1
               (try rw [show ((1 : Int)).toNat = 1 from rfl] at hw197_1)
               (try rw [show 1 * 3 = 3 from rfl] at hw197_1)
               (try simp only [Nat.reduceMul, Nat.reduceEqDiff, Go.Addr.add, ↓reduceIte] at hw197_1)
               have hw197_0 := hx197_0
               (try rw [show ((1 : Int)).toNat = 1 from rfl] at hw197_0)
               (try rw [show 1 * 3 = 3 from rfl] at hw197_0)
               (try simp only [Nat.reduceMul, Nat.reduceEqDiff, Go.Addr.add, ↓reduceIte] at hw197_0)
               obtain rfl : ad196 = ad197 := (by injection e197)
               (try simp only [show (1 : Int).toNat = 1 from rfl, Nat.reduceMul, Nat.reduceEqDiff, Go.Addr.add, ↓reduceIte] at hx197_0)
               (try simp only [show (1 : Int).toNat = 1 from rfl, Nat.reduceMul, Nat.reduceEqDiff, Go.Addr.add, ↓reduceIte] at hx197_1)
               (try simp only [show (1 : Int).toNat = 1 from rfl, Nat.reduceMul, Nat.reduceEqDiff, Go.Addr.add, ↓reduceIte] at hx197_2)
               have qi197 : (1 < l1.length) = True := eq_true (by omega)
               (try rw [show ((1 : Int)).toNat = 1 from rfl] at hx197_0)
               (try rw [show 1 * 3 = 3 from rfl] at hx197_0)
               (try rw [show ((1 : Int)).toNat = 1 from rfl] at hx197_1)
               (try rw [show 1 * 3 = 3 from rfl] at hx197_1)
               (try rw [show ((1 : Int)).toNat = 1 from rfl] at hx197_2)
               (try rw [show 1 * 3 = 3 from rfl] at hx197_2)
               replace hx197_0 := (HB.out.cell (World.block_lt_of_cell? w _ hx197_0)).trans hx197_0
               replace hx197_1 := (HB.out.cell (World.block_lt_of_cell? w _ hx197_1)).trans hx197_1
               replace hx197_2 := (HB.out.cell (World.block_lt_of_cell? w _ hx197_2)).trans hx197_2
               replace p197 := eq_true p197
               replace q197 := eq_true q197
               refine start_ (n := 12) (S := fun w' => w'.cell? ad196 = some (.int .i64 ((rd_T23 l1 0).f0)) ∧ w'.cell? ⟨ad196.block, ad196.off + 1, none⟩ = some (.int .i64 ((rd_T23 l1 0).f1)) ∧ w'.cell? ⟨ad196.block, ad196.off + 2, none⟩ = some (.string ((rd_T23 l1 0).f2)) ∧ w'.cell? ⟨ad196.block, ad196.off + 3, none⟩ = some (.int .i64 ((rd_T23 l1 1).f0)) ∧ w'.cell? ⟨ad196.block, ad196.off + 3 + 1, none⟩ = some (.int .i64 ((rd_T23 l1 1).f1)) ∧ w'.cell? ⟨ad196.block, ad196.off + 3 + 2, none⟩ = some (.string ((rd_T23 l1 1).f2))) (ds := []) #[false, false, false, false, false, false, false, false, false, false, false, false] (by kernel_rfl) rfl rfl ⟨((HB.out.cell (World.block_lt_of_cell? w _ hw196_0)).trans hw196_0), ((HB.out.cell (World.block_lt_of_cell? w _ hw196_1)).trans hw196_1), ((HB.out.cell (World.block_lt_of_cell? w _ hw196_2)).trans hw196_2), ((HB.out.cell (World.block_lt_of_cell? w _ hw197_0)).trans hw197_0), ((HB.out.cell (World.block_lt_of_cell? w _ hw197_1)).trans hw197_1), ((HB.out.cell (World.block_lt_of_cell? w _ hw197_2)).trans hw197_2)⟩ (fun hHeld => ?_); refine with_tabW expr_does.tab27 expr_does.bits27 (fun HT_ HW_ => ?_)
               generalize wc.drew = w69 at BK164 HB hx196_0 hx196_1 hx196_2 hx197_0 hx197_1 hx197_2 hHeld ⊢
               refine pure_ (i := 0) (N := some 70) (v := ?_) (a' := ?_) #[true, false, false, false, false, false, false, false, false, false, false, false] rfl rfl (any_of HT_.out (by kernel_rfl)) (fun _ _ _ h => h) (Or.inl ⟨by rfl, ?_⟩) ?_ ?_
               rotate_left
               ·intro w'
                go_simp
                with_reducible rfl
               rotate_left
               ·simp only [Act.put, sA, sB, sC, i64_w, i32_w]
                rfl
               refine pure_ (i := 1) (N := some 71) (v := ?_) (a' := ?_) #[true, true, false, false, false, false, false, false, false, false, false, false] rfl rfl (any_of HT_.out (by kernel_rfl)) (fun _ _ _ h => h) (Or.inl ⟨by rfl, ?_⟩) ?_ ?_
               rotate_left
               ·intro w'
                go_simp
                with_reducible rfl
               rotate_left
               ·simp only [Act.put, sA, sB, sC, i64_w, i32_w]
                rfl
               refine pure_ (i := 2) (N := some 72) (v := ?_) (a' := ?_) #[true, true, true, false, false, false, false, false, false, false, false, false] rfl rfl (any_of HT_.out (by kernel_rfl)) (fun _ _ _ h => h) (Or.inl ⟨by rfl, ?_⟩) ?_ ?_
               rotate_left
               ·intro w'
                go_simp
                with_reducible rfl
               rotate_left
               ·simp only [Act.put, sA, sB, sC, i64_w, i32_w]
                rfl
               refine pure_ (i := 4) (N := some 74) (v := ?_) (a' := ?_) #[true, true, true, false, true, false, false, false, false, false, false, false] rfl rfl (any_of HT_.out (by kernel_rfl)) (fun _ _ _ h => h) (Or.inl ⟨by rfl, ?_⟩) ?_ ?_
               rotate_left
               ·intro w'
                go_simp
                with_reducible rfl
               rotate_left
               ·simp only [Act.put, sA, sB, sC, i64_w, i32_w]
                rfl
               refine pure_ (i := 5) (N := some 75) (v := ?_) (a' := ?_) #[true, true, true, false, true, true, false, false, false, false, false, false] rfl rfl (any_of HT_.out (by kernel_rfl)) (fun _ _ _ h => h) (Or.inl ⟨by rfl, ?_⟩) ?_ ?_
               rotate_left
               ·intro w'
                go_simp
                with_reducible rfl
               rotate_left
               ·simp only [Act.put, sA, sB, sC, i64_w, i32_w]
                rfl
               refine take_ (i := 3) (N := some 73) (v := ?_) (a' := ?_) #[true, true, true, true, true, true, false, false, false, false, false, false] rfl rfl (take_ofW HT_.out HW_.out (by kernel_rfl)) (fun _ _ _ h => h) (Or.inl ⟨by rfl, ?_⟩) hHeld ?_ ?_
               rotate_left
               ·rintro w' ⟨s0, s1, s2, s3, s4, s5⟩
                go_simp
                with_reducible rfl
               rotate_left
               ·simp only [Act.put, sA, sB, sC, i64_w, i32_w]
                rfl
               refine take_ (i := 6) (N := some 76) (v := ?_) (a' := ?_) #[true, true, true, true, true, true, true, false, false, false, false, false] rfl rfl (take_ofW HT_.out HW_.out (by kernel_rfl)) (fun _ _ _ h => h) (Or.inl ⟨by rfl, ?_⟩) hHeld ?_ ?_
               rotate_left
               ·rintro w' ⟨s0, s1, s2, s3, s4, s5⟩
                go_simp
                with_reducible rfl
               rotate_left
               ·simp only [Act.put, sA, sB, sC, i64_w, i32_w]
                rfl
               refine one_ (i := 7) (N := some 77) #[true, true, true, true, true, true, true, true, false, false, false, false] rfl rfl (one_of HT_.out (by kernel_rfl)) (by decide) (fun K hK => ?_)
               refine goes_ Try.func56 (by kernel_rfl) rfl #[.agg #[.int .i64 ((rd_T23 l1 0).f0), .int .i64 ((rd_T23 l1 0).f1), .string ((rd_T23 l1 0).f2)], .agg #[.int .i64 ((rd_T23 l1 1).f0), .int .i64 ((rd_T23 l1 1).f1), .string ((rd_T23 l1 1).f2)]] (by rfl) rfl rfl (by (try simp only [List.map_toArray, List.map_cons, List.map_nil]); first | done | rfl | (simp only [List.length_drop, List.length_take]; rfl)) ?_
               with_reducible refine (value_Compare.calls kj56 ((rd_T23 l1 0).f0) ((rd_T23 l1 0).f1) ((rd_T23 l1 0).f2) ((rd_T23 l1 1).f0) ((rd_T23 l1 1).f1) ((rd_T23 l1 1).f2) t198 _ A66.out).mono ?_
               rintro e w70 ⟨rfl, hb⟩
               refine ⟨_, rfl, ?_⟩
               have n0_ := aM (blk_below (bO BK164) hb)
               have n1_ := aM (below_step (lO HB) hb)
               clear BK164
               clear HB
               have BK164 := n0_
               have HB := n1_
               clear n0_ n1_
               (try clear hb)
               (try clear hb2)
               (try clear hk)
               (try clear hi)
               refine hK.out _ _ ⟨((HB.out.cell (World.block_lt_of_cell? w _ hw196_0)).trans hw196_0), ((HB.out.cell (World.block_lt_of_cell? w _ hw196_1)).trans hw196_1), ((HB.out.cell (World.block_lt_of_cell? w _ hw196_2)).trans hw196_2), ((HB.out.cell (World.block_lt_of_cell? w _ hw197_0)).trans hw197_0), ((HB.out.cell (World.block_lt_of_cell? w _ hw197_1)).trans hw197_1), ((HB.out.cell (World.block_lt_of_cell? w _ hw197_2)).trans hw197_2)⟩ (fun hHeld => ?_)
               clear hK K
               refine norm_ (a' := ?_) ?_ ?_
               rotate_left
               ·show Act.put _ (some 77) _ = _
                simp only [Act.put, sA, sB, sC, i64_w, i32_w]
                rfl
               refine one_ (i := 8) (N := some 78) #[true, true, true, true, true, true, true, true, true, false, false, false] rfl rfl (one_of HT_.out (by kernel_rfl)) (by decide) (fun K hK => ?_)
               refine goes_ Try.func55 (by kernel_rfl) rfl #[.string a0, .int .i64 t198] (by rfl) rfl rfl (by (try simp only [List.map_toArray, List.map_cons, List.map_nil]); first | done | rfl | (simp only [List.length_drop, List.length_take]; rfl)) ?_
               with_reducible refine (expr_holds.calls a0 t198 t199 _ A67.out).mono ?_
               rintro e w' ⟨rfl, ⟨nd, rfl⟩⟩
               refine ⟨_, rfl, ?_⟩
               refine hK.out _ _ ⟨((HB.out.cell (World.block_lt_of_cell? w _ hw196_0)).trans hw196_0), ((HB.out.cell (World.block_lt_of_cell? w _ hw196_1)).trans hw196_1), ((HB.out.cell (World.block_lt_of_cell? w _ hw196_2)).trans hw196_2), ((HB.out.cell (World.block_lt_of_cell? w _ hw197_0)).trans hw197_0), ((HB.out.cell (World.block_lt_of_cell? w _ hw197_1)).trans hw197_1), ((HB.out.cell (World.block_lt_of_cell? w _ hw197_2)).trans hw197_2)⟩ (fun hHeld => ?_)
               clear hK K
               refine norm_ (a' := ?_) ?_ ?_
               rotate_left
               ·show Act.put _ (some 78) _ = _
                simp only [Act.put, sA, sB, sC, i64_w, i32_w]
                rfl
               refine one_ (i := 9) (N := some 79) #[true, true, true, true, true, true, true, true, true, true, false, false] rfl rfl (one_of HT_.out (by kernel_rfl)) (by decide) (fun K hK => ?_)
               refine goes_ Try.func32 (by kernel_rfl) rfl #[.bool t199] (by rfl) rfl rfl (by (try simp only [List.map_toArray, List.map_cons, List.map_nil]); first | done | rfl | (simp only [List.length_drop, List.length_take]; rfl)) ?_
               with_reducible refine (expr_truth.calls t199 t200 t201 t202 _ A68.out).mono ?_
               rintro e w71 ⟨rfl, hb⟩
               refine ⟨_, rfl, ?_⟩
               have n0_ := aM (blk_below (bO BK164) hb)
               have n1_ := aM (below_step (lO HB) hb)
               clear BK164
               clear HB
               have BK164 := n0_
               have HB := n1_
               clear n0_ n1_
               (try clear hb)
               (try clear hb2)
               (try clear hk)
               (try clear hi)
               refine hK.out _ _ ⟨((HB.out.cell (World.block_lt_of_cell? w _ hw196_0)).trans hw196_0), ((HB.out.cell (World.block_lt_of_cell? w _ hw196_1)).trans hw196_1), ((HB.out.cell (World.block_lt_of_cell? w _ hw196_2)).trans hw196_2), ((HB.out.cell (World.block_lt_of_cell? w _ hw197_0)).trans hw197_0), ((HB.out.cell (World.block_lt_of_cell? w _ hw197_1)).trans hw197_1), ((HB.out.cell (World.block_lt_of_cell? w _ hw197_2)).trans hw197_2)⟩ (fun hHeld => ?_)
               clear hK K
               refine norm_ (a' := ?_) ?_ ?_
               rotate_left
               ·show Act.put _ (some 79) _ = _
                simp only [Act.put, sA, sB, sC, i64_w, i32_w]
                rfl
               refine one_ (i := 10) (N := none) #[true, true, true, true, true, true, true, true, true, true, true, false] rfl rfl (one_of HT_.out (by kernel_rfl)) (by decide) (fun K hK => ?_)
               have hs72 : w71.cell? ⟨gb164, 0, none⟩ = some (.int .i64 x165000_1) := (blk_cell BK164.out 0).trans rfl
               have hfs72 := fz BK164 0
               have hs73 : w71.cell? ⟨gb164, 1, none⟩ = some (.int .i64 x165001_1) := (blk_cell BK164.out 1).trans rfl
               have hfs73 := fz BK164 1
               have hs74 : w71.cell? ⟨gb164, 2, none⟩ = some (.string x165002_1) := (blk_cell BK164.out 2).trans rfl
               have hfs74 := fz BK164 2
               refine skip_ (w1 := ?_) (by rfl) rfl ?_ ?_
               rotate_left
               ·go_simp
                rfl
               refine hK.out _ _ ⟨((cell_far (p := ⟨gb164, _, none⟩) (xO hw196_0 GW164.out) _).trans (((cell_far (p := ⟨gb164, _, none⟩) (xO hw196_0 GW164.out) _).trans (((cell_far (p := ⟨gb164, _, none⟩) (xO hw196_0 GW164.out) _).trans (hHeld.1)))))), ((cell_far (p := ⟨gb164, _, none⟩) (xO hw196_1 GW164.out) _).trans (((cell_far (p := ⟨gb164, _, none⟩) (xO hw196_1 GW164.out) _).trans (((cell_far (p := ⟨gb164, _, none⟩) (xO hw196_1 GW164.out) _).trans (hHeld.2.1)))))), ((cell_far (p := ⟨gb164, _, none⟩) (xO hw196_2 GW164.out) _).trans (((cell_far (p := ⟨gb164, _, none⟩) (xO hw196_2 GW164.out) _).trans (((cell_far (p := ⟨gb164, _, none⟩) (xO hw196_2 GW164.out) _).trans (hHeld.2.2.1)))))), ((cell_far (p := ⟨gb164, _, none⟩) (xO hw197_0 GW164.out) _).trans (((cell_far (p := ⟨gb164, _, none⟩) (xO hw197_0 GW164.out) _).trans (((cell_far (p := ⟨gb164, _, none⟩) (xO hw197_0 GW164.out) _).trans (hHeld.2.2.2.1)))))), ((cell_far (p := ⟨gb164, _, none⟩) (xO hw197_1 GW164.out) _).trans (((cell_far (p := ⟨gb164, _, none⟩) (xO hw197_1 GW164.out) _).trans (((cell_far (p := ⟨gb164, _, none⟩) (xO hw197_1 GW164.out) _).trans (hHeld.2.2.2.2.1)))))), ((cell_far (p := ⟨gb164, _, none⟩) (xO hw197_2 GW164.out) _).trans (((cell_far (p := ⟨gb164, _, none⟩) (xO hw197_2 GW164.out) _).trans (((cell_far (p := ⟨gb164, _, none⟩) (xO hw197_2 GW164.out) _).trans (hHeld.2.2.2.2.2))))))⟩ (fun hHeld => ?_)
               clear hK K
               refine pure_ (i := 11) (N := some 5) (v := ?_) (a' := ?_) #[true, true, true, true, true, true, true, true, true, true, true, true] rfl rfl (any_of HT_.out (by kernel_rfl)) (fun _ _ _ h => h) (Or.inl ⟨by rfl, ?_⟩) ?_ ?_
               rotate_left
               ·intro w'
                go_simp
                with_reducible rfl
               rotate_left
               ·simp only [Act.put, sA, sB, sC, i64_w, i32_w]
                rfl
               refine done_ (done_of HT_.out (by kernel_rfl)) ?_
               try go_wp2
               refine bodyPost_ret (results_ct rfl _ _ gb164 23 #[.int .i64 t200, .int .i64 t201, .string t202] (0, 0) _ rfl (by (with_reducible repeat (first | refine blk_drewN ?_ _ | refine blk_drew ?_ | refine blk_alloc ?_ _)); refine blk_put (cs := #[.int .i64 t200, .int .i64 t201, .string x165002_1]) ?_ 2 _ rfl; (with_reducible repeat (first | refine blk_drewN ?_ _ | refine blk_drew ?_ | refine blk_alloc ?_ _)); refine blk_put (cs := #[.int .i64 t200, .int .i64 x165001_1, .string x165002_1]) ?_ 1 _ rfl; (with_reducible repeat (first | refine blk_drewN ?_ _ | refine blk_drew ?_ | refine blk_alloc ?_ _)); refine blk_put (cs := #[.int .i64 x165000_1, .int .i64 x165001_1, .string x165002_1]) ?_ 0 _ rfl; (with_reducible repeat (first | refine blk_drewN ?_ _ | refine blk_drew ?_ | refine blk_alloc ?_ _)); exact BK164.out) Try.underlying23 rfl (by kernel_rfl)) rfl ?_
               exact ⟨by first | rfl | (simp [errW_none, errW_some] <;> rfl) | (simp [*, errW_none, errW_some] <;> rfl), (lO HB)⟩
              ·rw [if_neg c65] at H
               exact absurd H (by simp)
             ·rw [if_neg c64] at H
              exact absurd H (by simp)
            ·replace c63 := Bool.eq_false_iff.mpr c63
             subst c63
             have H1 : (if 0 < (l1.length : Int) then (if 1 < (l1.length : Int) then ((expr_reckon.f a0 ((rd_T23 l1 0).f1) ((rd_T23 l1 1).f1)).bind fun bt205 => ((expr_number.f bt205.1 bt205.2).bind fun bt207 => (some (bt207.1, bt207.2.1, bt207.2.2.1, bt207.2.2.2)))) else (none)) else (none)) = some (r1, r2, r3, r4) := by rw [if_neg (show ¬ (false = true) by decide)] at H; exact H
             clear H
             have H := H1
             clear H1
             by_cases c75 : 0 < (l1.length : Int)
             ·rw [if_pos c75] at H
              have c75b0 : decide (0 < (l1.length : Int)) = true := decide_eq_true c75
              have c75b1 : decide (0 < l1.length) = true := decide_eq_true (by omega)
              clear c75
              by_cases c76 : 1 < (l1.length : Int)
              ·rw [if_pos c76] at H
               have c76b0 : decide (1 < (l1.length : Int)) = true := decide_eq_true c76
               have c76b1 : decide (1 < l1.length) = true := decide_eq_true (by omega)
               clear c76
               replace H := Option.bind_eq_some_iff.mp H
               obtain ⟨⟨t205, t206⟩, A770, H⟩ := H
               replace H : ((expr_number.f t205 t206).bind fun bt207 => (some (bt207.1, bt207.2.1, bt207.2.2.1, bt207.2.2.2))) = some (r1, r2, r3, r4) := H
               have A77 := aM A770
               clear A770
               replace H := Option.bind_eq_some_iff.mp H
               obtain ⟨⟨t207, t208, t209, t210⟩, A780, H⟩ := H
               replace H : (some (t207, t208, t209, t210)) = some (r1, r2, r3, r4) := H
               have A78 := aM A780
               clear A780
               simp only [Option.some.injEq, Prod.mk.injEq] at H
               obtain ⟨rfl, rfl, rfl, rfl⟩ := H
               try go_wp2
               have n0_ := aM (blk_drew BK164.out)
               have n1_ := aM (below_drew1 HB.out)
               clear BK164
               clear HB
               have BK164 := n0_
               have HB := n1_
               clear n0_ n1_
               have p203 : 0 ≤ (0 : Int) := (by omega)
               have q203 : 0 < (l1.length : Int) := of_decide_eq_true (by first | (with_reducible assumption) | assumption)
               obtain ⟨ad203, e203, hx203_0, hx203_1, hx203_2⟩ := at_T23 HR1.out 0 p203 q203
               have hw203_2 := hx203_2
               (try rw [show ((0 : Int)).toNat = 0 from rfl] at hw203_2)
               (try rw [show 0 * 3 = 0 from rfl] at hw203_2)
               (try rw [Addr.add_zero'] at hw203_2)
               have hw203_1 := hx203_1
               (try rw [show ((0 : Int)).toNat = 0 from rfl] at hw203_1)
               (try rw [show 0 * 3 = 0 from rfl] at hw203_1)
               (try rw [Addr.add_zero'] at hw203_1)
               have hw203_0 := hx203_0
               (try rw [show ((0 : Int)).toNat = 0 from rfl] at hw203_0)
               (try rw [show 0 * 3 = 0 from rfl] at hw203_0)
               (try rw [Addr.add_zero'] at hw203_0)
               cases e203
               have qi203 : (0 < l1.length) = True := eq_true (by omega)
               (try rw [show ((0 : Int)).toNat = 0 from rfl] at hx203_0)
               (try rw [show 0 * 3 = 0 from rfl] at hx203_0)
               (try rw [Addr.add_zero'] at hx203_0)
               (try rw [show ((0 : Int)).toNat = 0 from rfl] at hx203_1)
               (try rw [show 0 * 3 = 0 from rfl] at hx203_1)
               (try rw [Addr.add_zero'] at hx203_1)
               (try rw [show ((0 : Int)).toNat = 0 from rfl] at hx203_2)
               (try rw [show 0 * 3 = 0 from rfl] at hx203_2)
               (try rw [Addr.add_zero'] at hx203_2)
               replace hx203_0 := (HB.out.cell (World.block_lt_of_cell? w _ hx203_0)).trans hx203_0
               replace hx203_1 := (HB.out.cell (World.block_lt_of_cell? w _ hx203_1)).trans hx203_1
               replace hx203_2 := (HB.out.cell (World.block_lt_of_cell? w _ hx203_2)).trans hx203_2
               replace p203 := eq_true p203
               replace q203 := eq_true q203
               have p204 : 0 ≤ (1 : Int) := (by omega)
               have q204 : 1 < (l1.length : Int) := of_decide_eq_true (by first | (with_reducible assumption) | assumption)
               obtain ⟨ad204, e204, hx204_0, hx204_1, hx204_2⟩ := at_T23 HR1.out 1 p204 q204
               have hw204_2 := hx204_2
               (try rw [show ((1 : Int)).toNat = 1 from rfl] at hw204_2)
               (try rw [show 1 * 3 = 3 from rfl] at hw204_2)
               (try simp only [Nat.reduceMul, Nat.reduceEqDiff, Go.Addr.add, ↓reduceIte] at hw204_2)
               have hw204_1 := hx204_1
               (try rw [show ((1 : Int)).toNat = 1 from rfl] at hw204_1)
               (try rw [show 1 * 3 = 3 from rfl] at hw204_1)
               (try simp only [Nat.reduceMul, Nat.reduceEqDiff, Go.Addr.add, ↓reduceIte] at hw204_1)
               have hw204_0 := hx204_0
               (try rw [show ((1 : Int)).toNat = 1 from rfl] at hw204_0)
               (try rw [show 1 * 3 = 3 from rfl] at hw204_0)
               (try simp only [Nat.reduceMul, Nat.reduceEqDiff, Go.Addr.add, ↓reduceIte] at hw204_0)
               obtain rfl : ad203 = ad204 := (by injection e204)
               (try simp only [show (1 : Int).toNat = 1 from rfl, Nat.reduceMul, Nat.reduceEqDiff, Go.Addr.add, ↓reduceIte] at hx204_0)
               (try simp only [show (1 : Int).toNat = 1 from rfl, Nat.reduceMul, Nat.reduceEqDiff, Go.Addr.add, ↓reduceIte] at hx204_1)
               (try simp only [show (1 : Int).toNat = 1 from rfl, Nat.reduceMul, Nat.reduceEqDiff, Go.Addr.add, ↓reduceIte] at hx204_2)
               have qi204 : (1 < l1.length) = True := eq_true (by omega)
               (try rw [show ((1 : Int)).toNat = 1 from rfl] at hx204_0)
               (try rw [show 1 * 3 = 3 from rfl] at hx204_0)
               (try rw [show ((1 : Int)).toNat = 1 from rfl] at hx204_1)
               (try rw [show 1 * 3 = 3 from rfl] at hx204_1)
               (try rw [show ((1 : Int)).toNat = 1 from rfl] at hx204_2)
               (try rw [show 1 * 3 = 3 from rfl] at hx204_2)
               replace hx204_0 := (HB.out.cell (World.block_lt_of_cell? w _ hx204_0)).trans hx204_0
               replace hx204_1 := (HB.out.cell (World.block_lt_of_cell? w _ hx204_1)).trans hx204_1
               replace hx204_2 := (HB.out.cell (World.block_lt_of_cell? w _ hx204_2)).trans hx204_2
               replace p204 := eq_true p204
               replace q204 := eq_true q204
               refine start_ (n := 17) (S := fun w' => w'.cell? ad203 = some (.int .i64 ((rd_T23 l1 0).f0)) ∧ w'.cell? ⟨ad203.block, ad203.off + 1, none⟩ = some (.int .i64 ((rd_T23 l1 0).f1)) ∧ w'.cell? ⟨ad203.block, ad203.off + 2, none⟩ = some (.string ((rd_T23 l1 0).f2)) ∧ w'.cell? ⟨ad203.block, ad203.off + 3, none⟩ = some (.int .i64 ((rd_T23 l1 1).f0)) ∧ w'.cell? ⟨ad203.block, ad203.off + 3 + 1, none⟩ = some (.int .i64 ((rd_T23 l1 1).f1)) ∧ w'.cell? ⟨ad203.block, ad203.off + 3 + 2, none⟩ = some (.string ((rd_T23 l1 1).f2))) (ds := []) #[false, false, false, false, false, false, false, false, false, false, false, false, false, false, false, false, false] (by kernel_rfl) rfl rfl ⟨((HB.out.cell (World.block_lt_of_cell? w _ hw203_0)).trans hw203_0), ((HB.out.cell (World.block_lt_of_cell? w _ hw203_1)).trans hw203_1), ((HB.out.cell (World.block_lt_of_cell? w _ hw203_2)).trans hw203_2), ((HB.out.cell (World.block_lt_of_cell? w _ hw204_0)).trans hw204_0), ((HB.out.cell (World.block_lt_of_cell? w _ hw204_1)).trans hw204_1), ((HB.out.cell (World.block_lt_of_cell? w _ hw204_2)).trans hw204_2)⟩ (fun hHeld => ?_); refine with_tabW expr_does.tab28 expr_does.bits28 (fun HT_ HW_ => ?_)
               generalize wc.drew = w79 at BK164 HB hx203_0 hx203_1 hx203_2 hx204_0 hx204_1 hx204_2 hHeld ⊢
               refine pure_ (i := 0) (N := some 80) (v := ?_) (a' := ?_) #[true, false, false, false, false, false, false, false, false, false, false, false, false, false, false, false, false] rfl rfl (any_of HT_.out (by kernel_rfl)) (fun _ _ _ h => h) (Or.inl ⟨by rfl, ?_⟩) ?_ ?_
               rotate_left
               ·intro w'
                go_simp
                with_reducible rfl
               rotate_left
               ·simp only [Act.put, sA, sB, sC, i64_w, i32_w]
                rfl
               refine pure_ (i := 1) (N := some 81) (v := ?_) (a' := ?_) #[true, true, false, false, false, false, false, false, false, false, false, false, false, false, false, false, false] rfl rfl (any_of HT_.out (by kernel_rfl)) (fun _ _ _ h => h) (Or.inl ⟨by rfl, ?_⟩) ?_ ?_
               rotate_left
               ·intro w'
                go_simp
                with_reducible rfl
               rotate_left
               ·simp only [Act.put, sA, sB, sC, i64_w, i32_w]
                rfl
               refine pure_ (i := 2) (N := some 82) (v := ?_) (a' := ?_) #[true, true, true, false, false, false, false, false, false, false, false, false, false, false, false, false, false] rfl rfl (any_of HT_.out (by kernel_rfl)) (fun _ _ _ h => h) (Or.inl ⟨by rfl, ?_⟩) ?_ ?_
               rotate_left
               ·intro w'
                go_simp
                with_reducible rfl
               rotate_left
               ·simp only [Act.put, sA, sB, sC, i64_w, i32_w]
                rfl
               refine pure_ (i := 3) (N := some 83) (v := ?_) (a' := ?_) #[true, true, true, true, false, false, false, false, false, false, false, false, false, false, false, false, false] rfl rfl (any_of HT_.out (by kernel_rfl)) (fun _ _ _ h => h) (Or.inl ⟨by rfl, ?_⟩) ?_ ?_
               rotate_left
               ·intro w'
                go_simp
                with_reducible rfl
               rotate_left
               ·simp only [Act.put, sA, sB, sC, i64_w, i32_w]
                rfl
               refine pure_ (i := 5) (N := some 85) (v := ?_) (a' := ?_) #[true, true, true, true, false, true, false, false, false, false, false, false, false, false, false, false, false] rfl rfl (any_of HT_.out (by kernel_rfl)) (fun _ _ _ h => h) (Or.inl ⟨by rfl, ?_⟩) ?_ ?_
               rotate_left
               ·intro w'
                go_simp
                with_reducible rfl
               rotate_left
               ·simp only [Act.put, sA, sB, sC, i64_w, i32_w]
                rfl
               refine pure_ (i := 6) (N := some 86) (v := ?_) (a' := ?_) #[true, true, true, true, false, true, true, false, false, false, false, false, false, false, false, false, false] rfl rfl (any_of HT_.out (by kernel_rfl)) (fun _ _ _ h => h) (Or.inl ⟨by rfl, ?_⟩) ?_ ?_
               rotate_left
               ·intro w'
                go_simp
                with_reducible rfl
               rotate_left
               ·simp only [Act.put, sA, sB, sC, i64_w, i32_w]
                rfl
               refine pure_ (i := 7) (N := some 87) (v := ?_) (a' := ?_) #[true, true, true, true, false, true, true, true, false, false, false, false, false, false, false, false, false] rfl rfl (any_of HT_.out (by kernel_rfl)) (fun _ _ _ h => h) (Or.inl ⟨by rfl, ?_⟩) ?_ ?_
               rotate_left
               ·intro w'
                go_simp
                with_reducible rfl
               rotate_left
               ·simp only [Act.put, sA, sB, sC, i64_w, i32_w]
                rfl
               refine take_ (i := 4) (N := some 84) (v := ?_) (a' := ?_) #[true, true, true, true, true, true, true, true, false, false, false, false, false, false, false, false, false] rfl rfl (take_ofW HT_.out HW_.out (by kernel_rfl)) (fun _ _ _ h => h) (Or.inl ⟨by rfl, ?_⟩) hHeld ?_ ?_
               rotate_left
               ·rintro w' ⟨s0, s1, s2, s3, s4, s5⟩
                go_simp
                with_reducible rfl
               rotate_left
               ·simp only [Act.put, sA, sB, sC, i64_w, i32_w]
                rfl
               refine take_ (i := 8) (N := some 88) (v := ?_) (a' := ?_) #[true, true, true, true, true, true, true, true, true, false, false, false, false, false, false, false, false] rfl rfl (take_ofW HT_.out HW_.out (by kernel_rfl)) (fun _ _ _ h => h) (Or.inl ⟨by rfl, ?_⟩) hHeld ?_ ?_
               rotate_left
               ·rintro w' ⟨s0, s1, s2, s3, s4, s5⟩
                go_simp
                with_reducible rfl
               rotate_left
               ·simp only [Act.put, sA, sB, sC, i64_w, i32_w]
                rfl
               refine one_ (i := 9) (N := some 89) #[true, true, true, true, true, true, true, true, true, true, false, false, false, false, false, false, false] rfl rfl (one_of HT_.out (by kernel_rfl)) (by decide) (fun K hK => ?_)
               refine goes_ Try.func57 (by kernel_rfl) rfl #[.string a0, .int .i64 ((rd_T23 l1 0).f1), .int .i64 ((rd_T23 l1 1).f1)] (by rfl) rfl rfl (by (try simp only [List.map_toArray, List.map_cons, List.map_nil]); first | done | rfl | (simp only [List.length_drop, List.length_take]; rfl)) ?_
               with_reducible refine (expr_reckon.calls a0 ((rd_T23 l1 0).f1) ((rd_T23 l1 1).f1) t205 t206 _ A77.out).mono ?_
               rintro e w' ⟨rfl, ⟨nd, rfl⟩⟩
               refine ⟨_, rfl, ?_⟩
               refine hK.out _ _ ⟨((HB.out.cell (World.block_lt_of_cell? w _ hw203_0)).trans hw203_0), ((HB.out.cell (World.block_lt_of_cell? w _ hw203_1)).trans hw203_1), ((HB.out.cell (World.block_lt_of_cell? w _ hw203_2)).trans hw203_2), ((HB.out.cell (World.block_lt_of_cell? w _ hw204_0)).trans hw204_0), ((HB.out.cell (World.block_lt_of_cell? w _ hw204_1)).trans hw204_1), ((HB.out.cell (World.block_lt_of_cell? w _ hw204_2)).trans hw204_2)⟩ (fun hHeld => ?_)
               clear hK K
               refine norm_ (a' := ?_) ?_ ?_
               rotate_left
               ·show Act.put _ (some 89) _ = _
                simp only [Act.put, sA, sB, sC, i64_w, i32_w]
                rfl
               refine pure_ (i := 10) (N := some 90) (v := ?_) (a' := ?_) #[true, true, true, true, true, true, true, true, true, true, true, false, false, false, false, false, false] rfl rfl (any_of HT_.out (by kernel_rfl)) (fun _ _ _ h => h) (Or.inl ⟨by rfl, ?_⟩) ?_ ?_
               rotate_left
               ·intro w'
                go_simp
                with_reducible rfl
               rotate_left
               ·simp only [Act.put, sA, sB, sC, i64_w, i32_w]
                rfl
               refine pure_ (i := 11) (N := some 91) (v := ?_) (a' := ?_) #[true, true, true, true, true, true, true, true, true, true, true, true, false, false, false, false, false] rfl rfl (any_of HT_.out (by kernel_rfl)) (fun _ _ _ h => h) (Or.inl ⟨by rfl, ?_⟩) ?_ ?_
               rotate_left
               ·intro w'
                go_simp
                with_reducible rfl
               rotate_left
               ·simp only [Act.put, sA, sB, sC, i64_w, i32_w]
                rfl
               refine one_ (i := 12) (N := some 92) #[true, true, true, true, true, true, true, true, true, true, true, true, true, false, false, false, false] rfl rfl (one_of HT_.out (by kernel_rfl)) (by decide) (fun K hK => ?_)
               refine goes_ Try.func53 (by kernel_rfl) rfl #[.int .i64 t205, .int .i64 t206] (by rfl) rfl rfl (by (try simp only [List.map_toArray, List.map_cons, List.map_nil]); first | done | rfl | (simp only [List.length_drop, List.length_take]; rfl)) ?_
               with_reducible refine (expr_number.calls t205 t206 t207 t208 t209 t210 _ A78.out).mono ?_
               rintro e w80 ⟨rfl, hb⟩
               refine ⟨_, rfl, ?_⟩
               have n0_ := aM (blk_below (bO BK164) hb)
               have n1_ := aM (below_step (lO HB) hb)
               clear BK164
               clear HB
               have BK164 := n0_
               have HB := n1_
               clear n0_ n1_
               (try clear hb)
               (try clear hb2)
               (try clear hk)
               (try clear hi)
               refine hK.out _ _ ⟨((HB.out.cell (World.block_lt_of_cell? w _ hw203_0)).trans hw203_0), ((HB.out.cell (World.block_lt_of_cell? w _ hw203_1)).trans hw203_1), ((HB.out.cell (World.block_lt_of_cell? w _ hw203_2)).trans hw203_2), ((HB.out.cell (World.block_lt_of_cell? w _ hw204_0)).trans hw204_0), ((HB.out.cell (World.block_lt_of_cell? w _ hw204_1)).trans hw204_1), ((HB.out.cell (World.block_lt_of_cell? w _ hw204_2)).trans hw204_2)⟩ (fun hHeld => ?_)
               clear hK K
               refine norm_ (a' := ?_) ?_ ?_
               rotate_left
               ·show Act.put _ (some 92) _ = _
                simp only [Act.put, sA, sB, sC, i64_w, i32_w]
                rfl
               refine pure_ (i := 13) (N := some 93) (v := ?_) (a' := ?_) #[true, true, true, true, true, true, true, true, true, true, true, true, true, true, false, false, false] rfl rfl (any_of HT_.out (by kernel_rfl)) (fun _ _ _ h => h) (Or.inl ⟨by rfl, ?_⟩) ?_ ?_
               rotate_left
               ·intro w'
                go_simp
                with_reducible rfl
               rotate_left
               ·simp only [Act.put, sA, sB, sC, i64_w, i32_w]
                rfl
               refine pure_ (i := 14) (N := some 94) (v := ?_) (a' := ?_) #[true, true, true, true, true, true, true, true, true, true, true, true, true, true, true, false, false] rfl rfl (any_of HT_.out (by kernel_rfl)) (fun _ _ _ h => h) (Or.inl ⟨by rfl, ?_⟩) ?_ ?_
               rotate_left
               ·intro w'
                go_simp
                with_reducible rfl
               rotate_left
               ·simp only [Act.put, sA, sB, sC, i64_w, i32_w]
                rfl
               refine one_ (i := 15) (N := none) #[true, true, true, true, true, true, true, true, true, true, true, true, true, true, true, true, false] rfl rfl (one_of HT_.out (by kernel_rfl)) (by decide) (fun K hK => ?_)
               have hs81 : w80.cell? ⟨gb164, 0, none⟩ = some (.int .i64 x165000_1) := (blk_cell BK164.out 0).trans rfl
               have hfs81 := fz BK164 0
               have hs82 : w80.cell? ⟨gb164, 1, none⟩ = some (.int .i64 x165001_1) := (blk_cell BK164.out 1).trans rfl
               have hfs82 := fz BK164 1
               have hs83 : w80.cell? ⟨gb164, 2, none⟩ = some (.string x165002_1) := (blk_cell BK164.out 2).trans rfl
               have hfs83 := fz BK164 2
               refine skip_ (w1 := ?_) (by rfl) rfl ?_ ?_
               rotate_left
               ·go_simp
                rfl
               refine hK.out _ _ ⟨((cell_far (p := ⟨gb164, _, none⟩) (xO hw203_0 GW164.out) _).trans (((cell_far (p := ⟨gb164, _, none⟩) (xO hw203_0 GW164.out) _).trans (((cell_far (p := ⟨gb164, _, none⟩) (xO hw203_0 GW164.out) _).trans (hHeld.1)))))), ((cell_far (p := ⟨gb164, _, none⟩) (xO hw203_1 GW164.out) _).trans (((cell_far (p := ⟨gb164, _, none⟩) (xO hw203_1 GW164.out) _).trans (((cell_far (p := ⟨gb164, _, none⟩) (xO hw203_1 GW164.out) _).trans (hHeld.2.1)))))), ((cell_far (p := ⟨gb164, _, none⟩) (xO hw203_2 GW164.out) _).trans (((cell_far (p := ⟨gb164, _, none⟩) (xO hw203_2 GW164.out) _).trans (((cell_far (p := ⟨gb164, _, none⟩) (xO hw203_2 GW164.out) _).trans (hHeld.2.2.1)))))), ((cell_far (p := ⟨gb164, _, none⟩) (xO hw204_0 GW164.out) _).trans (((cell_far (p := ⟨gb164, _, none⟩) (xO hw204_0 GW164.out) _).trans (((cell_far (p := ⟨gb164, _, none⟩) (xO hw204_0 GW164.out) _).trans (hHeld.2.2.2.1)))))), ((cell_far (p := ⟨gb164, _, none⟩) (xO hw204_1 GW164.out) _).trans (((cell_far (p := ⟨gb164, _, none⟩) (xO hw204_1 GW164.out) _).trans (((cell_far (p := ⟨gb164, _, none⟩) (xO hw204_1 GW164.out) _).trans (hHeld.2.2.2.2.1)))))), ((cell_far (p := ⟨gb164, _, none⟩) (xO hw204_2 GW164.out) _).trans (((cell_far (p := ⟨gb164, _, none⟩) (xO hw204_2 GW164.out) _).trans (((cell_far (p := ⟨gb164, _, none⟩) (xO hw204_2 GW164.out) _).trans (hHeld.2.2.2.2.2))))))⟩ (fun hHeld => ?_)
               clear hK K
               refine pure_ (i := 16) (N := some 5) (v := ?_) (a' := ?_) #[true, true, true, true, true, true, true, true, true, true, true, true, true, true, true, true, true] rfl rfl (any_of HT_.out (by kernel_rfl)) (fun _ _ _ h => h) (Or.inl ⟨by rfl, ?_⟩) ?_ ?_
               rotate_left
               ·intro w'
                go_simp
                with_reducible rfl
               rotate_left
               ·simp only [Act.put, sA, sB, sC, i64_w, i32_w]
                rfl
               refine done_ (done_of HT_.out (by kernel_rfl)) ?_
               try go_wp2
               refine bodyPost_ret (results_ct rfl _ _ gb164 23 #[.int .i64 t207, .int .i64 t208, .string t209] (0, 0) _ rfl (by (with_reducible repeat (first | refine blk_drewN ?_ _ | refine blk_drew ?_ | refine blk_alloc ?_ _)); refine blk_put (cs := #[.int .i64 t207, .int .i64 t208, .string x165002_1]) ?_ 2 _ rfl; (with_reducible repeat (first | refine blk_drewN ?_ _ | refine blk_drew ?_ | refine blk_alloc ?_ _)); refine blk_put (cs := #[.int .i64 t207, .int .i64 x165001_1, .string x165002_1]) ?_ 1 _ rfl; (with_reducible repeat (first | refine blk_drewN ?_ _ | refine blk_drew ?_ | refine blk_alloc ?_ _)); refine blk_put (cs := #[.int .i64 x165000_1, .int .i64 x165001_1, .string x165002_1]) ?_ 0 _ rfl; (with_reducible repeat (first | refine blk_drewN ?_ _ | refine blk_drew ?_ | refine blk_alloc ?_ _)); exact BK164.out) Try.underlying23 rfl (by kernel_rfl)) rfl ?_
               exact ⟨by first | rfl | (simp [errW_none, errW_some] <;> rfl) | (simp [*, errW_none, errW_some] <;> rfl), (lO HB)⟩
              ·rw [if_neg c76] at H
               exact absurd H (by simp)
             ·rw [if_neg c75] at H
              exact absurd H (by simp)

end Go.Proofs.Ytpmecpmankpcbaa.PK
