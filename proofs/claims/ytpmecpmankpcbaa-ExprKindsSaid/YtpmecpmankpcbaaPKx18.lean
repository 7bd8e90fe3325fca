/- Go functions of the program as plain functions, and that each call comes to them. Written by a program of this session (hprint.py) on the kit's print. No conditions. -/
import Derived.Test.YtpmecpmankpcbaaPKx0
import Derived.Test.YtpmecpmankpcbaaSq
namespace Go.Proofs.Ytpmecpmankpcbaa.PK
open Go.RowKit Go.Proofs.YtpmecpmankpcbaaW.PrintWords Go.Proofs.YtpmecpmankpcbaaW.PrintLast Go.Proofs.YtpmecpmankpcbaaW.PrintMore Go.Proofs.Ytpmecpmankpcbaa.Sq
set_option linter.unusedVariables false
set_option linter.unusedSimpArgs false

/-! ### antipodelaw19_Light: function 11 -/
mutual
def antipodelaw19_Light.j0 : Nat → Int → Bool → Int → ByteArray → Int → Int → ByteArray → List (S26) → Option (Int)
 | 0, _, _, _, _, _, _, _, _ => none
 | k + 1, x1, x20, x332000, x332001, x332002, x332003, x332004, x332005 => if x20 = true then (some 0) else (antipodelaw19_Light.l0 k (wrap64 (x1 - 1)) 0 x332000 x332001 x332002 x332003 x332004 x332005)
def antipodelaw19_Light.l0 : Nat → Int → Int → Int → ByteArray → Int → Int → ByteArray → List (S26) → Option (Int)
 | 0, _, _, _, _, _, _, _, _ => none
 | k + 1, x1, x5, x332000, x332001, x332002, x332003, x332004, x332005 => if x5 < (x332005.length : Int) then (if x1 > 0 then (if 0 ≤ x5 then ((antipodelaw19_Light.f k ((rd_T26 x332005 x5).f0) ((rd_T26 x332005 x5).f1) ((rd_T26 x332005 x5).f2.f0) ((rd_T26 x332005 x5).f2.f1) ((rd_T26 x332005 x5).f2.f2) ((rd_T26 x332005 x5).f3) x1).bind fun t333 => (antipodelaw19_Light.l0 k t333 (wrap64 (x5 + 1)) x332000 x332001 x332002 x332003 x332004 x332005)) else (none)) else (some x1)) else (some x1)
def antipodelaw19_Light.f : Nat → Int → ByteArray → Int → Int → ByteArray → List (S26) → Int → Option (Int)
 | 0, _, _, _, _, _, _, _ => none
 | k + 1, a0_0, a0_1, a0_2, a0_3, a0_4, l0_5, a1 => if a1 ≤ 0 then (antipodelaw19_Light.j0 k a1 true a0_0 a0_1 a0_2 a0_3 a0_4 l0_5) else (if (a0_1.size : Int) > 100 then (antipodelaw19_Light.j0 k a1 true a0_0 a0_1 a0_2 a0_3 a0_4 l0_5) else (antipodelaw19_Light.j0 k a1 (decide ((a0_4.size : Int) > 200)) a0_0 a0_1 a0_2 a0_3 a0_4 l0_5))
end
theorem antipodelaw19_Light.mono_l : ∀ k, (∀ y0 y1 y2 y3 y4 y5 y6, LeO (antipodelaw19_Light.f k y0 y1 y2 y3 y4 y5 y6) (antipodelaw19_Light.f (k + 1) y0 y1 y2 y3 y4 y5 y6)) ∧ (∀ y0 y1 y2 y3 y4 y5 y6 y7, LeO (antipodelaw19_Light.j0 k y0 y1 y2 y3 y4 y5 y6 y7) (antipodelaw19_Light.j0 (k + 1) y0 y1 y2 y3 y4 y5 y6 y7)) ∧ (∀ y0 y1 y2 y3 y4 y5 y6 y7, LeO (antipodelaw19_Light.l0 k y0 y1 y2 y3 y4 y5 y6 y7) (antipodelaw19_Light.l0 (k + 1) y0 y1 y2 y3 y4 y5 y6 y7))
 | 0 => ⟨fun _ _ _ _ _ _ _ r h => by simp [antipodelaw19_Light.f] at h, fun _ _ _ _ _ _ _ _ r h => by simp [antipodelaw19_Light.j0] at h, fun _ _ _ _ _ _ _ _ r h => by simp [antipodelaw19_Light.l0] at h⟩
 | k + 1 => by
  obtain ⟨ih0, ih1, ih2⟩ := antipodelaw19_Light.mono_l k
  refine ⟨?_, ?_, ?_⟩
  ·intro y0 y1 y2 y3 y4 y5 y6
   unfold antipodelaw19_Light.f
   repeat' first
   | (with_reducible exact ih0 _ _ _ _ _ _ _)
   | (with_reducible exact ih1 _ _ _ _ _ _ _ _)
   | (with_reducible exact ih2 _ _ _ _ _ _ _ _)
   | (with_reducible exact LeO.refl _)
   | (with_reducible exact LeO.none _)
   | (with_reducible refine LeO.ite ?_ ?_)
   | (with_reducible refine LeO.bind ?_ (fun _ => ?_))
   | exact ih0 _ _ _ _ _ _ _
   | exact ih1 _ _ _ _ _ _ _ _
   | exact ih2 _ _ _ _ _ _ _ _
   | exact LeO.none _
   | refine LeO.ite ?_ ?_
   | refine LeO.bind ?_ (fun _ => ?_)
  ·intro y0 y1 y2 y3 y4 y5 y6 y7
   unfold antipodelaw19_Light.j0
   repeat' first
   | (with_reducible exact ih0 _ _ _ _ _ _ _)
   | (with_reducible exact ih1 _ _ _ _ _ _ _ _)
   | (with_reducible exact ih2 _ _ _ _ _ _ _ _)
   | (with_reducible exact LeO.refl _)
   | (with_reducible exact LeO.none _)
   | (with_reducible refine LeO.ite ?_ ?_)
   | (with_reducible refine LeO.bind ?_ (fun _ => ?_))
   | exact ih0 _ _ _ _ _ _ _
   | exact ih1 _ _ _ _ _ _ _ _
   | exact ih2 _ _ _ _ _ _ _ _
   | exact LeO.none _
   | refine LeO.ite ?_ ?_
   | refine LeO.bind ?_ (fun _ => ?_)
  ·intro y0 y1 y2 y3 y4 y5 y6 y7
   unfold antipodelaw19_Light.l0
   repeat' first
   | (with_reducible exact ih0 _ _ _ _ _ _ _)
   | (with_reducible exact ih1 _ _ _ _ _ _ _ _)
   | (with_reducible exact ih2 _ _ _ _ _ _ _ _)
   | (with_reducible exact LeO.refl _)
   | (with_reducible exact LeO.none _)
   | (with_reducible refine LeO.ite ?_ ?_)
   | (with_reducible refine LeO.bind ?_ (fun _ => ?_))
   | exact ih0 _ _ _ _ _ _ _
   | exact ih1 _ _ _ _ _ _ _ _
   | exact ih2 _ _ _ _ _ _ _ _
   | exact LeO.none _
   | refine LeO.ite ?_ ?_
   | refine LeO.bind ?_ (fun _ => ?_)
theorem antipodelaw19_Light.mono : ∀ a0 a1 a2 a3 a4 a5 a6 k, LeO (antipodelaw19_Light.f k a0 a1 a2 a3 a4 a5 a6) (antipodelaw19_Light.f (k + 1) a0 a1 a2 a3 a4 a5 a6) := by
 intro a0 a1 a2 a3 a4 a5 a6 k
 obtain ⟨ih0, ih1, ih2⟩ := antipodelaw19_Light.mono_l k
 exact ih0 a0 a1 a2 a3 a4 a5 a6
set_option maxHeartbeats 8000000 in
set_option maxRecDepth 100000 in
theorem antipodelaw19_Light.calls (k : Nat) : ∀ (a0_0 : Int) (a0_1 : ByteArray) (a0_2 : Int) (a0_3 : Int) (a0_4 : ByteArray) (A0_5 : Option Addr) (c0_5 : Nat) (l0_5 : List (S26)) (a1 : Int) (r : Int) (w : World) (hr0_5 : Kd.C k26 w A0_5 l0_5.length l0_5) (hc0_5 : l0_5.length ≤ c0_5) (h : antipodelaw19_Light.f k a0_0 a0_1 a0_2 a0_3 a0_4 l0_5 a1 = some r),
  Calls Try.prog 11 #[.agg #[.int .i64 a0_0, .string a0_1, .int .i64 a0_2, .int .i64 a0_3, .string a0_4, .slice A0_5 l0_5.length c0_5], .int .i64 a1] w fun e w' => e = .returned (.int .i64 r) ∧ Below w.heap.size w w' := by
 induction k using Nat.strongRecOn with
 | _ k ih =>
 intro a0_0 a0_1 a0_2 a0_3 a0_4 A0_5 c0_5 l0_5 a1 r w hr0_5 hc0_5 h
 cases k with
 | zero => exact absurd h (by simp [antipodelaw19_Light.f])
 | succ k =>
 simp only [antipodelaw19_Light.f] at h
 have hu26 := Try.underlying26
 have HR0_5 := aM hr0_5
 have HC0_5 := aM hc0_5
 clear hr0_5 hc0_5
 have HB := aM (Below.refl w.heap.size w)
 have H : (if a1 ≤ 0 then (antipodelaw19_Light.j0 k a1 true a0_0 a0_1 a0_2 a0_3 a0_4 l0_5) else (if (a0_1.size : Int) > 100 then (antipodelaw19_Light.j0 k a1 true a0_0 a0_1 a0_2 a0_3 a0_4 l0_5) else (antipodelaw19_Light.j0 k a1 (decide ((a0_4.size : Int) > 200)) a0_0 a0_1 a0_2 a0_3 a0_4 l0_5))) = some r := h
 clear h
 have HC3 := aM H
 clear H
 go_enter Try.func11, Try.ntmps11
 go_upto_region 1 with (first | ((with_reducible refine gate_dst (N := 2) rfl ?_); (try (refine gate_guard (by rfl) ?_; dsimp only)); refine bE (N := 2) (cs := #[.int .i64 a0_0, .string a0_1, .int .i64 a0_2, .int .i64 a0_3, .string a0_4, .slice A0_5 l0_5.length c0_5]) (t := 26) ?_; intro gb331 hg w4 hbox hb; have n0_ := aM (below_step (lO HB) hb); have n1_ := aM (hbox); have n2_ := aM (gO hg (lO HB)); have n3_ := aM (gO hg (lO HB)); clear HB; have HB := n0_; have BK331 := n1_; have GW331 := n2_; have GE331 := n3_; clear n0_ n1_ n2_ n3_; clear hb hbox hg))
 (try simp only [Act.put, sA, sB, sC])
 go_cut [20] (fun v20 wc => ∃ (kq : Nat) (x20_2 : Bool), v20 = .bool x20_2 ∧ Aside0 (antipodelaw19_Light.j0 kq a1 x20_2 a0_0 a0_1 a0_2 a0_3 a0_4 l0_5 = some r) ∧ Aside0 (kq ≤ k) ∧ Aside0 (wc.heap[gb331]? = some (.cells #[.int .i64 a0_0, .string a0_1, .int .i64 a0_2, .int .i64 a0_3, .string a0_4, (.slice A0_5 l0_5.length c0_5)] 26 (0, 0))) ∧ Aside0 (Below w.heap.size w wc))
 case first =>
  have H := HC3.out
  clear HC3
  by_cases c5 : a1 ≤ 0
  ·rw [if_pos c5] at H
   have c5b0 : decide (a1 ≤ 0) = true := decide_eq_true c5
   clear c5
   (first | rw [c5b0] | (simp only [i64_w, i32_w]; rw [c5b0]) | skip)
   have H' := aM H
   clear H
   go_wp2
   go_meet
   case rel => exact ⟨_, (true), (by first | rfl | (simp; done) | (simp [*]; done)), H', ⟨by first | omega | exact Nat.le_refl _⟩, ⟨bO BK331⟩, ⟨(lO HB)⟩⟩
  ·rw [if_neg c5] at H
   have c5b0 : decide (a1 ≤ 0) = false := decide_eq_false c5
   clear c5
   (first | rw [c5b0] | (simp only [i64_w, i32_w]; rw [c5b0]) | skip)
   by_cases c6 : (a0_1.size : Int) > 100
   ·rw [if_pos c6] at H
    have c6b0 : decide (100 < (a0_1.size : Int)) = true := decide_eq_true c6
    have c6b1 : decide (100 < a0_1.size) = true := decide_eq_true (by omega)
    clear c6
    have H' := aM H
    clear H
    have C7_0 := c6_0 BK331
    have C7_1 := c6_1 BK331
    have C7_2 := c6_2 BK331
    have C7_3 := c6_3 BK331
    have C7_4 := c6_4 BK331
    have C7_5 := c6_5 BK331
    have F7_0 := fz BK331 0
    have F7_1 := fz BK331 1
    have F7_2 := fz BK331 2
    have F7_3 := fz BK331 3
    have F7_4 := fz BK331 4
    have F7_5 := fz BK331 5
    go_wp2
    go_meet
    case rel => exact ⟨_, (true), (by first | rfl | (simp; done) | (simp [*]; done)), H', ⟨by first | omega | exact Nat.le_refl _⟩, ⟨bO BK331⟩, ⟨(lO HB)⟩⟩
   ·rw [if_neg c6] at H
    have c6b0 : decide (100 < (a0_1.size : Int)) = false := decide_eq_false c6
    have c6b1 : decide (100 < a0_1.size) = false := decide_eq_false (by omega)
    clear c6
    have H' := aM H
    clear H
    have C8_0 := c6_0 BK331
    have C8_1 := c6_1 BK331
    have C8_2 := c6_2 BK331
    have C8_3 := c6_3 BK331
    have C8_4 := c6_4 BK331
    have C8_5 := c6_5 BK331
    have F8_0 := fz BK331 0
    have F8_1 := fz BK331 1
    have F8_2 := fz BK331 2
    have F8_3 := fz BK331 3
    have F8_4 := fz BK331 4
    have F8_5 := fz BK331 5
    go_wp2
    go_meet
    case rel => exact ⟨_, (decide ((a0_4.size : Int) > 200)), (by first | rfl | (simp; done) | (simp [*]; done)), H', ⟨by first | omega | exact Nat.le_refl _⟩, ⟨bO BK331⟩, ⟨(lO HB)⟩⟩
 case rest =>
  clear HC3
  try clear c1
  try clear p2
  try clear c5
  try clear c5b0
  try clear c6
  try clear c6b0
  try clear c6b1
  try clear C7_0
  try clear C7_1
  try clear C7_2
  try clear C7_3
  try clear C7_4
  try clear C7_5
  try clear C8_0
  try clear C8_1
  try clear C8_2
  try clear C8_3
  try clear C8_4
  try clear C8_5
  try clear F7_0
  try clear F7_1
  try clear F7_2
  try clear F7_3
  try clear F7_4
  try clear F7_5
  try clear F8_0
  try clear F8_1
  try clear F8_2
  try clear F8_3
  try clear F8_4
  try clear F8_5
  obtain ⟨kq, x20_2, rfl, HA, HJ2, BK331, HB⟩ := hcut
  cases kq with
  | zero => exact absurd HA.out (by simp [antipodelaw19_Light.j0])
  | succ kj2 =>
   have H := HA.out
   clear HA
   simp only [antipodelaw19_Light.j0] at H
   by_cases c9 : x20_2 = true
   ·subst c9
    have H1 : (some 0) = some r := by rw [if_pos rfl] at H; exact H
    clear H
    have H := H1
    clear H1
    obtain rfl := Option.some.inj H
    go_wp2
    go_ret
    exact ⟨by first | rfl | (simp [errW_none, errW_some] <;> rfl) | (simp [*, errW_none, errW_some] <;> rfl), (lO HB)⟩
   ·replace c9 := Bool.eq_false_iff.mpr c9
    subst c9
    have H1 : (antipodelaw19_Light.l0 kj2 (wrap64 (a1 - 1)) 0 a0_0 a0_1 a0_2 a0_3 a0_4 l0_5) = some r := by rw [if_neg (show ¬ (false = true) by decide)] at H; exact H
    clear H
    have H := H1
    clear H1
    have H' := aM H
    clear H
    go_wp2
    go_loopg [1, 5] kj2 (fun kq v1 v5 w' => ∃ (x1_2 : Int) (x5_2 : Int), v1 = .int .i64 x1_2 ∧ v5 = .int .i64 x5_2 ∧ Aside0 (antipodelaw19_Light.l0 kq x1_2 x5_2 a0_0 a0_1 a0_2 a0_3 a0_4 l0_5 = some r) ∧ Aside0 (kq ≤ kj2) ∧ Aside0 (w'.heap[gb331]? = some (.cells #[.int .i64 a0_0, .string a0_1, .int .i64 a0_2, .int .i64 a0_3, .string a0_4, (.slice A0_5 l0_5.length c0_5)] 26 (0, 0))) ∧ Aside0 (Below w.heap.size w w'))
    case atStart => exact ⟨(wrap64 (a1 - 1)), (0), (by first | rfl | (simp; done) | (simp [*]; done)), (by first | rfl | (simp; done) | (simp [*]; done)), H', ⟨Nat.le_refl _⟩, ⟨bO BK331⟩, ⟨(lO HB)⟩⟩
    case round =>
     clear H'
     try clear c1
     try clear p2
     try clear c5
     try clear c5b0
     try clear c6
     try clear c6b0
     try clear c6b1
     try clear p6
     try clear c9
     try clear C7_0
     try clear C7_1
     try clear C7_2
     try clear C7_3
     try clear C7_4
     try clear C7_5
     try clear C8_0
     try clear C8_1
     try clear C8_2
     try clear C8_3
     try clear C8_4
     try clear C8_5
     try clear F7_0
     try clear F7_1
     try clear F7_2
     try clear F7_3
     try clear F7_4
     try clear F7_5
     try clear F8_0
     try clear F8_1
     try clear F8_2
     try clear F8_3
     try clear F8_4
     try clear F8_5
     try clear p2
     obtain ⟨x1_2, x5_2, rfl, rfl, HA, HK2, BK331, HB⟩ := hrel
     cases gk with
     | zero => exact absurd HA.out (by simp [antipodelaw19_Light.l0])
     | succ k2 =>
      have H := HA.out
      clear HA
      simp only [antipodelaw19_Light.l0] at H
      by_cases c10 : x5_2 < (l0_5.length : Int)
      ·rw [if_pos c10] at H
       have c10b0 : decide (x5_2 < (l0_5.length : Int)) = true := decide_eq_true c10
       clear c10
       by_cases c11 : x1_2 > 0
       ·rw [if_pos c11] at H
        have c11b0 : decide (0 < x1_2) = true := decide_eq_true c11
        clear c11
        by_cases c12 : 0 ≤ x5_2
        ·rw [if_pos c12] at H
         have c12b0 : decide (0 ≤ x5_2) = true := decide_eq_true c12
         clear c12
         replace H := Option.bind_eq_some_iff.mp H
         obtain ⟨t333, A130, H⟩ := H
         replace H : (antipodelaw19_Light.l0 k2 t333 (wrap64 (x5_2 + 1)) a0_0 a0_1 a0_2 a0_3 a0_4 l0_5) = some r := H
         have A13 := aM A130
         clear A130
         have H' := aM H
         clear H
         have C14_0 := c6_0 BK331
         have C14_1 := c6_1 BK331
         have C14_2 := c6_2 BK331
         have C14_3 := c6_3 BK331
         have C14_4 := c6_4 BK331
         have C14_5 := c6_5 BK331
         have F14_0 := fz BK331 0
         have F14_1 := fz BK331 1
         have F14_2 := fz BK331 2
         have F14_3 := fz BK331 3
         have F14_4 := fz BK331 4
         have F14_5 := fz BK331 5
         have p332 : 0 ≤ (x5_2 : Int) := of_decide_eq_true (by first | (with_reducible assumption) | assumption)
         have q332 : x5_2 < (l0_5.length : Int) := of_decide_eq_true (by first | (with_reducible assumption) | assumption)
         obtain ⟨ad332, A332_5, c332_5, e332, hx332_0, hx332_1, hx332_2, hx332_3, hx332_4, hx332_5, hl332_5, hi332_5⟩ := at_T26 HR0_5.out x5_2 p332 q332
         cases e332
         replace hx332_0 := (HB.out.cell (World.block_lt_of_cell? w _ hx332_0)).trans hx332_0
         replace hx332_1 := (HB.out.cell (World.block_lt_of_cell? w _ hx332_1)).trans hx332_1
         replace hx332_2 := (HB.out.cell (World.block_lt_of_cell? w _ hx332_2)).trans hx332_2
         replace hx332_3 := (HB.out.cell (World.block_lt_of_cell? w _ hx332_3)).trans hx332_3
         replace hx332_4 := (HB.out.cell (World.block_lt_of_cell? w _ hx332_4)).trans hx332_4
         replace hx332_5 := (HB.out.cell (World.block_lt_of_cell? w _ hx332_5)).trans hx332_5
         have HR332_5 := aM hi332_5
         have HC332_5 := aM hl332_5
         clear hi332_5 hl332_5
         replace p332 := eq_true p332
         replace q332 := eq_true q332
         go_wp2_with (first | ((with_reducible refine gate_callee (f := 11) rfl ?_); refine gL (some 40) rfl rfl Try.func11 (by kernel_rfl) rfl #[.agg #[.int .i64 ((rd_T26 l0_5 x5_2).f0), .string ((rd_T26 l0_5 x5_2).f1), .int .i64 ((rd_T26 l0_5 x5_2).f2.f0), .int .i64 ((rd_T26 l0_5 x5_2).f2.f1), .string ((rd_T26 l0_5 x5_2).f2.f2), .slice A332_5 ((rd_T26 l0_5 x5_2).f3).length c332_5], .int .i64 x1_2] rfl ?_; (with_reducible refine (ih k2 (by have := HJ2.out; have := HK2.out; omega) ((rd_T26 l0_5 x5_2).f0) ((rd_T26 l0_5 x5_2).f1) ((rd_T26 l0_5 x5_2).f2.f0) ((rd_T26 l0_5 x5_2).f2.f1) ((rd_T26 l0_5 x5_2).f2.f2) _ _ ((rd_T26 l0_5 x5_2).f3) x1_2 t333 _ ?side1 ?side2 A13.out).mono ?_); (case side1 => exact cO (Kd.C_below HR332_5.out HB.out)); (case side2 => exact HC332_5.out); rintro e w15 ⟨rfl, hb⟩; refine ⟨_, rfl, ?_⟩; have n0_ := aM (blk_below (bO BK331) hb); have n1_ := aM (below_step (lO HB) hb); clear BK331; clear HB; have BK331 := n0_; have HB := n1_; clear n0_ n1_; (try clear hb); (try clear hb2); (try clear hk); (try clear hi)))
         go_roundg k2
         case measure => have := HJ2.out; have := HK2.out; omega
         case rel => exact ⟨(t333), (wrap64 (x5_2 + 1)), (by first | rfl | (simp; done) | (simp [*]; done)), (by first | rfl | (simp; done) | (simp [*]; done)), H', ⟨by have := HJ2.out; have := HK2.out; omega⟩, ⟨bO BK331⟩, ⟨(lO HB)⟩⟩
        ·rw [if_neg c12] at H
         exact absurd H (by simp)
       ·rw [if_neg c11] at H
        have c11b0 : decide (0 < x1_2) = false := decide_eq_false c11
        clear c11
        obtain rfl := Option.some.inj H
        have C16_0 := c6_0 BK331
        have C16_1 := c6_1 BK331
        have C16_2 := c6_2 BK331
        have C16_3 := c6_3 BK331
        have C16_4 := c6_4 BK331
        have C16_5 := c6_5 BK331
        have F16_0 := fz BK331 0
        have F16_1 := fz BK331 1
        have F16_2 := fz BK331 2
        have F16_3 := fz BK331 3
        have F16_4 := fz BK331 4
        have F16_5 := fz BK331 5
        go_wp2
        go_ret
        exact ⟨by first | rfl | (simp [errW_none, errW_some] <;> rfl) | (simp [*, errW_none, errW_some] <;> rfl), (lO HB)⟩
      ·rw [if_neg c10] at H
       have c10b0 : decide (x5_2 < (l0_5.length : Int)) = false := decide_eq_false c10
       clear c10
       obtain rfl := Option.some.inj H
       have C17_0 := c6_0 BK331
       have C17_1 := c6_1 BK331
       have C17_2 := c6_2 BK331
       have C17_3 := c6_3 BK331
       have C17_4 := c6_4 BK331
       have C17_5 := c6_5 BK331
       have F17_0 := fz BK331 0
       have F17_1 := fz BK331 1
       have F17_2 := fz BK331 2
       have F17_3 := fz BK331 3
       have F17_4 := fz BK331 4
       have F17_5 := fz BK331 5
       go_wp2
       go_ret
       exact ⟨by first | rfl | (simp [errW_none, errW_some] <;> rfl) | (simp [*, errW_none, errW_some] <;> rfl), (lO HB)⟩

end Go.Proofs.Ytpmecpmankpcbaa.PK
