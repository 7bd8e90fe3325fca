/- Go functions of the program as plain functions, and that each call comes to them. Written by a program of this session (hprint.py) on the kit's print. No conditions. -/
import Derived.Test.YtpmecpmankpcbaaPKx0
import Derived.Test.YtpmecpmankpcbaaPKx1
import Derived.Test.YtpmecpmankpcbaaPKx4
import Derived.Test.YtpmecpmankpcbaaPKx5
import Derived.Test.YtpmecpmankpcbaaPKx7
import Derived.Test.YtpmecpmankpcbaaSq
namespace Go.Proofs.Ytpmecpmankpcbaa.PK
open Go.RowKit Go.Proofs.YtpmecpmankpcbaaW.PrintWords Go.Proofs.YtpmecpmankpcbaaW.PrintLast Go.Proofs.YtpmecpmankpcbaaW.PrintMore Go.Proofs.Ytpmecpmankpcbaa.Sq
set_option linter.unusedVariables false
set_option linter.unusedSimpArgs false

attribute [local go_sem high] eqA23
/-! ### expr_typed: function 25 -/
mutual
def expr_typed.l0 : Nat → List Int → List (S26) → Int → Int → ByteArray → List (S57) → Int → Int → Int → List Int → List Int → List Int → Int → Int → Int → Int → ByteArray → Int → Int → ByteArray → List (S26) → Option (Int × Int)
 | 0, _, _, _, _, _, _, _, _, _, _, _, _, _, _, _, _, _, _, _, _, _ => none
 | k + 1, x7, x61, x62, x63, x108000, x108001, x108002, x108003, x108004, x108005, x108006, x108007, x108008, x108009, x108010, x109000, x109001, x109002, x109003, x109004, x109005 => if x63 < x62 then (if 0 ≤ x63 then (if x63 < (x61.length : Int) then ((expr_typed.f k x108000 x108001 x108002 x108003 x108004 x108005 x108006 x108007 x108008 x108009 x108010 ((rd_T26 x61 x63).f0) ((rd_T26 x61 x63).f1) ((rd_T26 x61 x63).f2.f0) ((rd_T26 x61 x63).f2.f1) ((rd_T26 x61 x63).f2.f2) ((rd_T26 x61 x63).f3)).bind fun bt114 => (if bt114.2 = 0 then (if x7.length < 17592186044416 then (expr_typed.l0 k (x7 ++ [bt114.1]) x61 x62 (wrap64 (x63 + 1)) x108000 x108001 x108002 x108003 x108004 x108005 x108006 x108007 x108008 x108009 x108010 x109000 x109001 x109002 x109003 x109004 x109005) else (none)) else (some (0, bt114.2)))) else (none)) else (none)) else (if (!(x109002 == 0) || (!(x109003 == 0) || (!(x109004.toList == ([] : List UInt8))))) = true then (some (0, 9)) else ((expr_operator.f x109001 x7).bind fun bt119 => (some (bt119.1, bt119.2))))
def expr_typed.f : Nat → ByteArray → List (S57) → Int → Int → Int → List Int → List Int → List Int → Int → Int → Int → Int → ByteArray → Int → Int → ByteArray → List (S26) → Option (Int × Int)
 | 0, _, _, _, _, _, _, _, _, _, _, _, _, _, _, _, _, _ => none
 | k + 1, a0_0, l0_1, a0_2, a0_3, a0_4, l0_5, l0_6, l0_7, a0_8, a0_9, a0_10, a1_0, a1_1, a1_2, a1_3, a1_4, l1_5 => if a1_0 = 1 then (if a1_1.toList = ([] : List UInt8) then (if (l1_5.length : Int) > 0 then (some (0, 9)) else ((value_May.f a1_2 a1_3 a1_4).bind fun t109 => (if t109 = true then (some (a1_2, 0)) else (some (0, 9))))) else (some (0, 9))) else (if a1_0 = 2 then ((schema_Col.f a0_0 l0_1 a0_2 a0_3 a0_4 l0_5 l0_6 l0_7 a0_8 a0_9 a0_10 a1_1).bind fun t110 => (if t110 < 0 then (some (0, 14)) else (if (l1_5.length : Int) > 0 then (some (0, 9)) else (if (!(a1_2 == 0) || (!(a1_3 == 0) || (!(a1_4.toList == ([] : List UInt8))))) = true then (some (0, 9)) else (if 0 ≤ t110 then (if t110 < (l0_1.length : Int) then (some ((rd_T57 l0_1 t110).f1, 0)) else (none)) else (none)))))) else (if a1_0 = 3 then (expr_typed.l0 k ([] : List Int) l1_5 (l1_5.length : Int) 0 a0_0 l0_1 a0_2 a0_3 a0_4 l0_5 l0_6 l0_7 a0_8 a0_9 a0_10 a1_0 a1_1 a1_2 a1_3 a1_4 l1_5) else (some (0, 9))))
end
theorem expr_typed.mono_l : ∀ k, (∀ y0 y1 y2 y3 y4 y5 y6 y7 y8 y9 y10 y11 y12 y13 y14 y15 y16, LeO (expr_typed.f k y0 y1 y2 y3 y4 y5 y6 y7 y8 y9 y10 y11 y12 y13 y14 y15 y16) (expr_typed.f (k + 1) y0 y1 y2 y3 y4 y5 y6 y7 y8 y9 y10 y11 y12 y13 y14 y15 y16)) ∧ (∀ y0 y1 y2 y3 y4 y5 y6 y7 y8 y9 y10 y11 y12 y13 y14 y15 y16 y17 y18 y19 y20, LeO (expr_typed.l0 k y0 y1 y2 y3 y4 y5 y6 y7 y8 y9 y10 y11 y12 y13 y14 y15 y16 y17 y18 y19 y20) (expr_typed.l0 (k + 1) y0 y1 y2 y3 y4 y5 y6 y7 y8 y9 y10 y11 y12 y13 y14 y15 y16 y17 y18 y19 y20))
 | 0 => ⟨fun _ _ _ _ _ _ _ _ _ _ _ _ _ _ _ _ _ r h => by simp [expr_typed.f] at h, fun _ _ _ _ _ _ _ _ _ _ _ _ _ _ _ _ _ _ _ _ _ r h => by simp [expr_typed.l0] at h⟩
 | k + 1 => by
  obtain ⟨ih0, ih1⟩ := expr_typed.mono_l k
  refine ⟨?_, ?_⟩
  ·intro y0 y1 y2 y3 y4 y5 y6 y7 y8 y9 y10 y11 y12 y13 y14 y15 y16
   unfold expr_typed.f
   repeat' first
   | (with_reducible exact ih0 _ _ _ _ _ _ _ _ _ _ _ _ _ _ _ _ _)
   | (with_reducible exact ih1 _ _ _ _ _ _ _ _ _ _ _ _ _ _ _ _ _ _ _ _ _)
   | (with_reducible exact LeO.refl _)
   | (with_reducible exact LeO.none _)
   | (with_reducible refine LeO.ite ?_ ?_)
   | (with_reducible refine LeO.bind ?_ (fun _ => ?_))
   | exact ih0 _ _ _ _ _ _ _ _ _ _ _ _ _ _ _ _ _
   | exact ih1 _ _ _ _ _ _ _ _ _ _ _ _ _ _ _ _ _ _ _ _ _
   | exact LeO.none _
   | refine LeO.ite ?_ ?_
   | refine LeO.bind ?_ (fun _ => ?_)
  ·intro y0 y1 y2 y3 y4 y5 y6 y7 y8 y9 y10 y11 y12 y13 y14 y15 y16 y17 y18 y19 y20
   unfold expr_typed.l0
   repeat' first
   | (with_reducible exact ih0 _ _ _ _ _ _ _ _ _ _ _ _ _ _ _ _ _)
   | (with_reducible exact ih1 _ _ _ _ _ _ _ _ _ _ _ _ _ _ _ _ _ _ _ _ _)
   | (with_reducible exact LeO.refl _)
   | (with_reducible exact LeO.none _)
   | (with_reducible refine LeO.ite ?_ ?_)
   | (with_reducible refine LeO.bind ?_ (fun _ => ?_))
   | exact ih0 _ _ _ _ _ _ _ _ _ _ _ _ _ _ _ _ _
   | exact ih1 _ _ _ _ _ _ _ _ _ _ _ _ _ _ _ _ _ _ _ _ _
   | exact LeO.none _
   | refine LeO.ite ?_ ?_
   | refine LeO.bind ?_ (fun _ => ?_)
theorem expr_typed.mono : ∀ a0 a1 a2 a3 a4 a5 a6 a7 a8 a9 a10 a11 a12 a13 a14 a15 a16 k, LeO (expr_typed.f k a0 a1 a2 a3 a4 a5 a6 a7 a8 a9 a10 a11 a12 a13 a14 a15 a16) (expr_typed.f (k + 1) a0 a1 a2 a3 a4 a5 a6 a7 a8 a9 a10 a11 a12 a13 a14 a15 a16) := by
 intro a0 a1 a2 a3 a4 a5 a6 a7 a8 a9 a10 a11 a12 a13 a14 a15 a16 k
 obtain ⟨ih0, ih1⟩ := expr_typed.mono_l k
 exact ih0 a0 a1 a2 a3 a4 a5 a6 a7 a8 a9 a10 a11 a12 a13 a14 a15 a16
set_option maxHeartbeats 8000000 in
set_option maxRecDepth 100000 in
theorem expr_typed.calls (k : Nat) : ∀ (a0_0 : ByteArray) (A0_1 : Option Addr) (c0_1 : Nat) (l0_1 : List (S57)) (a0_2 : Int) (a0_3 : Int) (a0_4 : Int) (A0_5 : Option Addr) (c0_5 : Nat) (l0_5 : List Int) (A0_6 : Option Addr) (c0_6 : Nat) (l0_6 : List Int) (A0_7 : Option Addr) (c0_7 : Nat) (l0_7 : List Int) (a0_8 : Int) (a0_9 : Int) (a0_10 : Int) (a1_0 : Int) (a1_1 : ByteArray) (a1_2 : Int) (a1_3 : Int) (a1_4 : ByteArray) (A1_5 : Option Addr) (c1_5 : Nat) (l1_5 : List (S26)) (r1 : Int) (r2 : Int) (w : World) (hr0_1 : Kd.C k57 w A0_1 l0_1.length l0_1) (hc0_1 : l0_1.length ≤ c0_1) (hr0_5 : Kd.C (Kd.int .i64) w A0_5 l0_5.length l0_5) (hc0_5 : l0_5.length ≤ c0_5) (hr0_6 : Kd.C (Kd.int .i64) w A0_6 l0_6.length l0_6) (hc0_6 : l0_6.length ≤ c0_6) (hr0_7 : Kd.C (Kd.int .i64) w A0_7 l0_7.length l0_7) (hc0_7 : l0_7.length ≤ c0_7) (hr1_5 : Kd.C k26 w A1_5 l1_5.length l1_5) (hc1_5 : l1_5.length ≤ c1_5) (h : expr_typed.f k a0_0 l0_1 a0_2 a0_3 a0_4 l0_5 l0_6 l0_7 a0_8 a0_9 a0_10 a1_0 a1_1 a1_2 a1_3 a1_4 l1_5 = some (r1, r2)),
  Calls Try.prog 25 #[.agg #[.string a0_0, .slice A0_1 l0_1.length c0_1, .int .i64 a0_2, .int .i64 a0_3, .int .i64 a0_4, .slice A0_5 l0_5.length c0_5, .slice A0_6 l0_6.length c0_6, .slice A0_7 l0_7.length c0_7, .int .i64 a0_8, .int .i64 a0_9, .int .i64 a0_10], .agg #[.int .i64 a1_0, .string a1_1, .int .i64 a1_2, .int .i64 a1_3, .string a1_4, .slice A1_5 l1_5.length c1_5]] w fun e w' => e = .returned (.tuple #[.int .i64 r1, .int .i64 r2]) ∧ Below w.heap.size w w' := by
 induction k using Nat.strongRecOn with
 | _ k ih =>
 intro a0_0 A0_1 c0_1 l0_1 a0_2 a0_3 a0_4 A0_5 c0_5 l0_5 A0_6 c0_6 l0_6 A0_7 c0_7 l0_7 a0_8 a0_9 a0_10 a1_0 a1_1 a1_2 a1_3 a1_4 A1_5 c1_5 l1_5 r1 r2 w hr0_1 hc0_1 hr0_5 hc0_5 hr0_6 hc0_6 hr0_7 hc0_7 hr1_5 hc1_5 h
 cases k with
 | zero => exact absurd h (by simp [expr_typed.f])
 | succ k =>
 simp only [expr_typed.f] at h
 have hu32 := Try.underlying32
 have hu26 := Try.underlying26
 have hu23 := Try.underlying23
 have HR0_1 := aM hr0_1
 have HC0_1 := aM hc0_1
 clear hr0_1 hc0_1
 have HR0_5 := aM hr0_5
 have HC0_5 := aM hc0_5
 clear hr0_5 hc0_5
 have HR0_6 := aM hr0_6
 have HC0_6 := aM hc0_6
 clear hr0_6 hc0_6
 have HR0_7 := aM hr0_7
 have HC0_7 := aM hc0_7
 clear hr0_7 hc0_7
 have HR1_5 := aM hr1_5
 have HC1_5 := aM hc1_5
 clear hr1_5 hc1_5
 have HB := aM (Below.refl w.heap.size w)
 have H : (if a1_0 = 1 then (if a1_1.toList = ([] : List UInt8) then (if (l1_5.length : Int) > 0 then (some (0, 9)) else ((value_May.f a1_2 a1_3 a1_4).bind fun t109 => (if t109 = true then (some (a1_2, 0)) else (some (0, 9))))) else (some (0, 9))) else (if a1_0 = 2 then ((schema_Col.f a0_0 l0_1 a0_2 a0_3 a0_4 l0_5 l0_6 l0_7 a0_8 a0_9 a0_10 a1_1).bind fun t110 => (if t110 < 0 then (some (0, 14)) else (if (l1_5.length : Int) > 0 then (some (0, 9)) else (if (!(a1_2 == 0) || (!(a1_3 == 0) || (!(a1_4.toList == ([] : List UInt8))))) = true then (some (0, 9)) else (if 0 ≤ t110 then (if t110 < (l0_1.length : Int) then (some ((rd_T57 l0_1 t110).f1, 0)) else (none)) else (none)))))) else (if a1_0 = 3 then (expr_typed.l0 k ([] : List Int) l1_5 (l1_5.length : Int) 0 a0_0 l0_1 a0_2 a0_3 a0_4 l0_5 l0_6 l0_7 a0_8 a0_9 a0_10 a1_0 a1_1 a1_2 a1_3 a1_4 l1_5) else (some (0, 9))))) = some (r1, r2) := h
 clear h
 by_cases c3 : a1_0 = 1
 ·rw [if_pos c3] at H
  have c3b0 : (a1_0 == 1) = true := beq_iff_eq.mpr c3
  have c3b1 : (a1_0 != 1) = false := bne_eq_false_iff_eq.mpr c3
  clear c3
  by_cases c4 : a1_1.toList = ([] : List UInt8)
  ·rw [if_pos c4] at H
   have c4b0 : (a1_1.toList == ([] : List UInt8)) = true := beq_iff_eq.mpr c4
   have c4b1 : (a1_1.toList != ([] : List UInt8)) = false := bne_eq_false_iff_eq.mpr c4
   clear c4
   by_cases c5 : (l1_5.length : Int) > 0
   ·rw [if_pos c5] at H
    have c5b0 : decide (0 < (l1_5.length : Int)) = true := decide_eq_true c5
    have c5b1 : decide (0 < l1_5.length) = true := decide_eq_true (by omega)
    clear c5
    simp only [Option.some.injEq, Prod.mk.injEq] at H
    obtain ⟨rfl, rfl⟩ := H
    go_enter Try.func25, Try.ntmps25
    go_wp2_with (first | ((with_reducible refine gate_dst (N := 2) rfl ?_); (try (refine gate_guard (by rfl) ?_; dsimp only)); refine bE (N := 2) (cs := #[.string a0_0, .slice A0_1 l0_1.length c0_1, .int .i64 a0_2, .int .i64 a0_3, .int .i64 a0_4, .slice A0_5 l0_5.length c0_5, .slice A0_6 l0_6.length c0_6, .slice A0_7 l0_7.length c0_7, .int .i64 a0_8, .int .i64 a0_9, .int .i64 a0_10]) (t := 32) ?_; intro gb107 hg w6 hbox hb; have n0_ := aM (below_step (lO HB) hb); have n1_ := aM (hbox); have n2_ := aM (gO hg (lO HB)); have n3_ := aM (gO hg (lO HB)); clear HB; have HB := n0_; have BK107 := n1_; have GW107 := n2_; have GE107 := n3_; clear n0_ n1_ n2_ n3_; clear hb hbox hg) | ((with_reducible refine gate_dst (N := 3) rfl ?_); (try (refine gate_guard (by rfl) ?_; dsimp only)); refine bE (N := 3) (cs := #[.int .i64 a1_0, .string a1_1, .int .i64 a1_2, .int .i64 a1_3, .string a1_4, .slice A1_5 l1_5.length c1_5]) (t := 26) ?_; intro gb108 hg w7 hbox hb; have n0_ := aM (blk_below (bO BK107) hb); have n1_ := aM (below_step (lO HB) hb); have n2_ := aM (hbox); have n3_ := aM (gO hg (lO HB)); have n4_ := aM (gO hg (lO HB)); have n5_ := aM (ne_lt hg (bO BK107)); have n6_ := aM (ne_gt hg (bO BK107)); clear BK107; clear HB; have BK107 := n0_; have HB := n1_; have BK108 := n2_; have GW108 := n3_; have GE108 := n4_; have NB107_108 := n5_; have NB108_107 := n6_; clear n0_ n1_ n2_ n3_ n4_ n5_ n6_; clear hb hbox hg; have hnb8 := NB108_107.out; have hnc8 := NB107_108.out; have C9_0 := c6_0 BK108; have C9_1 := c6_1 BK108; have C9_2 := c6_2 BK108; have C9_3 := c6_3 BK108; have C9_4 := c6_4 BK108; have C9_5 := c6_5 BK108; have F9_0 := fz BK108 0; have F9_1 := fz BK108 1; have F9_2 := fz BK108 2; have F9_3 := fz BK108 3; have F9_4 := fz BK108 4; have F9_5 := fz BK108 5))
    go_ret2
    exact ⟨by first | rfl | (simp [errW_none, errW_some] <;> rfl) | (simp [*, errW_none, errW_some] <;> rfl), (lO HB)⟩
   ·rw [if_neg c5] at H
    have c5b0 : decide (0 < (l1_5.length : Int)) = false := decide_eq_false c5
    have c5b1 : decide (0 < l1_5.length) = false := decide_eq_false (by omega)
    clear c5
    replace H := Option.bind_eq_some_iff.mp H
    obtain ⟨t109, A100, H⟩ := H
    replace H : (if t109 = true then (some (a1_2, 0)) else (some (0, 9))) = some (r1, r2) := H
    have A10 := aM A100
    clear A100
    by_cases c11 : t109 = true
    ·subst c11
     have H1 : (some (a1_2, 0)) = some (r1, r2) := by rw [if_pos rfl] at H; exact H
     clear H
     have H := H1
     clear H1
     simp only [Option.some.injEq, Prod.mk.injEq] at H
     obtain ⟨rfl, rfl⟩ := H
     go_enter Try.func25, Try.ntmps25
     go_wp2_with (first | ((with_reducible refine gate_dst (N := 2) rfl ?_); (try (refine gate_guard (by rfl) ?_; dsimp only)); refine bE (N := 2) (cs := #[.string a0_0, .slice A0_1 l0_1.length c0_1, .int .i64 a0_2, .int .i64 a0_3, .int .i64 a0_4, .slice A0_5 l0_5.length c0_5, .slice A0_6 l0_6.length c0_6, .slice A0_7 l0_7.length c0_7, .int .i64 a0_8, .int .i64 a0_9, .int .i64 a0_10]) (t := 32) ?_; intro gb107 hg w12 hbox hb; have n0_ := aM (below_step (lO HB) hb); have n1_ := aM (hbox); have n2_ := aM (gO hg (lO HB)); have n3_ := aM (gO hg (lO HB)); clear HB; have HB := n0_; have BK107 := n1_; have GW107 := n2_; have GE107 := n3_; clear n0_ n1_ n2_ n3_; clear hb hbox hg) | ((with_reducible refine gate_dst (N := 3) rfl ?_); (try (refine gate_guard (by rfl) ?_; dsimp only)); refine bE (N := 3) (cs := #[.int .i64 a1_0, .string a1_1, .int .i64 a1_2, .int .i64 a1_3, .string a1_4, .slice A1_5 l1_5.length c1_5]) (t := 26) ?_; intro gb108 hg w13 hbox hb; have n0_ := aM (blk_below (bO BK107) hb); have n1_ := aM (below_step (lO HB) hb); have n2_ := aM (hbox); have n3_ := aM (gO hg (lO HB)); have n4_ := aM (gO hg (lO HB)); have n5_ := aM (ne_lt hg (bO BK107)); have n6_ := aM (ne_gt hg (bO BK107)); clear BK107; clear HB; have BK107 := n0_; have HB := n1_; have BK108 := n2_; have GW108 := n3_; have GE108 := n4_; have NB107_108 := n5_; have NB108_107 := n6_; clear n0_ n1_ n2_ n3_ n4_ n5_ n6_; clear hb hbox hg; have hnb14 := NB108_107.out; have hnc14 := NB107_108.out; have C15_0 := c6_0 BK108; have C15_1 := c6_1 BK108; have C15_2 := c6_2 BK108; have C15_3 := c6_3 BK108; have C15_4 := c6_4 BK108; have C15_5 := c6_5 BK108; have F15_0 := fz BK108 0; have F15_1 := fz BK108 1; have F15_2 := fz BK108 2; have F15_3 := fz BK108 3; have F15_4 := fz BK108 4; have F15_5 := fz BK108 5) | (go_at_call 28; (with_reducible refine (value_May.calls a1_2 a1_3 a1_4 true _ A10.out).mono ?_); rintro e w16 ⟨rfl, hb⟩; have n0_ := aM (blk_below (bO BK107) hb); have n1_ := aM (blk_below (bO BK108) hb); have n2_ := aM (below_step (lO HB) hb); clear BK107; clear BK108; clear HB; have BK107 := n0_; have BK108 := n1_; have HB := n2_; clear n0_ n1_ n2_; (try clear hb); (try clear hb2); (try clear hk); (try clear hi); have C17_0 := c6_0 BK108; have C17_1 := c6_1 BK108; have C17_2 := c6_2 BK108; have C17_3 := c6_3 BK108; have C17_4 := c6_4 BK108; have C17_5 := c6_5 BK108; have F17_0 := fz BK108 0; have F17_1 := fz BK108 1; have F17_2 := fz BK108 2; have F17_3 := fz BK108 3; have F17_4 := fz BK108 4; have F17_5 := fz BK108 5))
     go_ret2
     exact ⟨by first | rfl | (simp [errW_none, errW_some] <;> rfl) | (simp [*, errW_none, errW_some] <;> rfl), (lO HB)⟩
    ·replace c11 := Bool.eq_false_iff.mpr c11
     subst c11
     have H1 : (some (0, 9)) = some (r1, r2) := by rw [if_neg (show ¬ (false = true) by decide)] at H; exact H
     clear H
     have H := H1
     clear H1
     simp only [Option.some.injEq, Prod.mk.injEq] at H
     obtain ⟨rfl, rfl⟩ := H
     go_enter Try.func25, Try.ntmps25
     go_wp2_with (first | ((with_reducible refine gate_dst (N := 2) rfl ?_); (try (refine gate_guard (by rfl) ?_; dsimp only)); refine bE (N := 2) (cs := #[.string a0_0, .slice A0_1 l0_1.length c0_1, .int .i64 a0_2, .int .i64 a0_3, .int .i64 a0_4, .slice A0_5 l0_5.length c0_5, .slice A0_6 l0_6.length c0_6, .slice A0_7 l0_7.length c0_7, .int .i64 a0_8, .int .i64 a0_9, .int .i64 a0_10]) (t := 32) ?_; intro gb107 hg w18 hbox hb; have n0_ := aM (below_step (lO HB) hb); have n1_ := aM (hbox); have n2_ := aM (gO hg (lO HB)); have n3_ := aM (gO hg (lO HB)); clear HB; have HB := n0_; have BK107 := n1_; have GW107 := n2_; have GE107 := n3_; clear n0_ n1_ n2_ n3_; clear hb hbox hg) | ((with_reducible refine gate_dst (N := 3) rfl ?_); (try (refine gate_guard (by rfl) ?_; dsimp only)); refine bE (N := 3) (cs := #[.int .i64 a1_0, .string a1_1, .int .i64 a1_2, .int .i64 a1_3, .string a1_4, .slice A1_5 l1_5.length c1_5]) (t := 26) ?_; intro gb108 hg w19 hbox hb; have n0_ := aM (blk_below (bO BK107) hb); have n1_ := aM (below_step (lO HB) hb); have n2_ := aM (hbox); have n3_ := aM (gO hg (lO HB)); have n4_ := aM (gO hg (lO HB)); have n5_ := aM (ne_lt hg (bO BK107)); have n6_ := aM (ne_gt hg (bO BK107)); clear BK107; clear HB; have BK107 := n0_; have HB := n1_; have BK108 := n2_; have GW108 := n3_; have GE108 := n4_; have NB107_108 := n5_; have NB108_107 := n6_; clear n0_ n1_ n2_ n3_ n4_ n5_ n6_; clear hb hbox hg; have hnb20 := NB108_107.out; have hnc20 := NB107_108.out; have C21_0 := c6_0 BK108; have C21_1 := c6_1 BK108; have C21_2 := c6_2 BK108; have C21_3 := c6_3 BK108; have C21_4 := c6_4 BK108; have C21_5 := c6_5 BK108; have F21_0 := fz BK108 0; have F21_1 := fz BK108 1; have F21_2 := fz BK108 2; have F21_3 := fz BK108 3; have F21_4 := fz BK108 4; have F21_5 := fz BK108 5) | (go_at_call 28; (with_reducible refine (value_May.calls a1_2 a1_3 a1_4 false _ A10.out).mono ?_); rintro e w22 ⟨rfl, hb⟩; have n0_ := aM (blk_below (bO BK107) hb); have n1_ := aM (blk_below (bO BK108) hb); have n2_ := aM (below_step (lO HB) hb); clear BK107; clear BK108; clear HB; have BK107 := n0_; have BK108 := n1_; have HB := n2_; clear n0_ n1_ n2_; (try clear hb); (try clear hb2); (try clear hk); (try clear hi)))
     go_ret2
     exact ⟨by first | rfl | (simp [errW_none, errW_some] <;> rfl) | (simp [*, errW_none, errW_some] <;> rfl), (lO HB)⟩
  ·rw [if_neg c4] at H
   have c4b0 : (a1_1.toList == ([] : List UInt8)) = false := beq_eq_false_iff_ne.mpr c4
   have c4b1 : (a1_1.toList != ([] : List UInt8)) = true := bne_iff_ne.mpr c4
   simp only [Option.some.injEq, Prod.mk.injEq] at H
   obtain ⟨rfl, rfl⟩ := H
   go_enter Try.func25, Try.ntmps25
   go_wp2_with (first | ((with_reducible refine gate_dst (N := 2) rfl ?_); (try (refine gate_guard (by rfl) ?_; dsimp only)); refine bE (N := 2) (cs := #[.string a0_0, .slice A0_1 l0_1.length c0_1, .int .i64 a0_2, .int .i64 a0_3, .int .i64 a0_4, .slice A0_5 l0_5.length c0_5, .slice A0_6 l0_6.length c0_6, .slice A0_7 l0_7.length c0_7, .int .i64 a0_8, .int .i64 a0_9, .int .i64 a0_10]) (t := 32) ?_; intro gb107 hg w23 hbox hb; have n0_ := aM (below_step (lO HB) hb); have n1_ := aM (hbox); have n2_ := aM (gO hg (lO HB)); have n3_ := aM (gO hg (lO HB)); clear HB; have HB := n0_; have BK107 := n1_; have GW107 := n2_; have GE107 := n3_; clear n0_ n1_ n2_ n3_; clear hb hbox hg) | ((with_reducible refine gate_dst (N := 3) rfl ?_); (try (refine gate_guard (by rfl) ?_; dsimp only)); refine bE (N := 3) (cs := #[.int .i64 a1_0, .string a1_1, .int .i64 a1_2, .int .i64 a1_3, .string a1_4, .slice A1_5 l1_5.length c1_5]) (t := 26) ?_; intro gb108 hg w24 hbox hb; have n0_ := aM (blk_below (bO BK107) hb); have n1_ := aM (below_step (lO HB) hb); have n2_ := aM (hbox); have n3_ := aM (gO hg (lO HB)); have n4_ := aM (gO hg (lO HB)); have n5_ := aM (ne_lt hg (bO BK107)); have n6_ := aM (ne_gt hg (bO BK107)); clear BK107; clear HB; have BK107 := n0_; have HB := n1_; have BK108 := n2_; have GW108 := n3_; have GE108 := n4_; have NB107_108 := n5_; have NB108_107 := n6_; clear n0_ n1_ n2_ n3_ n4_ n5_ n6_; clear hb hbox hg; have hnb25 := NB108_107.out; have hnc25 := NB107_108.out; have C26_0 := c6_0 BK108; have C26_1 := c6_1 BK108; have C26_2 := c6_2 BK108; have C26_3 := c6_3 BK108; have C26_4 := c6_4 BK108; have C26_5 := c6_5 BK108; have F26_0 := fz BK108 0; have F26_1 := fz BK108 1; have F26_2 := fz BK108 2; have F26_3 := fz BK108 3; have F26_4 := fz BK108 4; have F26_5 := fz BK108 5))
   go_ret2
   exact ⟨by first | rfl | (simp [errW_none, errW_some] <;> rfl) | (simp [*, errW_none, errW_some] <;> rfl), (lO HB)⟩
 ·rw [if_neg c3] at H
  have c3b0 : (a1_0 == 1) = false := beq_eq_false_iff_ne.mpr c3
  have c3b1 : (a1_0 != 1) = true := bne_iff_ne.mpr c3
  by_cases c27 : a1_0 = 2
  ·rw [if_pos c27] at H
   have c27b0 : (a1_0 == 2) = true := beq_iff_eq.mpr c27
   have c27b1 : (a1_0 != 2) = false := bne_eq_false_iff_eq.mpr c27
   clear c27
   replace H := Option.bind_eq_some_iff.mp H
   obtain ⟨t110, A280, H⟩ := H
   replace H : (if t110 < 0 then (some (0, 14)) else (if (l1_5.length : Int) > 0 then (some (0, 9)) else (if (!(a1_2 == 0) || (!(a1_3 == 0) || (!(a1_4.toList == ([] : List UInt8))))) = true then (some (0, 9)) else (if 0 ≤ t110 then (if t110 < (l0_1.length : Int) then (some ((rd_T57 l0_1 t110).f1, 0)) else (none)) else (none))))) = some (r1, r2) := H
   have A28 := aM A280
   clear A280
   by_cases c29 : t110 < 0
   ·rw [if_pos c29] at H
    have c29b0 : decide (t110 < 0) = true := decide_eq_true c29
    clear c29
    simp only [Option.some.injEq, Prod.mk.injEq] at H
    obtain ⟨rfl, rfl⟩ := H
    go_enter Try.func25, Try.ntmps25
    go_wp2_with (first | ((with_reducible refine gate_dst (N := 2) rfl ?_); (try (refine gate_guard (by rfl) ?_; dsimp only)); refine bE (N := 2) (cs := #[.string a0_0, .slice A0_1 l0_1.length c0_1, .int .i64 a0_2, .int .i64 a0_3, .int .i64 a0_4, .slice A0_5 l0_5.length c0_5, .slice A0_6 l0_6.length c0_6, .slice A0_7 l0_7.length c0_7, .int .i64 a0_8, .int .i64 a0_9, .int .i64 a0_10]) (t := 32) ?_; intro gb107 hg w30 hbox hb; have n0_ := aM (below_step (lO HB) hb); have n1_ := aM (hbox); have n2_ := aM (gO hg (lO HB)); have n3_ := aM (gO hg (lO HB)); clear HB; have HB := n0_; have BK107 := n1_; have GW107 := n2_; have GE107 := n3_; clear n0_ n1_ n2_ n3_; clear hb hbox hg) | ((with_reducible refine gate_dst (N := 3) rfl ?_); (try (refine gate_guard (by rfl) ?_; dsimp only)); refine bE (N := 3) (cs := #[.int .i64 a1_0, .string a1_1, .int .i64 a1_2, .int .i64 a1_3, .string a1_4, .slice A1_5 l1_5.length c1_5]) (t := 26) ?_; intro gb108 hg w31 hbox hb; have n0_ := aM (blk_below (bO BK107) hb); have n1_ := aM (below_step (lO HB) hb); have n2_ := aM (hbox); have n3_ := aM (gO hg (lO HB)); have n4_ := aM (gO hg (lO HB)); have n5_ := aM (ne_lt hg (bO BK107)); have n6_ := aM (ne_gt hg (bO BK107)); clear BK107; clear HB; have BK107 := n0_; have HB := n1_; have BK108 := n2_; have GW108 := n3_; have GE108 := n4_; have NB107_108 := n5_; have NB108_107 := n6_; clear n0_ n1_ n2_ n3_ n4_ n5_ n6_; clear hb hbox hg; have hnb32 := NB108_107.out; have hnc32 := NB107_108.out; have C33_0 := c6_0 BK108; have C33_1 := c6_1 BK108; have C33_2 := c6_2 BK108; have C33_3 := c6_3 BK108; have C33_4 := c6_4 BK108; have C33_5 := c6_5 BK108; have F33_0 := fz BK108 0; have F33_1 := fz BK108 1; have F33_2 := fz BK108 2; have F33_3 := fz BK108 3; have F33_4 := fz BK108 4; have F33_5 := fz BK108 5; have C34_0 := c11_0 BK107; have C34_1 := c11_1 BK107; have C34_2 := c11_2 BK107; have C34_3 := c11_3 BK107; have C34_4 := c11_4 BK107; have C34_5 := c11_5 BK107; have C34_6 := c11_6 BK107; have C34_7 := c11_7 BK107; have C34_8 := c11_8 BK107; have C34_9 := c11_9 BK107; have C34_10 := c11_10 BK107; have F34_0 := fz BK107 0; have F34_1 := fz BK107 1; have F34_2 := fz BK107 2; have F34_3 := fz BK107 3; have F34_4 := fz BK107 4; have F34_5 := fz BK107 5; have F34_6 := fz BK107 6; have F34_7 := fz BK107 7; have F34_8 := fz BK107 8; have F34_9 := fz BK107 9; have F34_10 := fz BK107 10) | ((with_reducible refine gate_callee (f := 33) rfl ?_); refine gL (some 39) rfl rfl Try.func33 (by kernel_rfl) rfl #[.agg #[.string a0_0, .slice A0_1 l0_1.length c0_1, .int .i64 a0_2, .int .i64 a0_3, .int .i64 a0_4, .slice A0_5 l0_5.length c0_5, .slice A0_6 l0_6.length c0_6, .slice A0_7 l0_7.length c0_7, .int .i64 a0_8, .int .i64 a0_9, .int .i64 a0_10], .string a1_1] rfl ?_; (with_reducible refine (schema_Col.calls a0_0 _ _ l0_1 a0_2 a0_3 a0_4 _ _ l0_5 _ _ l0_6 _ _ l0_7 a0_8 a0_9 a0_10 a1_1 t110 _ ?side1 ?side2 ?side3 ?side4 ?side5 ?side6 ?side7 ?side8 A28.out).mono ?_); (case side1 => exact cO (Kd.C_below HR0_1.out HB.out)); (case side2 => exact HC0_1.out); (case side3 => exact cO (Kd.C_below HR0_5.out HB.out)); (case side4 => exact HC0_5.out); (case side5 => exact cO (Kd.C_below HR0_6.out HB.out)); (case side6 => exact HC0_6.out); (case side7 => exact cO (Kd.C_below HR0_7.out HB.out)); (case side8 => exact HC0_7.out); rintro e w35 ⟨rfl, hb⟩; refine ⟨_, rfl, ?_⟩; have n0_ := aM (blk_below (bO BK107) hb); have n1_ := aM (blk_below (bO BK108) hb); have n2_ := aM (below_step (lO HB) hb); clear BK107; clear BK108; clear HB; have BK107 := n0_; have BK108 := n1_; have HB := n2_; clear n0_ n1_ n2_; (try clear hb); (try clear hb2); (try clear hk); (try clear hi)))
    go_ret2
    exact ⟨by first | rfl | (simp [errW_none, errW_some] <;> rfl) | (simp [*, errW_none, errW_some] <;> rfl), (lO HB)⟩
   ·rw [if_neg c29] at H
    have c29b0 : decide (t110 < 0) = false := decide_eq_false c29
    clear c29
    by_cases c36 : (l1_5.length : Int) > 0
    ·rw [if_pos c36] at H
     have c36b0 : decide (0 < (l1_5.length : Int)) = true := decide_eq_true c36
     have c36b1 : decide (0 < l1_5.length) = true := decide_eq_true (by omega)
     clear c36
     simp only [Option.some.injEq, Prod.mk.injEq] at H
     obtain ⟨rfl, rfl⟩ := H
     go_enter Try.func25, Try.ntmps25
     go_wp2_with (first | ((with_reducible refine gate_dst (N := 2) rfl ?_); (try (refine gate_guard (by rfl) ?_; dsimp only)); refine bE (N := 2) (cs := #[.string a0_0, .slice A0_1 l0_1.length c0_1, .int .i64 a0_2, .int .i64 a0_3, .int .i64 a0_4, .slice A0_5 l0_5.length c0_5, .slice A0_6 l0_6.length c0_6, .slice A0_7 l0_7.length c0_7, .int .i64 a0_8, .int .i64 a0_9, .int .i64 a0_10]) (t := 32) ?_; intro gb107 hg w37 hbox hb; have n0_ := aM (below_step (lO HB) hb); have n1_ := aM (hbox); have n2_ := aM (gO hg (lO HB)); have n3_ := aM (gO hg (lO HB)); clear HB; have HB := n0_; have BK107 := n1_; have GW107 := n2_; have GE107 := n3_; clear n0_ n1_ n2_ n3_; clear hb hbox hg) | ((with_reducible refine gate_dst (N := 3) rfl ?_); (try (refine gate_guard (by rfl) ?_; dsimp only)); refine bE (N := 3) (cs := #[.int .i64 a1_0, .string a1_1, .int .i64 a1_2, .int .i64 a1_3, .string a1_4, .slice A1_5 l1_5.length c1_5]) (t := 26) ?_; intro gb108 hg w38 hbox hb; have n0_ := aM (blk_below (bO BK107) hb); have n1_ := aM (below_step (lO HB) hb); have n2_ := aM (hbox); have n3_ := aM (gO hg (lO HB)); have n4_ := aM (gO hg (lO HB)); have n5_ := aM (ne_lt hg (bO BK107)); have n6_ := aM (ne_gt hg (bO BK107)); clear BK107; clear HB; have BK107 := n0_; have HB := n1_; have BK108 := n2_; have GW108 := n3_; have GE108 := n4_; have NB107_108 := n5_; have NB108_107 := n6_; clear n0_ n1_ n2_ n3_ n4_ n5_ n6_; clear hb hbox hg; have hnb39 := NB108_107.out; have hnc39 := NB107_108.out; have C40_0 := c6_0 BK108; have C40_1 := c6_1 BK108; have C40_2 := c6_2 BK108; have C40_3 := c6_3 BK108; have C40_4 := c6_4 BK108; have C40_5 := c6_5 BK108; have F40_0 := fz BK108 0; have F40_1 := fz BK108 1; have F40_2 := fz BK108 2; have F40_3 := fz BK108 3; have F40_4 := fz BK108 4; have F40_5 := fz BK108 5; have C41_0 := c11_0 BK107; have C41_1 := c11_1 BK107; have C41_2 := c11_2 BK107; have C41_3 := c11_3 BK107; have C41_4 := c11_4 BK107; have C41_5 := c11_5 BK107; have C41_6 := c11_6 BK107; have C41_7 := c11_7 BK107; have C41_8 := c11_8 BK107; have C41_9 := c11_9 BK107; have C41_10 := c11_10 BK107; have F41_0 := fz BK107 0; have F41_1 := fz BK107 1; have F41_2 := fz BK107 2; have F41_3 := fz BK107 3; have F41_4 := fz BK107 4; have F41_5 := fz BK107 5; have F41_6 := fz BK107 6; have F41_7 := fz BK107 7; have F41_8 := fz BK107 8; have F41_9 := fz BK107 9; have F41_10 := fz BK107 10) | ((with_reducible refine gate_callee (f := 33) rfl ?_); refine gL (some 39) rfl rfl Try.func33 (by kernel_rfl) rfl #[.agg #[.string a0_0, .slice A0_1 l0_1.length c0_1, .int .i64 a0_2, .int .i64 a0_3, .int .i64 a0_4, .slice A0_5 l0_5.length c0_5, .slice A0_6 l0_6.length c0_6, .slice A0_7 l0_7.length c0_7, .int .i64 a0_8, .int .i64 a0_9, .int .i64 a0_10], .string a1_1] rfl ?_; (with_reducible refine (schema_Col.calls a0_0 _ _ l0_1 a0_2 a0_3 a0_4 _ _ l0_5 _ _ l0_6 _ _ l0_7 a0_8 a0_9 a0_10 a1_1 t110 _ ?side1 ?side2 ?side3 ?side4 ?side5 ?side6 ?side7 ?side8 A28.out).mono ?_); (case side1 => exact cO (Kd.C_below HR0_1.out HB.out)); (case side2 => exact HC0_1.out); (case side3 => exact cO (Kd.C_below HR0_5.out HB.out)); (case side4 => exact HC0_5.out); (case side5 => exact cO (Kd.C_below HR0_6.out HB.out)); (case side6 => exact HC0_6.out); (case side7 => exact cO (Kd.C_below HR0_7.out HB.out)); (case side8 => exact HC0_7.out); rintro e w42 ⟨rfl, hb⟩; refine ⟨_, rfl, ?_⟩; have n0_ := aM (blk_below (bO BK107) hb); have n1_ := aM (blk_below (bO BK108) hb); have n2_ := aM (below_step (lO HB) hb); clear BK107; clear BK108; clear HB; have BK107 := n0_; have BK108 := n1_; have HB := n2_; clear n0_ n1_ n2_; (try clear hb); (try clear hb2); (try clear hk); (try clear hi); have C43_0 := c6_0 BK108; have C43_1 := c6_1 BK108; have C43_2 := c6_2 BK108; have C43_3 := c6_3 BK108; have C43_4 := c6_4 BK108; have C43_5 := c6_5 BK108; have F43_0 := fz BK108 0; have F43_1 := fz BK108 1; have F43_2 := fz BK108 2; have F43_3 := fz BK108 3; have F43_4 := fz BK108 4; have F43_5 := fz BK108 5))
     go_ret2
     exact ⟨by first | rfl | (simp [errW_none, errW_some] <;> rfl) | (simp [*, errW_none, errW_some] <;> rfl), (lO HB)⟩
    ·rw [if_neg c36] at H
     have c36b0 : decide (0 < (l1_5.length : Int)) = false := decide_eq_false c36
     have c36b1 : decide (0 < l1_5.length) = false := decide_eq_false (by omega)
     clear c36
     by_cases c44 : (!(a1_2 == 0) || (!(a1_3 == 0) || (!(a1_4.toList == ([] : List UInt8))))) = true
     ·rw [if_pos c44] at H
      have c44b0 : (!(a1_2 == 0) || (!(a1_3 == 0) || (!(a1_4.toList == ([] : List UInt8))))) = true := c44
      (try (have c44b1 : (!(a1_2 == 0) || (!(a1_3 == 0) || (!a1_4.toList.isEmpty))) = true := by simpa using c44))
      clear c44
      simp only [Option.some.injEq, Prod.mk.injEq] at H
      obtain ⟨rfl, rfl⟩ := H
      go_enter Try.func25, Try.ntmps25
      go_wp2_with (first | ((with_reducible refine gate_dst (N := 2) rfl ?_); (try (refine gate_guard (by rfl) ?_; dsimp only)); refine bE (N := 2) (cs := #[.string a0_0, .slice A0_1 l0_1.length c0_1, .int .i64 a0_2, .int .i64 a0_3, .int .i64 a0_4, .slice A0_5 l0_5.length c0_5, .slice A0_6 l0_6.length c0_6, .slice A0_7 l0_7.length c0_7, .int .i64 a0_8, .int .i64 a0_9, .int .i64 a0_10]) (t := 32) ?_; intro gb107 hg w45 hbox hb; have n0_ := aM (below_step (lO HB) hb); have n1_ := aM (hbox); have n2_ := aM (gO hg (lO HB)); have n3_ := aM (gO hg (lO HB)); clear HB; have HB := n0_; have BK107 := n1_; have GW107 := n2_; have GE107 := n3_; clear n0_ n1_ n2_ n3_; clear hb hbox hg) | ((with_reducible refine gate_dst (N := 3) rfl ?_); (try (refine gate_guard (by rfl) ?_; dsimp only)); refine bE (N := 3) (cs := #[.int .i64 a1_0, .string a1_1, .int .i64 a1_2, .int .i64 a1_3, .string a1_4, .slice A1_5 l1_5.length c1_5]) (t := 26) ?_; intro gb108 hg w46 hbox hb; have n0_ := aM (blk_below (bO BK107) hb); have n1_ := aM (below_step (lO HB) hb); have n2_ := aM (hbox); have n3_ := aM (gO hg (lO HB)); have n4_ := aM (gO hg (lO HB)); have n5_ := aM (ne_lt hg (bO BK107)); have n6_ := aM (ne_gt hg (bO BK107)); clear BK107; clear HB; have BK107 := n0_; have HB := n1_; have BK108 := n2_; have GW108 := n3_; have GE108 := n4_; have NB107_108 := n5_; have NB108_107 := n6_; clear n0_ n1_ n2_ n3_ n4_ n5_ n6_; clear hb hbox hg; have hnb47 := NB108_107.out; have hnc47 := NB107_108.out; have C48_0 := c6_0 BK108; have C48_1 := c6_1 BK108; have C48_2 := c6_2 BK108; have C48_3 := c6_3 BK108; have C48_4 := c6_4 BK108; have C48_5 := c6_5 BK108; have F48_0 := fz BK108 0; have F48_1 := fz BK108 1; have F48_2 := fz BK108 2; have F48_3 := fz BK108 3; have F48_4 := fz BK108 4; have F48_5 := fz BK108 5; have C49_0 := c11_0 BK107; have C49_1 := c11_1 BK107; have C49_2 := c11_2 BK107; have C49_3 := c11_3 BK107; have C49_4 := c11_4 BK107; have C49_5 := c11_5 BK107; have C49_6 := c11_6 BK107; have C49_7 := c11_7 BK107; have C49_8 := c11_8 BK107; have C49_9 := c11_9 BK107; have C49_10 := c11_10 BK107; have F49_0 := fz BK107 0; have F49_1 := fz BK107 1; have F49_2 := fz BK107 2; have F49_3 := fz BK107 3; have F49_4 := fz BK107 4; have F49_5 := fz BK107 5; have F49_6 := fz BK107 6; have F49_7 := fz BK107 7; have F49_8 := fz BK107 8; have F49_9 := fz BK107 9; have F49_10 := fz BK107 10) | ((with_reducible refine gate_callee (f := 33) rfl ?_); refine gL (some 39) rfl rfl Try.func33 (by kernel_rfl) rfl #[.agg #[.string a0_0, .slice A0_1 l0_1.length c0_1, .int .i64 a0_2, .int .i64 a0_3, .int .i64 a0_4, .slice A0_5 l0_5.length c0_5, .slice A0_6 l0_6.length c0_6, .slice A0_7 l0_7.length c0_7, .int .i64 a0_8, .int .i64 a0_9, .int .i64 a0_10], .string a1_1] rfl ?_; (with_reducible refine (schema_Col.calls a0_0 _ _ l0_1 a0_2 a0_3 a0_4 _ _ l0_5 _ _ l0_6 _ _ l0_7 a0_8 a0_9 a0_10 a1_1 t110 _ ?side1 ?side2 ?side3 ?side4 ?side5 ?side6 ?side7 ?side8 A28.out).mono ?_); (case side1 => exact cO (Kd.C_below HR0_1.out HB.out)); (case side2 => exact HC0_1.out); (case side3 => exact cO (Kd.C_below HR0_5.out HB.out)); (case side4 => exact HC0_5.out); (case side5 => exact cO (Kd.C_below HR0_6.out HB.out)); (case side6 => exact HC0_6.out); (case side7 => exact cO (Kd.C_below HR0_7.out HB.out)); (case side8 => exact HC0_7.out); rintro e w50 ⟨rfl, hb⟩; refine ⟨_, rfl, ?_⟩; have n0_ := aM (blk_below (bO BK107) hb); have n1_ := aM (blk_below (bO BK108) hb); have n2_ := aM (below_step (lO HB) hb); clear BK107; clear BK108; clear HB; have BK107 := n0_; have BK108 := n1_; have HB := n2_; clear n0_ n1_ n2_; (try clear hb); (try clear hb2); (try clear hk); (try clear hi); have C51_0 := c6_0 BK108; have C51_1 := c6_1 BK108; have C51_2 := c6_2 BK108; have C51_3 := c6_3 BK108; have C51_4 := c6_4 BK108; have C51_5 := c6_5 BK108; have F51_0 := fz BK108 0; have F51_1 := fz BK108 1; have F51_2 := fz BK108 2; have F51_3 := fz BK108 3; have F51_4 := fz BK108 4; have F51_5 := fz BK108 5))
      go_ret2
      exact ⟨by first | rfl | (simp [errW_none, errW_some] <;> rfl) | (simp [*, errW_none, errW_some] <;> rfl), (lO HB)⟩
     ·rw [if_neg c44] at H
      have c44b0 : (!(a1_2 == 0) || (!(a1_3 == 0) || (!(a1_4.toList == ([] : List UInt8))))) = false := by simpa using c44
      (try (have c44b1 : (!(a1_2 == 0) || (!(a1_3 == 0) || (!a1_4.toList.isEmpty))) = false := by simpa using c44))
      clear c44
      by_cases c52 : 0 ≤ t110
      ·rw [if_pos c52] at H
       have c52b0 : decide (0 ≤ t110) = true := decide_eq_true c52
       clear c52
       by_cases c53 : t110 < (l0_1.length : Int)
       ·rw [if_pos c53] at H
        have c53b0 : decide (t110 < (l0_1.length : Int)) = true := decide_eq_true c53
        clear c53
        simp only [Option.some.injEq, Prod.mk.injEq] at H
        obtain ⟨rfl, rfl⟩ := H
        go_enter Try.func25, Try.ntmps25
        go_wp2_with (first | ((with_reducible refine gate_dst (N := 2) rfl ?_); (try (refine gate_guard (by rfl) ?_; dsimp only)); refine bE (N := 2) (cs := #[.string a0_0, .slice A0_1 l0_1.length c0_1, .int .i64 a0_2, .int .i64 a0_3, .int .i64 a0_4, .slice A0_5 l0_5.length c0_5, .slice A0_6 l0_6.length c0_6, .slice A0_7 l0_7.length c0_7, .int .i64 a0_8, .int .i64 a0_9, .int .i64 a0_10]) (t := 32) ?_; intro gb107 hg w54 hbox hb; have n0_ := aM (below_step (lO HB) hb); have n1_ := aM (hbox); have n2_ := aM (gO hg (lO HB)); have n3_ := aM (gO hg (lO HB)); clear HB; have HB := n0_; have BK107 := n1_; have GW107 := n2_; have GE107 := n3_; clear n0_ n1_ n2_ n3_; clear hb hbox hg) | ((with_reducible refine gate_dst (N := 3) rfl ?_); (try (refine gate_guard (by rfl) ?_; dsimp only)); refine bE (N := 3) (cs := #[.int .i64 a1_0, .string a1_1, .int .i64 a1_2, .int .i64 a1_3, .string a1_4, .slice A1_5 l1_5.length c1_5]) (t := 26) ?_; intro gb108 hg w55 hbox hb; have n0_ := aM (blk_below (bO BK107) hb); have n1_ := aM (below_step (lO HB) hb); have n2_ := aM (hbox); have n3_ := aM (gO hg (lO HB)); have n4_ := aM (gO hg (lO HB)); have n5_ := aM (ne_lt hg (bO BK107)); have n6_ := aM (ne_gt hg (bO BK107)); clear BK107; clear HB; have BK107 := n0_; have HB := n1_; have BK108 := n2_; have GW108 := n3_; have GE108 := n4_; have NB107_108 := n5_; have NB108_107 := n6_; clear n0_ n1_ n2_ n3_ n4_ n5_ n6_; clear hb hbox hg; have hnb56 := NB108_107.out; have hnc56 := NB107_108.out; have C57_0 := c6_0 BK108; have C57_1 := c6_1 BK108; have C57_2 := c6_2 BK108; have C57_3 := c6_3 BK108; have C57_4 := c6_4 BK108; have C57_5 := c6_5 BK108; have F57_0 := fz BK108 0; have F57_1 := fz BK108 1; have F57_2 := fz BK108 2; have F57_3 := fz BK108 3; have F57_4 := fz BK108 4; have F57_5 := fz BK108 5; have C58_0 := c11_0 BK107; have C58_1 := c11_1 BK107; have C58_2 := c11_2 BK107; have C58_3 := c11_3 BK107; have C58_4 := c11_4 BK107; have C58_5 := c11_5 BK107; have C58_6 := c11_6 BK107; have C58_7 := c11_7 BK107; have C58_8 := c11_8 BK107; have C58_9 := c11_9 BK107; have C58_10 := c11_10 BK107; have F58_0 := fz BK107 0; have F58_1 := fz BK107 1; have F58_2 := fz BK107 2; have F58_3 := fz BK107 3; have F58_4 := fz BK107 4; have F58_5 := fz BK107 5; have F58_6 := fz BK107 6; have F58_7 := fz BK107 7; have F58_8 := fz BK107 8; have F58_9 := fz BK107 9; have F58_10 := fz BK107 10) | ((with_reducible refine gate_callee (f := 33) rfl ?_); refine gL (some 39) rfl rfl Try.func33 (by kernel_rfl) rfl #[.agg #[.string a0_0, .slice A0_1 l0_1.length c0_1, .int .i64 a0_2, .int .i64 a0_3, .int .i64 a0_4, .slice A0_5 l0_5.length c0_5, .slice A0_6 l0_6.length c0_6, .slice A0_7 l0_7.length c0_7, .int .i64 a0_8, .int .i64 a0_9, .int .i64 a0_10], .string a1_1] rfl ?_; (with_reducible refine (schema_Col.calls a0_0 _ _ l0_1 a0_2 a0_3 a0_4 _ _ l0_5 _ _ l0_6 _ _ l0_7 a0_8 a0_9 a0_10 a1_1 t110 _ ?side1 ?side2 ?side3 ?side4 ?side5 ?side6 ?side7 ?side8 A28.out).mono ?_); (case side1 => exact cO (Kd.C_below HR0_1.out HB.out)); (case side2 => exact HC0_1.out); (case side3 => exact cO (Kd.C_below HR0_5.out HB.out)); (case side4 => exact HC0_5.out); (case side5 => exact cO (Kd.C_below HR0_6.out HB.out)); (case side6 => exact HC0_6.out); (case side7 => exact cO (Kd.C_below HR0_7.out HB.out)); (case side8 => exact HC0_7.out); rintro e w59 ⟨rfl, hb⟩; refine ⟨_, rfl, ?_⟩; have n0_ := aM (blk_below (bO BK107) hb); have n1_ := aM (blk_below (bO BK108) hb); have n2_ := aM (below_step (lO HB) hb); clear BK107; clear BK108; clear HB; have BK107 := n0_; have BK108 := n1_; have HB := n2_; clear n0_ n1_ n2_; (try clear hb); (try clear hb2); (try clear hk); (try clear hi); have C60_0 := c6_0 BK108; have C60_1 := c6_1 BK108; have C60_2 := c6_2 BK108; have C60_3 := c6_3 BK108; have C60_4 := c6_4 BK108; have C60_5 := c6_5 BK108; have F60_0 := fz BK108 0; have F60_1 := fz BK108 1; have F60_2 := fz BK108 2; have F60_3 := fz BK108 3; have F60_4 := fz BK108 4; have F60_5 := fz BK108 5; have C61_0 := c11_0 BK107; have C61_1 := c11_1 BK107; have C61_2 := c11_2 BK107; have C61_3 := c11_3 BK107; have C61_4 := c11_4 BK107; have C61_5 := c11_5 BK107; have C61_6 := c11_6 BK107; have C61_7 := c11_7 BK107; have C61_8 := c11_8 BK107; have C61_9 := c11_9 BK107; have C61_10 := c11_10 BK107; have F61_0 := fz BK107 0; have F61_1 := fz BK107 1; have F61_2 := fz BK107 2; have F61_3 := fz BK107 3; have F61_4 := fz BK107 4; have F61_5 := fz BK107 5; have F61_6 := fz BK107 6; have F61_7 := fz BK107 7; have F61_8 := fz BK107 8; have F61_9 := fz BK107 9; have F61_10 := fz BK107 10; have p111 : 0 ≤ (t110 : Int) := of_decide_eq_true (by first | (with_reducible assumption) | assumption); have q111 : t110 < (l0_1.length : Int) := of_decide_eq_true (by first | (with_reducible assumption) | assumption); obtain ⟨ad111, e111, hx111_0, hx111_1, hx111_2⟩ := at_T57 HR0_1.out t110 p111 q111; cases e111; replace hx111_0 := (HB.out.cell (World.block_lt_of_cell? w _ hx111_0)).trans hx111_0; replace hx111_1 := (HB.out.cell (World.block_lt_of_cell? w _ hx111_1)).trans hx111_1; replace hx111_2 := (HB.out.cell (World.block_lt_of_cell? w _ hx111_2)).trans hx111_2; replace p111 := eq_true p111; replace q111 := eq_true q111))
        go_ret2
        exact ⟨by first | rfl | (simp [errW_none, errW_some] <;> rfl) | (simp [*, errW_none, errW_some] <;> rfl), (lO HB)⟩
       ·rw [if_neg c53] at H
        exact absurd H (by simp)
      ·rw [if_neg c52] at H
       exact absurd H (by simp)
  ·rw [if_neg c27] at H
   have c27b0 : (a1_0 == 2) = false := beq_eq_false_iff_ne.mpr c27
   have c27b1 : (a1_0 != 2) = true := bne_iff_ne.mpr c27
   by_cases c62 : a1_0 = 3
   ·rw [if_pos c62] at H
    have c62b0 : (a1_0 == 3) = true := beq_iff_eq.mpr c62
    have c62b1 : (a1_0 != 3) = false := bne_eq_false_iff_eq.mpr c62
    clear c62
    have H' := aM H
    clear H
    go_enter Try.func25, Try.ntmps25
    go_wp2_with (first | ((with_reducible refine gate_dst (N := 2) rfl ?_); (try (refine gate_guard (by rfl) ?_; dsimp only)); refine bE (N := 2) (cs := #[.string a0_0, .slice A0_1 l0_1.length c0_1, .int .i64 a0_2, .int .i64 a0_3, .int .i64 a0_4, .slice A0_5 l0_5.length c0_5, .slice A0_6 l0_6.length c0_6, .slice A0_7 l0_7.length c0_7, .int .i64 a0_8, .int .i64 a0_9, .int .i64 a0_10]) (t := 32) ?_; intro gb107 hg w63 hbox hb; have n0_ := aM (below_step (lO HB) hb); have n1_ := aM (hbox); have n2_ := aM (gO hg (lO HB)); have n3_ := aM (gO hg (lO HB)); clear HB; have HB := n0_; have BK107 := n1_; have GW107 := n2_; have GE107 := n3_; clear n0_ n1_ n2_ n3_; clear hb hbox hg) | ((with_reducible refine gate_dst (N := 3) rfl ?_); (try (refine gate_guard (by rfl) ?_; dsimp only)); refine bE (N := 3) (cs := #[.int .i64 a1_0, .string a1_1, .int .i64 a1_2, .int .i64 a1_3, .string a1_4, .slice A1_5 l1_5.length c1_5]) (t := 26) ?_; intro gb108 hg w64 hbox hb; have n0_ := aM (blk_below (bO BK107) hb); have n1_ := aM (below_step (lO HB) hb); have n2_ := aM (hbox); have n3_ := aM (gO hg (lO HB)); have n4_ := aM (gO hg (lO HB)); have n5_ := aM (ne_lt hg (bO BK107)); have n6_ := aM (ne_gt hg (bO BK107)); clear BK107; clear HB; have BK107 := n0_; have HB := n1_; have BK108 := n2_; have GW108 := n3_; have GE108 := n4_; have NB107_108 := n5_; have NB108_107 := n6_; clear n0_ n1_ n2_ n3_ n4_ n5_ n6_; clear hb hbox hg; have hnb65 := NB108_107.out; have hnc65 := NB107_108.out; have C66_0 := c6_0 BK108; have C66_1 := c6_1 BK108; have C66_2 := c6_2 BK108; have C66_3 := c6_3 BK108; have C66_4 := c6_4 BK108; have C66_5 := c6_5 BK108; have F66_0 := fz BK108 0; have F66_1 := fz BK108 1; have F66_2 := fz BK108 2; have F66_3 := fz BK108 3; have F66_4 := fz BK108 4; have F66_5 := fz BK108 5))
    go_loopg [7, 63] k (fun kq v7 v63 w' => ∃ (x7_1 : List Int) (x63_1 : Int), v63 = .int .i64 x63_1 ∧ Aside0 (expr_typed.l0 kq x7_1 l1_5 (l1_5.length : Int) x63_1 a0_0 l0_1 a0_2 a0_3 a0_4 l0_5 l0_6 l0_7 a0_8 a0_9 a0_10 a1_0 a1_1 a1_2 a1_3 a1_4 l1_5 = some (r1, r2)) ∧ Aside0 (kq ≤ k) ∧ Aside0 (Kd.R (Kd.int .i64) 3 w' w.heap.size (fun _ => True) v7 x7_1) ∧ Aside0 (w'.heap[gb107]? = some (.cells #[.string a0_0, (.slice A0_1 l0_1.length c0_1), .int .i64 a0_2, .int .i64 a0_3, .int .i64 a0_4, (.slice A0_5 l0_5.length c0_5), (.slice A0_6 l0_6.length c0_6), (.slice A0_7 l0_7.length c0_7), .int .i64 a0_8, .int .i64 a0_9, .int .i64 a0_10] 32 (0, 0))) ∧ Aside0 (w'.heap[gb108]? = some (.cells #[.int .i64 a1_0, .string a1_1, .int .i64 a1_2, .int .i64 a1_3, .string a1_4, (.slice A1_5 l1_5.length c1_5)] 26 (0, 0))) ∧ Aside0 (Below w.heap.size w w'))
    case atStart => exact ⟨(([] : List Int)), (0), (by first | rfl | (simp; done) | (simp [*]; done)), H', ⟨Nat.le_refl _⟩, ⟨by first | exact Kd.R_nil _ _ _ _ _ | exact Kd.N_nil _ _ _ _ _ | exact Kd.V_nil _ _ _ _ _ | exact Kd.Q_nil _ _ _ _ _ | exact Kd.S_nil _ _ _ _ _⟩, ⟨bO BK107⟩, ⟨bO BK108⟩, ⟨(lO HB)⟩⟩
    case round =>
     clear H'
     try clear c1
     try clear p1
     try clear q1
     try clear hx1
     try clear c2
     try clear p2
     try clear c3
     try clear c3b0
     try clear c3b1
     try clear c4
     try clear c4b0
     try clear c4b1
     try clear c5
     try clear c5b0
     try clear c5b1
     try clear c6
     try clear c8
     try clear c11
     try clear p11
     try clear q11
     try clear hx11
     try clear c14
     try clear c20
     try clear c25
     try clear c27
     try clear c27b0
     try clear c27b1
     try clear c29
     try clear c29b0
     try clear c32
     try clear c33
     try clear c36
     try clear c36b0
     try clear c36b1
     try clear c39
     try clear c44
     try clear c44b0
     try clear c44b1
     try clear c47
     try clear c52
     try clear c52b0
     try clear c53
     try clear c53b0
     try clear c56
     try clear c62
     try clear c62b0
     try clear c62b1
     try clear c65
     try clear C15_0
     try clear C15_1
     try clear C15_2
     try clear C15_3
     try clear C15_4
     try clear C15_5
     try clear C17_0
     try clear C17_1
     try clear C17_2
     try clear C17_3
     try clear C17_4
     try clear C17_5
     try clear C21_0
     try clear C21_1
     try clear C21_2
     try clear C21_3
     try clear C21_4
     try clear C21_5
     try clear C26_0
     try clear C26_1
     try clear C26_2
     try clear C26_3
     try clear C26_4
     try clear C26_5
     try clear C33_0
     try clear C33_1
     try clear C33_2
     try clear C33_3
     try clear C33_4
     try clear C33_5
     try clear C34_0
     try clear C34_1
     try clear C34_10
     try clear C34_2
     try clear C34_3
     try clear C34_4
     try clear C34_5
     try clear C34_6
     try clear C34_7
     try clear C34_8
     try clear C34_9
     try clear C40_0
     try clear C40_1
     try clear C40_2
     try clear C40_3
     try clear C40_4
     try clear C40_5
     try clear C41_0
     try clear C41_1
     try clear C41_10
     try clear C41_2
     try clear C41_3
     try clear C41_4
     try clear C41_5
     try clear C41_6
     try clear C41_7
     try clear C41_8
     try clear C41_9
     try clear C43_0
     try clear C43_1
     try clear C43_2
     try clear C43_3
     try clear C43_4
     try clear C43_5
     try clear C48_0
     try clear C48_1
     try clear C48_2
     try clear C48_3
     try clear C48_4
     try clear C48_5
     try clear C49_0
     try clear C49_1
     try clear C49_10
     try clear C49_2
     try clear C49_3
     try clear C49_4
     try clear C49_5
     try clear C49_6
     try clear C49_7
     try clear C49_8
     try clear C49_9
     try clear C51_0
     try clear C51_1
     try clear C51_2
     try clear C51_3
     try clear C51_4
     try clear C51_5
     try clear C57_0
     try clear C57_1
     try clear C57_2
     try clear C57_3
     try clear C57_4
     try clear C57_5
     try clear C58_0
     try clear C58_1
     try clear C58_10
     try clear C58_2
     try clear C58_3
     try clear C58_4
     try clear C58_5
     try clear C58_6
     try clear C58_7
     try clear C58_8
     try clear C58_9
     try clear C60_0
     try clear C60_1
     try clear C60_2
     try clear C60_3
     try clear C60_4
     try clear C60_5
     try clear C61_0
     try clear C61_1
     try clear C61_10
     try clear C61_2
     try clear C61_3
     try clear C61_4
     try clear C61_5
     try clear C61_6
     try clear C61_7
     try clear C61_8
     try clear C61_9
     try clear C66_0
     try clear C66_1
     try clear C66_2
     try clear C66_3
     try clear C66_4
     try clear C66_5
     try clear C9_0
     try clear C9_1
     try clear C9_2
     try clear C9_3
     try clear C9_4
     try clear C9_5
     try clear F15_0
     try clear F15_1
     try clear F15_2
     try clear F15_3
     try clear F15_4
     try clear F15_5
     try clear F17_0
     try clear F17_1
     try clear F17_2
     try clear F17_3
     try clear F17_4
     try clear F17_5
     try clear F21_0
     try clear F21_1
     try clear F21_2
     try clear F21_3
     try clear F21_4
     try clear F21_5
     try clear F26_0
     try clear F26_1
     try clear F26_2
     try clear F26_3
     try clear F26_4
     try clear F26_5
     try clear F33_0
     try clear F33_1
     try clear F33_2
     try clear F33_3
     try clear F33_4
     try clear F33_5
     try clear F34_0
     try clear F34_1
     try clear F34_10
     try clear F34_2
     try clear F34_3
     try clear F34_4
     try clear F34_5
     try clear F34_6
     try clear F34_7
     try clear F34_8
     try clear F34_9
     try clear F40_0
     try clear F40_1
     try clear F40_2
     try clear F40_3
     try clear F40_4
     try clear F40_5
     try clear F41_0
     try clear F41_1
     try clear F41_10
     try clear F41_2
     try clear F41_3
     try clear F41_4
     try clear F41_5
     try clear F41_6
     try clear F41_7
     try clear F41_8
     try clear F41_9
     try clear F43_0
     try clear F43_1
     try clear F43_2
     try clear F43_3
     try clear F43_4
     try clear F43_5
     try clear F48_0
     try clear F48_1
     try clear F48_2
     try clear F48_3
     try clear F48_4
     try clear F48_5
     try clear F49_0
     try clear F49_1
     try clear F49_10
     try clear F49_2
     try clear F49_3
     try clear F49_4
     try clear F49_5
     try clear F49_6
     try clear F49_7
     try clear F49_8
     try clear F49_9
     try clear F51_0
     try clear F51_1
     try clear F51_2
     try clear F51_3
     try clear F51_4
     try clear F51_5
     try clear F57_0
     try clear F57_1
     try clear F57_2
     try clear F57_3
     try clear F57_4
     try clear F57_5
     try clear F58_0
     try clear F58_1
     try clear F58_10
     try clear F58_2
     try clear F58_3
     try clear F58_4
     try clear F58_5
     try clear F58_6
     try clear F58_7
     try clear F58_8
     try clear F58_9
     try clear F60_0
     try clear F60_1
     try clear F60_2
     try clear F60_3
     try clear F60_4
     try clear F60_5
     try clear F61_0
     try clear F61_1
     try clear F61_10
     try clear F61_2
     try clear F61_3
     try clear F61_4
     try clear F61_5
     try clear F61_6
     try clear F61_7
     try clear F61_8
     try clear F61_9
     try clear F66_0
     try clear F66_1
     try clear F66_2
     try clear F66_3
     try clear F66_4
     try clear F66_5
     try clear F9_0
     try clear F9_1
     try clear F9_2
     try clear F9_3
     try clear F9_4
     try clear F9_5
     try clear hx111_0
     try clear hx111_1
     try clear hx111_2
     try clear p111
     try clear q111
     obtain ⟨x7_1, x63_1, rfl, HA, HK1, HO_7, BK107, BK108, HB⟩ := hrel
     cases gk with
     | zero => exact absurd HA.out (by simp [expr_typed.l0])
     | succ k1 =>
      have H := HA.out
      clear HA
      simp only [expr_typed.l0] at H
      by_cases c67 : x63_1 < (l1_5.length : Int)
      ·rw [if_pos c67] at H
       have c67b0 : decide (x63_1 < (l1_5.length : Int)) = true := decide_eq_true c67
       clear c67
       by_cases c68 : 0 ≤ x63_1
       ·rw [if_pos c68] at H
        have c68b0 : decide (0 ≤ x63_1) = true := decide_eq_true c68
        clear c68
        by_cases c69 : x63_1 < (l1_5.length : Int)
        ·rw [if_pos c69] at H
         have c69b0 : decide (x63_1 < (l1_5.length : Int)) = true := decide_eq_true c69
         clear c69
         replace H := Option.bind_eq_some_iff.mp H
         obtain ⟨⟨t114, t115⟩, A700, H⟩ := H
         replace H : (if t115 = 0 then (if x7_1.length < 17592186044416 then (expr_typed.l0 k1 (x7_1 ++ [t114]) l1_5 (l1_5.length : Int) (wrap64 (x63_1 + 1)) a0_0 l0_1 a0_2 a0_3 a0_4 l0_5 l0_6 l0_7 a0_8 a0_9 a0_10 a1_0 a1_1 a1_2 a1_3 a1_4 l1_5) else (none)) else (some (0, t115))) = some (r1, r2) := H
         have A70 := aM A700
         clear A700
         by_cases c71 : t115 = 0
         ·rw [if_pos c71] at H
          have c71b0 : (t115 == 0) = true := beq_iff_eq.mpr c71
          have c71b1 : (t115 != 0) = false := bne_eq_false_iff_eq.mpr c71
          clear c71
          by_cases c72 : x7_1.length < 17592186044416
          ·rw [if_pos c72] at H
           have LMc72 := aM c72
           clear c72
           obtain ⟨y116, hy116⟩ : ∃ y_ : List Int, y_ = (x7_1 ++ [t114]) := ⟨_, rfl⟩
           replace H : (expr_typed.l0 k1 y116 l1_5 (l1_5.length : Int) (wrap64 (x63_1 + 1)) a0_0 l0_1 a0_2 a0_3 a0_4 l0_5 l0_6 l0_7 a0_8 a0_9 a0_10 a1_0 a1_1 a1_2 a1_3 a1_4 l1_5) = some (r1, r2) := by first | (rw [hy116]; with_reducible exact H) | (have H2_ := (Option.bind_some _ _).symm.trans H; rw [hy116]; with_reducible exact H2_) | (have H2_ := (Option.bind_some _ _).symm.trans H; with_reducible exact H2_) | with_reducible exact H | (rw [hy116]; exact H) | exact H
           have Ny116 := aM hy116
           clear hy116
           have H' := aM H
           clear H
           have p112 : 0 ≤ (x63_1 : Int) := of_decide_eq_true (by first | (with_reducible assumption) | assumption)
           have q112 : x63_1 < (l1_5.length : Int) := of_decide_eq_true (by first | (with_reducible assumption) | assumption)
           obtain ⟨ad112, A112_5, c112_5, e112, hx112_0, hx112_1, hx112_2, hx112_3, hx112_4, hx112_5, hl112_5, hi112_5⟩ := at_T26 HR1_5.out x63_1 p112 q112
           cases e112
           replace hx112_0 := (HB.out.cell (World.block_lt_of_cell? w _ hx112_0)).trans hx112_0
           replace hx112_1 := (HB.out.cell (World.block_lt_of_cell? w _ hx112_1)).trans hx112_1
           replace hx112_2 := (HB.out.cell (World.block_lt_of_cell? w _ hx112_2)).trans hx112_2
           replace hx112_3 := (HB.out.cell (World.block_lt_of_cell? w _ hx112_3)).trans hx112_3
           replace hx112_4 := (HB.out.cell (World.block_lt_of_cell? w _ hx112_4)).trans hx112_4
           replace hx112_5 := (HB.out.cell (World.block_lt_of_cell? w _ hx112_5)).trans hx112_5
           have HR112_5 := aM hi112_5
           have HC112_5 := aM hl112_5
           clear hi112_5 hl112_5
           replace p112 := eq_true p112
           replace q112 := eq_true q112
           go_wp2_with (first | ((with_reducible refine gate_dst (N := 9) rfl ?_); (try (refine gate_guard (by rfl) ?_; dsimp only)); refine bE (N := 9) (cs := #[.int .i64 0, .string (⟨#[]⟩ : ByteArray), .int .i64 0, .int .i64 0, .string (⟨#[]⟩ : ByteArray), .slice none 0 0]) (t := 26) ?_; intro gb113 hg w73 hbox hb; have n0_ := aM (Kd.R_below (rO HO_7) hb); have n1_ := aM (blk_below (bO BK107) hb); have n2_ := aM (blk_below (bO BK108) hb); have n3_ := aM (below_step (lO HB) hb); have n4_ := aM (hbox); have n5_ := aM (gO hg (lO HB)); have n6_ := aM (gO hg (lO HB)); have n7_ := aM (ne_lt hg (bO BK107)); have n8_ := aM (ne_gt hg (bO BK107)); have n9_ := aM (ne_lt hg (bO BK108)); have n10_ := aM (ne_gt hg (bO BK108)); clear HO_7; clear BK107; clear BK108; clear HB; have HO_7 := n0_; have BK107 := n1_; have BK108 := n2_; have HB := n3_; have BK113 := n4_; have GW113 := n5_; have GE113 := n6_; have NB107_113 := n7_; have NB113_107 := n8_; have NB108_113 := n9_; have NB113_108 := n10_; clear n0_ n1_ n2_ n3_ n4_ n5_ n6_ n7_ n8_ n9_ n10_; clear hb hbox hg; have hnb74 := NB113_107.out; have hnc74 := NB107_113.out; have hnb75 := NB113_108.out; have hnc75 := NB108_113.out; have C76_0 := c6_0 BK113; have C76_1 := c6_1 BK113; have C76_2 := c6_2 BK113; have C76_3 := c6_3 BK113; have C76_4 := c6_4 BK113; have C76_5 := c6_5 BK113; have F76_0 := fz BK113 0; have F76_1 := fz BK113 1; have F76_2 := fz BK113 2; have F76_3 := fz BK113 3; have F76_4 := fz BK113 4; have F76_5 := fz BK113 5; have hnb77 := NB107_108.out; have hnc77 := NB108_107.out; have C78_0 := c11_0 BK107; have C78_1 := c11_1 BK107; have C78_2 := c11_2 BK107; have C78_3 := c11_3 BK107; have C78_4 := c11_4 BK107; have C78_5 := c11_5 BK107; have C78_6 := c11_6 BK107; have C78_7 := c11_7 BK107; have C78_8 := c11_8 BK107; have C78_9 := c11_9 BK107; have C78_10 := c11_10 BK107; have F78_0 := fz BK107 0; have F78_1 := fz BK107 1; have F78_2 := fz BK107 2; have F78_3 := fz BK107 3; have F78_4 := fz BK107 4; have F78_5 := fz BK107 5; have F78_6 := fz BK107 6; have F78_7 := fz BK107 7; have F78_8 := fz BK107 8; have F78_9 := fz BK107 9; have F78_10 := fz BK107 10) | ((with_reducible refine gate_callee (f := 25) rfl ?_); refine gL (some 70) rfl rfl Try.func25 (by kernel_rfl) rfl #[.agg #[.string a0_0, .slice A0_1 l0_1.length c0_1, .int .i64 a0_2, .int .i64 a0_3, .int .i64 a0_4, .slice A0_5 l0_5.length c0_5, .slice A0_6 l0_6.length c0_6, .slice A0_7 l0_7.length c0_7, .int .i64 a0_8, .int .i64 a0_9, .int .i64 a0_10], .agg #[.int .i64 ((rd_T26 l1_5 x63_1).f0), .string ((rd_T26 l1_5 x63_1).f1), .int .i64 ((rd_T26 l1_5 x63_1).f2.f0), .int .i64 ((rd_T26 l1_5 x63_1).f2.f1), .string ((rd_T26 l1_5 x63_1).f2.f2), .slice A112_5 ((rd_T26 l1_5 x63_1).f3).length c112_5]] rfl ?_; (with_reducible refine (ih k1 (by have := HK1.out; omega) a0_0 _ _ l0_1 a0_2 a0_3 a0_4 _ _ l0_5 _ _ l0_6 _ _ l0_7 a0_8 a0_9 a0_10 ((rd_T26 l1_5 x63_1).f0) ((rd_T26 l1_5 x63_1).f1) ((rd_T26 l1_5 x63_1).f2.f0) ((rd_T26 l1_5 x63_1).f2.f1) ((rd_T26 l1_5 x63_1).f2.f2) _ _ ((rd_T26 l1_5 x63_1).f3) t114 t115 _ ?side1 ?side2 ?side3 ?side4 ?side5 ?side6 ?side7 ?side8 ?side9 ?side10 A70.out).mono ?_); (case side1 => exact Kd.C_below HR0_1.out (lO HB)); (case side2 => exact HC0_1.out); (case side3 => exact Kd.C_below HR0_5.out (lO HB)); (case side4 => exact HC0_5.out); (case side5 => exact Kd.C_below HR0_6.out (lO HB)); (case side6 => exact HC0_6.out); (case side7 => exact Kd.C_below HR0_7.out (lO HB)); (case side8 => exact HC0_7.out); (case side9 => exact Kd.C_below HR112_5.out (lO HB)); (case side10 => exact HC112_5.out); rintro e w79 ⟨rfl, hb⟩; refine ⟨_, rfl, ?_⟩; have n0_ := aM (Kd.R_below (by (with_reducible repeat (first | apply Kd.R_alloc | apply Kd.R_drewN | apply Kd.R_drew)); exact (Kd.R_mono (Kd.R_far (p := ⟨gb113, 5, none⟩) (Kd.R_far (p := ⟨gb113, 4, none⟩) (Kd.R_far (p := ⟨gb113, 3, none⟩) (Kd.R_far (p := ⟨gb113, 2, none⟩) (Kd.R_far (p := ⟨gb113, 1, none⟩) (Kd.R_far (p := ⟨gb113, 0, none⟩) (Kd.R_types HO_7.out BK113.out (by decide)) (fun _ hk => hk.2) (.int .i64 ((rd_T26 l1_5 x63_1).f0))) (fun _ hk => hk.2) (.string ((rd_T26 l1_5 x63_1).f1))) (fun _ hk => hk.2) (.int .i64 ((rd_T26 l1_5 x63_1).f2.f0))) (fun _ hk => hk.2) (.int .i64 ((rd_T26 l1_5 x63_1).f2.f1))) (fun _ hk => hk.2) (.string ((rd_T26 l1_5 x63_1).f2.f2))) (fun _ hk => hk.2) (.slice A112_5 ((rd_T26 l1_5 x63_1).f3).length c112_5)) (fun _ h_ => h_.1))) hb); have n1_ := aM (blk_below (g := gb107) (o := .cells #[.string a0_0, .slice A0_1 l0_1.length c0_1, .int .i64 a0_2, .int .i64 a0_3, .int .i64 a0_4, .slice A0_5 l0_5.length c0_5, .slice A0_6 l0_6.length c0_6, .slice A0_7 l0_7.length c0_7, .int .i64 a0_8, .int .i64 a0_9, .int .i64 a0_10] 32 (0, 0)) (by (with_reducible repeat (first | refine blk_drewN ?_ _ | refine blk_drew ?_ | refine blk_alloc ?_ _)); refine blk_far ?_ NB107_113.out _; (with_reducible repeat (first | refine blk_drewN ?_ _ | refine blk_drew ?_ | refine blk_alloc ?_ _)); refine blk_far ?_ NB107_113.out _; (with_reducible repeat (first | refine blk_drewN ?_ _ | refine blk_drew ?_ | refine blk_alloc ?_ _)); refine blk_far ?_ NB107_113.out _; (with_reducible repeat (first | refine blk_drewN ?_ _ | refine blk_drew ?_ | refine blk_alloc ?_ _)); refine blk_far ?_ NB107_113.out _; (with_reducible repeat (first | refine blk_drewN ?_ _ | refine blk_drew ?_ | refine blk_alloc ?_ _)); refine blk_far ?_ NB107_113.out _; (with_reducible repeat (first | refine blk_drewN ?_ _ | refine blk_drew ?_ | refine blk_alloc ?_ _)); refine blk_far ?_ NB107_113.out _; (with_reducible repeat (first | refine blk_drewN ?_ _ | refine blk_drew ?_ | refine blk_alloc ?_ _)); exact BK107.out) hb); have n2_ := aM (blk_below (g := gb108) (o := .cells #[.int .i64 a1_0, .string a1_1, .int .i64 a1_2, .int .i64 a1_3, .string a1_4, .slice (some ad112) l1_5.length c1_5] 26 (0, 0)) (by (with_reducible repeat (first | refine blk_drewN ?_ _ | refine blk_drew ?_ | refine blk_alloc ?_ _)); refine blk_far ?_ NB108_113.out _; (with_reducible repeat (first | refine blk_drewN ?_ _ | refine blk_drew ?_ | refine blk_alloc ?_ _)); refine blk_far ?_ NB108_113.out _; (with_reducible repeat (first | refine blk_drewN ?_ _ | refine blk_drew ?_ | refine blk_alloc ?_ _)); refine blk_far ?_ NB108_113.out _; (with_reducible repeat (first | refine blk_drewN ?_ _ | refine blk_drew ?_ | refine blk_alloc ?_ _)); refine blk_far ?_ NB108_113.out _; (with_reducible repeat (first | refine blk_drewN ?_ _ | refine blk_drew ?_ | refine blk_alloc ?_ _)); refine blk_far ?_ NB108_113.out _; (with_reducible repeat (first | refine blk_drewN ?_ _ | refine blk_drew ?_ | refine blk_alloc ?_ _)); refine blk_far ?_ NB108_113.out _; (with_reducible repeat (first | refine blk_drewN ?_ _ | refine blk_drew ?_ | refine blk_alloc ?_ _)); exact BK108.out) hb); have n3_ := aM (blk_below (g := gb113) (o := .cells #[.int .i64 ((rd_T26 l1_5 x63_1).f0), .string ((rd_T26 l1_5 x63_1).f1), .int .i64 ((rd_T26 l1_5 x63_1).f2.f0), .int .i64 ((rd_T26 l1_5 x63_1).f2.f1), .string ((rd_T26 l1_5 x63_1).f2.f2), .slice A112_5 ((rd_T26 l1_5 x63_1).f3).length c112_5] 26 (0, 0)) (by (with_reducible repeat (first | refine blk_drewN ?_ _ | refine blk_drew ?_ | refine blk_alloc ?_ _)); refine blk_put (cs := #[.int .i64 ((rd_T26 l1_5 x63_1).f0), .string ((rd_T26 l1_5 x63_1).f1), .int .i64 ((rd_T26 l1_5 x63_1).f2.f0), .int .i64 ((rd_T26 l1_5 x63_1).f2.f1), .string ((rd_T26 l1_5 x63_1).f2.f2), .slice none 0 0]) ?_ 5 _ rfl; (with_reducible repeat (first | refine blk_drewN ?_ _ | refine blk_drew ?_ | refine blk_alloc ?_ _)); refine blk_put (cs := #[.int .i64 ((rd_T26 l1_5 x63_1).f0), .string ((rd_T26 l1_5 x63_1).f1), .int .i64 ((rd_T26 l1_5 x63_1).f2.f0), .int .i64 ((rd_T26 l1_5 x63_1).f2.f1), .string (⟨#[]⟩ : ByteArray), .slice none 0 0]) ?_ 4 _ rfl; (with_reducible repeat (first | refine blk_drewN ?_ _ | refine blk_drew ?_ | refine blk_alloc ?_ _)); refine blk_put (cs := #[.int .i64 ((rd_T26 l1_5 x63_1).f0), .string ((rd_T26 l1_5 x63_1).f1), .int .i64 ((rd_T26 l1_5 x63_1).f2.f0), .int .i64 0, .string (⟨#[]⟩ : ByteArray), .slice none 0 0]) ?_ 3 _ rfl; (with_reducible repeat (first | refine blk_drewN ?_ _ | refine blk_drew ?_ | refine blk_alloc ?_ _)); refine blk_put (cs := #[.int .i64 ((rd_T26 l1_5 x63_1).f0), .string ((rd_T26 l1_5 x63_1).f1), .int .i64 0, .int .i64 0, .string (⟨#[]⟩ : ByteArray), .slice none 0 0]) ?_ 2 _ rfl; (with_reducible repeat (first | refine blk_drewN ?_ _ | refine blk_drew ?_ | refine blk_alloc ?_ _)); refine blk_put (cs := #[.int .i64 ((rd_T26 l1_5 x63_1).f0), .string (⟨#[]⟩ : ByteArray), .int .i64 0, .int .i64 0, .string (⟨#[]⟩ : ByteArray), .slice none 0 0]) ?_ 1 _ rfl; (with_reducible repeat (first | refine blk_drewN ?_ _ | refine blk_drew ?_ | refine blk_alloc ?_ _)); refine blk_put (cs := #[.int .i64 0, .string (⟨#[]⟩ : ByteArray), .int .i64 0, .int .i64 0, .string (⟨#[]⟩ : ByteArray), .slice none 0 0]) ?_ 0 _ rfl; (with_reducible repeat (first | refine blk_drewN ?_ _ | refine blk_drew ?_ | refine blk_alloc ?_ _)); exact BK113.out) hb); have n4_ := aM (below_step (lO HB) hb); clear HO_7; clear BK107; clear BK108; clear BK113; clear HB; have HO_7 := n0_; have BK107 := n1_; have BK108 := n2_; have BK113 := n3_; have HB := n4_; clear n0_ n1_ n2_ n3_ n4_; (try clear hb); (try clear hb2); (try clear hk); (try clear hi)) | ((with_reducible refine gate_builtin (b := .append) (xs := #[.tmp 76, .tmp 78]) rfl ?_); (try (refine gate_guard (by rfl) ?_; dsimp only)); at_builtin; refine Kd.R_append (Kd.int .i64) (w0 := w) w.heap.size rfl (.tmp 76) (.tmp 78) 28 3 (.int .i64 0) 8 rfl Try.underlying28 info3 rfl (by decide) (by omega) u7 x7_1 t114 [.int .i64 t114] (fun _ => True) (fun _ => False) rfl rfl ?aP (fun _ hk => hk.elim) ?aF ?aO ?aB ?aS ?aL ?_; (case aP => exact rfl); (case aB => exact (lO HB)); (case aF => exact (fun _ _ => trivial)); (case aO => exact (rO HO_7)); (case aS => exact (below_size (lO HB))); (case aL => have := LMc72.out; omega); intro v117 w80 ho hb hg hat; rw [← Ny116.out] at ho; have n0_ := aM (blk_grown (g := gb107) (o := .cells #[.string a0_0, .slice A0_1 l0_1.length c0_1, .int .i64 a0_2, .int .i64 a0_3, .int .i64 a0_4, .slice A0_5 l0_5.length c0_5, .slice A0_6 l0_6.length c0_6, .slice A0_7 l0_7.length c0_7, .int .i64 a0_8, .int .i64 a0_9, .int .i64 a0_10] 32 (0, 0)) (bO BK107) hg (Kd.R_ne HO_7.out BK107.out (by decide))); have n1_ := aM (blk_grown (g := gb108) (o := .cells #[.int .i64 a1_0, .string a1_1, .int .i64 a1_2, .int .i64 a1_3, .string a1_4, .slice (some ad112) l1_5.length c1_5] 26 (0, 0)) (bO BK108) hg (Kd.R_ne HO_7.out BK108.out (by decide))); have n2_ := aM (blk_grown (g := gb113) (o := .cells #[.int .i64 ((rd_T26 l1_5 x63_1).f0), .string ((rd_T26 l1_5 x63_1).f1), .int .i64 ((rd_T26 l1_5 x63_1).f2.f0), .int .i64 ((rd_T26 l1_5 x63_1).f2.f1), .string ((rd_T26 l1_5 x63_1).f2.f2), .slice A112_5 ((rd_T26 l1_5 x63_1).f3).length c112_5] 26 (0, 0)) (bO BK113) hg (Kd.R_ne HO_7.out BK113.out (by decide))); have n3_ := aM (hb); have n4_ := aM (ho); clear BK107; clear BK108; clear BK113; clear HB; clear HO_7; have BK107 := n0_; have BK108 := n1_; have BK113 := n2_; have HB := n3_; have HO118 := n4_; clear n0_ n1_ n2_ n3_ n4_; clear ho hb hg hat))
           go_roundg k1
           case measure => have := HK1.out; omega
           case rel => exact ⟨(y116), (wrap64 (x63_1 + 1)), (by first | rfl | (simp; done) | (simp [*]; done)), H', ⟨by have := HK1.out; omega⟩, ⟨rO HO118⟩, ⟨bO BK107⟩, ⟨bO BK108⟩, ⟨(lO HB)⟩⟩
          ·rw [if_neg c72] at H
           exact absurd H (by simp)
         ·rw [if_neg c71] at H
          have c71b0 : (t115 == 0) = false := beq_eq_false_iff_ne.mpr c71
          have c71b1 : (t115 != 0) = true := bne_iff_ne.mpr c71
          simp only [Option.some.injEq, Prod.mk.injEq] at H
          obtain ⟨rfl, rfl⟩ := H
          have p112 : 0 ≤ (x63_1 : Int) := of_decide_eq_true (by first | (with_reducible assumption) | assumption)
          have q112 : x63_1 < (l1_5.length : Int) := of_decide_eq_true (by first | (with_reducible assumption) | assumption)
          obtain ⟨ad112, A112_5, c112_5, e112, hx112_0, hx112_1, hx112_2, hx112_3, hx112_4, hx112_5, hl112_5, hi112_5⟩ := at_T26 HR1_5.out x63_1 p112 q112
          cases e112
          replace hx112_0 := (HB.out.cell (World.block_lt_of_cell? w _ hx112_0)).trans hx112_0
          replace hx112_1 := (HB.out.cell (World.block_lt_of_cell? w _ hx112_1)).trans hx112_1
          replace hx112_2 := (HB.out.cell (World.block_lt_of_cell? w _ hx112_2)).trans hx112_2
          replace hx112_3 := (HB.out.cell (World.block_lt_of_cell? w _ hx112_3)).trans hx112_3
          replace hx112_4 := (HB.out.cell (World.block_lt_of_cell? w _ hx112_4)).trans hx112_4
          replace hx112_5 := (HB.out.cell (World.block_lt_of_cell? w _ hx112_5)).trans hx112_5
          have HR112_5 := aM hi112_5
          have HC112_5 := aM hl112_5
          clear hi112_5 hl112_5
          replace p112 := eq_true p112
          replace q112 := eq_true q112
          go_wp2_with (first | ((with_reducible refine gate_dst (N := 9) rfl ?_); (try (refine gate_guard (by rfl) ?_; dsimp only)); refine bE (N := 9) (cs := #[.int .i64 0, .string (⟨#[]⟩ : ByteArray), .int .i64 0, .int .i64 0, .string (⟨#[]⟩ : ByteArray), .slice none 0 0]) (t := 26) ?_; intro gb113 hg w81 hbox hb; have n0_ := aM (Kd.R_below (rO HO_7) hb); have n1_ := aM (blk_below (bO BK107) hb); have n2_ := aM (blk_below (bO BK108) hb); have n3_ := aM (below_step (lO HB) hb); have n4_ := aM (hbox); have n5_ := aM (gO hg (lO HB)); have n6_ := aM (gO hg (lO HB)); have n7_ := aM (ne_lt hg (bO BK107)); have n8_ := aM (ne_gt hg (bO BK107)); have n9_ := aM (ne_lt hg (bO BK108)); have n10_ := aM (ne_gt hg (bO BK108)); clear HO_7; clear BK107; clear BK108; clear HB; have HO_7 := n0_; have BK107 := n1_; have BK108 := n2_; have HB := n3_; have BK113 := n4_; have GW113 := n5_; have GE113 := n6_; have NB107_113 := n7_; have NB113_107 := n8_; have NB108_113 := n9_; have NB113_108 := n10_; clear n0_ n1_ n2_ n3_ n4_ n5_ n6_ n7_ n8_ n9_ n10_; clear hb hbox hg; have hnb82 := NB113_107.out; have hnc82 := NB107_113.out; have hnb83 := NB113_108.out; have hnc83 := NB108_113.out; have C84_0 := c6_0 BK113; have C84_1 := c6_1 BK113; have C84_2 := c6_2 BK113; have C84_3 := c6_3 BK113; have C84_4 := c6_4 BK113; have C84_5 := c6_5 BK113; have F84_0 := fz BK113 0; have F84_1 := fz BK113 1; have F84_2 := fz BK113 2; have F84_3 := fz BK113 3; have F84_4 := fz BK113 4; have F84_5 := fz BK113 5; have hnb85 := NB107_108.out; have hnc85 := NB108_107.out; have C86_0 := c11_0 BK107; have C86_1 := c11_1 BK107; have C86_2 := c11_2 BK107; have C86_3 := c11_3 BK107; have C86_4 := c11_4 BK107; have C86_5 := c11_5 BK107; have C86_6 := c11_6 BK107; have C86_7 := c11_7 BK107; have C86_8 := c11_8 BK107; have C86_9 := c11_9 BK107; have C86_10 := c11_10 BK107; have F86_0 := fz BK107 0; have F86_1 := fz BK107 1; have F86_2 := fz BK107 2; have F86_3 := fz BK107 3; have F86_4 := fz BK107 4; have F86_5 := fz BK107 5; have F86_6 := fz BK107 6; have F86_7 := fz BK107 7; have F86_8 := fz BK107 8; have F86_9 := fz BK107 9; have F86_10 := fz BK107 10) | ((with_reducible refine gate_callee (f := 25) rfl ?_); refine gL (some 70) rfl rfl Try.func25 (by kernel_rfl) rfl #[.agg #[.string a0_0, .slice A0_1 l0_1.length c0_1, .int .i64 a0_2, .int .i64 a0_3, .int .i64 a0_4, .slice A0_5 l0_5.length c0_5, .slice A0_6 l0_6.length c0_6, .slice A0_7 l0_7.length c0_7, .int .i64 a0_8, .int .i64 a0_9, .int .i64 a0_10], .agg #[.int .i64 ((rd_T26 l1_5 x63_1).f0), .string ((rd_T26 l1_5 x63_1).f1), .int .i64 ((rd_T26 l1_5 x63_1).f2.f0), .int .i64 ((rd_T26 l1_5 x63_1).f2.f1), .string ((rd_T26 l1_5 x63_1).f2.f2), .slice A112_5 ((rd_T26 l1_5 x63_1).f3).length c112_5]] rfl ?_; (with_reducible refine (ih k1 (by have := HK1.out; omega) a0_0 _ _ l0_1 a0_2 a0_3 a0_4 _ _ l0_5 _ _ l0_6 _ _ l0_7 a0_8 a0_9 a0_10 ((rd_T26 l1_5 x63_1).f0) ((rd_T26 l1_5 x63_1).f1) ((rd_T26 l1_5 x63_1).f2.f0) ((rd_T26 l1_5 x63_1).f2.f1) ((rd_T26 l1_5 x63_1).f2.f2) _ _ ((rd_T26 l1_5 x63_1).f3) t114 t115 _ ?side1 ?side2 ?side3 ?side4 ?side5 ?side6 ?side7 ?side8 ?side9 ?side10 A70.out).mono ?_); (case side1 => exact Kd.C_below HR0_1.out (lO HB)); (case side2 => exact HC0_1.out); (case side3 => exact Kd.C_below HR0_5.out (lO HB)); (case side4 => exact HC0_5.out); (case side5 => exact Kd.C_below HR0_6.out (lO HB)); (case side6 => exact HC0_6.out); (case side7 => exact Kd.C_below HR0_7.out (lO HB)); (case side8 => exact HC0_7.out); (case side9 => exact Kd.C_below HR112_5.out (lO HB)); (case side10 => exact HC112_5.out); rintro e w87 ⟨rfl, hb⟩; refine ⟨_, rfl, ?_⟩; have n0_ := aM (Kd.R_below (by (with_reducible repeat (first | apply Kd.R_alloc | apply Kd.R_drewN | apply Kd.R_drew)); exact (Kd.R_mono (Kd.R_far (p := ⟨gb113, 5, none⟩) (Kd.R_far (p := ⟨gb113, 4, none⟩) (Kd.R_far (p := ⟨gb113, 3, none⟩) (Kd.R_far (p := ⟨gb113, 2, none⟩) (Kd.R_far (p := ⟨gb113, 1, none⟩) (Kd.R_far (p := ⟨gb113, 0, none⟩) (Kd.R_types HO_7.out BK113.out (by decide)) (fun _ hk => hk.2) (.int .i64 ((rd_T26 l1_5 x63_1).f0))) (fun _ hk => hk.2) (.string ((rd_T26 l1_5 x63_1).f1))) (fun _ hk => hk.2) (.int .i64 ((rd_T26 l1_5 x63_1).f2.f0))) (fun _ hk => hk.2) (.int .i64 ((rd_T26 l1_5 x63_1).f2.f1))) (fun _ hk => hk.2) (.string ((rd_T26 l1_5 x63_1).f2.f2))) (fun _ hk => hk.2) (.slice A112_5 ((rd_T26 l1_5 x63_1).f3).length c112_5)) (fun _ h_ => h_.1))) hb); have n1_ := aM (blk_below (g := gb107) (o := .cells #[.string a0_0, .slice A0_1 l0_1.length c0_1, .int .i64 a0_2, .int .i64 a0_3, .int .i64 a0_4, .slice A0_5 l0_5.length c0_5, .slice A0_6 l0_6.length c0_6, .slice A0_7 l0_7.length c0_7, .int .i64 a0_8, .int .i64 a0_9, .int .i64 a0_10] 32 (0, 0)) (by (with_reducible repeat (first | refine blk_drewN ?_ _ | refine blk_drew ?_ | refine blk_alloc ?_ _)); refine blk_far ?_ NB107_113.out _; (with_reducible repeat (first | refine blk_drewN ?_ _ | refine blk_drew ?_ | refine blk_alloc ?_ _)); refine blk_far ?_ NB107_113.out _; (with_reducible repeat (first | refine blk_drewN ?_ _ | refine blk_drew ?_ | refine blk_alloc ?_ _)); refine blk_far ?_ NB107_113.out _; (with_reducible repeat (first | refine blk_drewN ?_ _ | refine blk_drew ?_ | refine blk_alloc ?_ _)); refine blk_far ?_ NB107_113.out _; (with_reducible repeat (first | refine blk_drewN ?_ _ | refine blk_drew ?_ | refine blk_alloc ?_ _)); refine blk_far ?_ NB107_113.out _; (with_reducible repeat (first | refine blk_drewN ?_ _ | refine blk_drew ?_ | refine blk_alloc ?_ _)); refine blk_far ?_ NB107_113.out _; (with_reducible repeat (first | refine blk_drewN ?_ _ | refine blk_drew ?_ | refine blk_alloc ?_ _)); exact BK107.out) hb); have n2_ := aM (blk_below (g := gb108) (o := .cells #[.int .i64 a1_0, .string a1_1, .int .i64 a1_2, .int .i64 a1_3, .string a1_4, .slice (some ad112) l1_5.length c1_5] 26 (0, 0)) (by (with_reducible repeat (first | refine blk_drewN ?_ _ | refine blk_drew ?_ | refine blk_alloc ?_ _)); refine blk_far ?_ NB108_113.out _; (with_reducible repeat (first | refine blk_drewN ?_ _ | refine blk_drew ?_ | refine blk_alloc ?_ _)); refine blk_far ?_ NB108_113.out _; (with_reducible repeat (first | refine blk_drewN ?_ _ | refine blk_drew ?_ | refine blk_alloc ?_ _)); refine blk_far ?_ NB108_113.out _; (with_reducible repeat (first | refine blk_drewN ?_ _ | refine blk_drew ?_ | refine blk_alloc ?_ _)); refine blk_far ?_ NB108_113.out _; (with_reducible repeat (first | refine blk_drewN ?_ _ | refine blk_drew ?_ | refine blk_alloc ?_ _)); refine blk_far ?_ NB108_113.out _; (with_reducible repeat (first | refine blk_drewN ?_ _ | refine blk_drew ?_ | refine blk_alloc ?_ _)); refine blk_far ?_ NB108_113.out _; (with_reducible repeat (first | refine blk_drewN ?_ _ | refine blk_drew ?_ | refine blk_alloc ?_ _)); exact BK108.out) hb); have n3_ := aM (blk_below (g := gb113) (o := .cells #[.int .i64 ((rd_T26 l1_5 x63_1).f0), .string ((rd_T26 l1_5 x63_1).f1), .int .i64 ((rd_T26 l1_5 x63_1).f2.f0), .int .i64 ((rd_T26 l1_5 x63_1).f2.f1), .string ((rd_T26 l1_5 x63_1).f2.f2), .slice A112_5 ((rd_T26 l1_5 x63_1).f3).length c112_5] 26 (0, 0)) (by (with_reducible repeat (first | refine blk_drewN ?_ _ | refine blk_drew ?_ | refine blk_alloc ?_ _)); refine blk_put (cs := #[.int .i64 ((rd_T26 l1_5 x63_1).f0), .string ((rd_T26 l1_5 x63_1).f1), .int .i64 ((rd_T26 l1_5 x63_1).f2.f0), .int .i64 ((rd_T26 l1_5 x63_1).f2.f1), .string ((rd_T26 l1_5 x63_1).f2.f2), .slice none 0 0]) ?_ 5 _ rfl; (with_reducible repeat (first | refine blk_drewN ?_ _ | refine blk_drew ?_ | refine blk_alloc ?_ _)); refine blk_put (cs := #[.int .i64 ((rd_T26 l1_5 x63_1).f0), .string ((rd_T26 l1_5 x63_1).f1), .int .i64 ((rd_T26 l1_5 x63_1).f2.f0), .int .i64 ((rd_T26 l1_5 x63_1).f2.f1), .string (⟨#[]⟩ : ByteArray), .slice none 0 0]) ?_ 4 _ rfl; (with_reducible repeat (first | refine blk_drewN ?_ _ | refine blk_drew ?_ | refine blk_alloc ?_ _)); refine blk_put (cs := #[.int .i64 ((rd_T26 l1_5 x63_1).f0), .string ((rd_T26 l1_5 x63_1).f1), .int .i64 ((rd_T26 l1_5 x63_1).f2.f0), .int .i64 0, .string (⟨#[]⟩ : ByteArray), .slice none 0 0]) ?_ 3 _ rfl; (with_reducible repeat (first | refine blk_drewN ?_ _ | refine blk_drew ?_ | refine blk_alloc ?_ _)); refine blk_put (cs := #[.int .i64 ((rd_T26 l1_5 x63_1).f0), .string ((rd_T26 l1_5 x63_1).f1), .int .i64 0, .int .i64 0, .string (⟨#[]⟩ : ByteArray), .slice none 0 0]) ?_ 2 _ rfl; (with_reducible repeat (first | refine blk_drewN ?_ _ | refine blk_drew ?_ | refine blk_alloc ?_ _)); refine blk_put (cs := #[.int .i64 ((rd_T26 l1_5 x63_1).f0), .string (⟨#[]⟩ : ByteArray), .int .i64 0, .int .i64 0, .string (⟨#[]⟩ : ByteArray), .slice none 0 0]) ?_ 1 _ rfl; (with_reducible repeat (first | refine blk_drewN ?_ _ | refine blk_drew ?_ | refine blk_alloc ?_ _)); refine blk_put (cs := #[.int .i64 0, .string (⟨#[]⟩ : ByteArray), .int .i64 0, .int .i64 0, .string (⟨#[]⟩ : ByteArray), .slice none 0 0]) ?_ 0 _ rfl; (with_reducible repeat (first | refine blk_drewN ?_ _ | refine blk_drew ?_ | refine blk_alloc ?_ _)); exact BK113.out) hb); have n4_ := aM (below_step (lO HB) hb); clear HO_7; clear BK107; clear BK108; clear BK113; clear HB; have HO_7 := n0_; have BK107 := n1_; have BK108 := n2_; have BK113 := n3_; have HB := n4_; clear n0_ n1_ n2_ n3_ n4_; (try clear hb); (try clear hb2); (try clear hk); (try clear hi)))
          go_ret2
          exact ⟨by first | rfl | (simp [errW_none, errW_some] <;> rfl) | (simp [*, errW_none, errW_some] <;> rfl), (lO HB)⟩
        ·rw [if_neg c69] at H
         exact absurd H (by simp)
       ·rw [if_neg c68] at H
        exact absurd H (by simp)
      ·rw [if_neg c67] at H
       have c67b0 : decide (x63_1 < (l1_5.length : Int)) = false := decide_eq_false c67
       clear c67
       by_cases c88 : (!(a1_2 == 0) || (!(a1_3 == 0) || (!(a1_4.toList == ([] : List UInt8))))) = true
       ·rw [if_pos c88] at H
        have c88b0 : (!(a1_2 == 0) || (!(a1_3 == 0) || (!(a1_4.toList == ([] : List UInt8))))) = true := c88
        (try (have c88b1 : (!(a1_2 == 0) || (!(a1_3 == 0) || (!a1_4.toList.isEmpty))) = true := by simpa using c88))
        clear c88
        simp only [Option.some.injEq, Prod.mk.injEq] at H
        obtain ⟨rfl, rfl⟩ := H
        have hnb89 := NB108_107.out
        have hnc89 := NB107_108.out
        have C90_0 := c6_0 BK108
        have C90_1 := c6_1 BK108
        have C90_2 := c6_2 BK108
        have C90_3 := c6_3 BK108
        have C90_4 := c6_4 BK108
        have C90_5 := c6_5 BK108
        have F90_0 := fz BK108 0
        have F90_1 := fz BK108 1
        have F90_2 := fz BK108 2
        have F90_3 := fz BK108 3
        have F90_4 := fz BK108 4
        have F90_5 := fz BK108 5
        go_wp2
        go_ret2
        exact ⟨by first | rfl | (simp [errW_none, errW_some] <;> rfl) | (simp [*, errW_none, errW_some] <;> rfl), (lO HB)⟩
       ·rw [if_neg c88] at H
        have c88b0 : (!(a1_2 == 0) || (!(a1_3 == 0) || (!(a1_4.toList == ([] : List UInt8))))) = false := by simpa using c88
        (try (have c88b1 : (!(a1_2 == 0) || (!(a1_3 == 0) || (!a1_4.toList.isEmpty))) = false := by simpa using c88))
        clear c88
        replace H := Option.bind_eq_some_iff.mp H
        obtain ⟨⟨t119, t120⟩, A910, H⟩ := H
        replace H : (some (t119, t120)) = some (r1, r2) := H
        have A91 := aM A910
        clear A910
        simp only [Option.some.injEq, Prod.mk.injEq] at H
        obtain ⟨rfl, rfl⟩ := H
        have hnb92 := NB108_107.out
        have hnc92 := NB107_108.out
        have C93_0 := c6_0 BK108
        have C93_1 := c6_1 BK108
        have C93_2 := c6_2 BK108
        have C93_3 := c6_3 BK108
        have C93_4 := c6_4 BK108
        have C93_5 := c6_5 BK108
        have F93_0 := fz BK108 0
        have F93_1 := fz BK108 1
        have F93_2 := fz BK108 2
        have F93_3 := fz BK108 3
        have F93_4 := fz BK108 4
        have F93_5 := fz BK108 5
        obtain ⟨Ao94, co94, eo94⟩ := Kd.R_slice HO_7.out
        subst eo94
        go_wp2_with (first | ((with_reducible refine gate_callee (f := 34) rfl ?_); refine gL (some 88) rfl rfl Try.func34 (by kernel_rfl) rfl #[.string a1_1, .slice Ao94 x7_1.length co94] rfl ?_; (with_reducible refine (expr_operator.calls a1_1 _ _ x7_1 t119 t120 _ ?side1 ?side2 A91.out).mono ?_); (case side1 => exact cO (Kd.R_reads' HO_7.out).2.2); (case side2 => exact (Kd.R_reads' HO_7.out).2.1); rintro e w' ⟨rfl, ⟨nd, rfl⟩⟩; refine ⟨_, rfl, ?_⟩))
        go_ret2
        exact ⟨by first | rfl | (simp [errW_none, errW_some] <;> rfl) | (simp [*, errW_none, errW_some] <;> rfl), (lO HB)⟩
   ·rw [if_neg c62] at H
    have c62b0 : (a1_0 == 3) = false := beq_eq_false_iff_ne.mpr c62
    have c62b1 : (a1_0 != 3) = true := bne_iff_ne.mpr c62
    simp only [Option.some.injEq, Prod.mk.injEq] at H
    obtain ⟨rfl, rfl⟩ := H
    go_enter Try.func25, Try.ntmps25
    go_wp2_with (first | ((with_reducible refine gate_dst (N := 2) rfl ?_); (try (refine gate_guard (by rfl) ?_; dsimp only)); refine bE (N := 2) (cs := #[.string a0_0, .slice A0_1 l0_1.length c0_1, .int .i64 a0_2, .int .i64 a0_3, .int .i64 a0_4, .slice A0_5 l0_5.length c0_5, .slice A0_6 l0_6.length c0_6, .slice A0_7 l0_7.length c0_7, .int .i64 a0_8, .int .i64 a0_9, .int .i64 a0_10]) (t := 32) ?_; intro gb107 hg w95 hbox hb; have n0_ := aM (below_step (lO HB) hb); have n1_ := aM (hbox); have n2_ := aM (gO hg (lO HB)); have n3_ := aM (gO hg (lO HB)); clear HB; have HB := n0_; have BK107 := n1_; have GW107 := n2_; have GE107 := n3_; clear n0_ n1_ n2_ n3_; clear hb hbox hg) | ((with_reducible refine gate_dst (N := 3) rfl ?_); (try (refine gate_guard (by rfl) ?_; dsimp only)); refine bE (N := 3) (cs := #[.int .i64 a1_0, .string a1_1, .int .i64 a1_2, .int .i64 a1_3, .string a1_4, .slice A1_5 l1_5.length c1_5]) (t := 26) ?_; intro gb108 hg w96 hbox hb; have n0_ := aM (blk_below (bO BK107) hb); have n1_ := aM (below_step (lO HB) hb); have n2_ := aM (hbox); have n3_ := aM (gO hg (lO HB)); have n4_ := aM (gO hg (lO HB)); have n5_ := aM (ne_lt hg (bO BK107)); have n6_ := aM (ne_gt hg (bO BK107)); clear BK107; clear HB; have BK107 := n0_; have HB := n1_; have BK108 := n2_; have GW108 := n3_; have GE108 := n4_; have NB107_108 := n5_; have NB108_107 := n6_; clear n0_ n1_ n2_ n3_ n4_ n5_ n6_; clear hb hbox hg; have hnb97 := NB108_107.out; have hnc97 := NB107_108.out; have C98_0 := c6_0 BK108; have C98_1 := c6_1 BK108; have C98_2 := c6_2 BK108; have C98_3 := c6_3 BK108; have C98_4 := c6_4 BK108; have C98_5 := c6_5 BK108; have F98_0 := fz BK108 0; have F98_1 := fz BK108 1; have F98_2 := fz BK108 2; have F98_3 := fz BK108 3; have F98_4 := fz BK108 4; have F98_5 := fz BK108 5))
    go_ret2
    exact ⟨by first | rfl | (simp [errW_none, errW_some] <;> rfl) | (simp [*, errW_none, errW_some] <;> rfl), (lO HB)⟩

end Go.Proofs.Ytpmecpmankpcbaa.PK
