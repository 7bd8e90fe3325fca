/- The law ExprSums over plain data. No conditions. -/
import Derived.Test.YtpmecpmankpcbaaVa8
import Derived.Test.YtpmecpmankpcbaaEqS
namespace Go.Proofs.Ytpmecpmankpcbaa.Pure
open Go Go.Proofs Go.Proofs.Ytpmecpmankpcbaa.Rf
set_option linter.unusedVariables false
set_option linter.unusedSimpArgs false
attribute [local irreducible] C J7_0 J7_1
theorem sums_last (n : Nat) (a0 a1 : G) (a b q1 m1 : Int) (q m : G)
    (hq : b = 0 ∨ (b = -1 ∧ a = -9223372036854775808 ∧ q1 = 5) ∨ (b ≠ 0 ∧ q1 = 0 ∧ m1 = 0 ∧ IntKind.wrap .i64 (IntKind.wrap .i64 ((G.fld q 1).toInt * b) + (G.fld m 1).toInt) = a ∧ ((G.fld m 1).toInt = 0 ∨ (decide ((G.fld m 1).toInt < 0) = decide (a < 0))))) :
    J7_1 n a0 a1 a b q1 m1 q m = some (.bool true, []) := by
  rw [J7_1_eq]
  rcases hq with h1 | ⟨h1, h2, h3⟩ | ⟨h1, h2, h3, h4, h5⟩
  · simp [h1, cnd]
  · simp [h1, h2, h3, cnd]
  · rcases h5 with h5 | h5
    · have h7 := h4
      rw [h5, Int.add_zero] at h7
      simp [h1, h2, h3, h5, h7, cnd]
    · by_cases h6 : (G.fld m 1).toInt = 0
      · have h7 := h4
        rw [h6, Int.add_zero] at h7
        simp [h1, h2, h3, h6, h7, cnd]
      · simp [h1, h2, h3, h4, h5, h6, cnd]
theorem sums_mid (n : Nat) (a0 a1 : G) (a b q1 m1 n1 : Int) (q m k : G) (hl : J7_1 n a0 a1 a b q1 m1 q m = some (.bool true, []))
    (hn : (a = -9223372036854775808 ∧ n1 = 5) ∨ (a ≠ -9223372036854775808 ∧ n1 = 0 ∧ (G.fld k 1).toInt = IntKind.wrap .i64 (0 - a))) :
    J7_0 n a0 a1 a b q1 m1 n1 q m k = some (.bool true, []) := by
  rw [J7_0_eq, hl]
  rcases hn with ⟨h1, h2⟩ | ⟨h1, h2, h3⟩
  · simp [h1, h2, cnd]
  · simp [h1, h2, h3, cnd]
abbrev i2 (n : Int) : V := ⟨2, n, []⟩
theorem zzz_ok : ∀ v ∈ [V.z, V.z, V.z], v.ok := by
  intro v hv
  simp only [List.mem_cons, List.not_mem_nil, or_false] at hv
  rcases hv with rfl | rfl | rfl <;> exact z_ok
theorem ty_lit' (a : V) (h : may a = true) : tyE (litE a) = (a.k, 0) := by
  rw [tyE, if_pos rfl, if_pos ⟨rfl, rfl, h⟩]
theorem ev_lit' (row : List V) (a : V) : evE row (litE a) = (a, 0) := by rw [evE, if_pos rfl]
/-- An arithmetic operator over numbers. -/
theorem ar_two' (s : List UInt8) (k : Nat) (hk : 7 ≤ k ∧ k ≤ 11) (hs : opn s = k) (a b : V) (ha : may a = true) (hb : may b = true) (fa : fitsI 2 a.k = true) (fb : fitsI 2 b.k = true) : evalS [.z, .z, .z] (opE s [litE a, litE b]) = doesN k [a, b] := by
  have ho : opT (opn s) [a.k, b.k] = (2, 0) := by
    rw [hs]
    unfold opT
    have a1 : ¬ k = 0 := by omega
    have a2 : ¬ k ≤ 2 := by omega
    have a3 : ¬ k = 3 := by omega
    have a4 : ¬ k = 4 := by omega
    have a5 : ¬ k ≤ 6 := by omega
    have a6 : k ≤ 11 := by omega
    simp only [a1, a2, a3, a4, a5, a6, if_false, if_true]
    simp [toldT, fa, fb]
  unfold evalS
  rw [ty_op2, ty_lit' a ha, ty_lit' b hb, ev_op2, ev_lit', ev_lit', if_pos rfl, if_pos rfl, ho, if_pos rfl, if_pos (show rowOk [.z, .z, .z] = true from rfl), if_pos rfl, if_pos rfl, hs]
theorem neg_one (a : Int) : evalS [.z, .z, .z] (opE [78, 69, 71] [litE (i2 a)]) = num (rng (0 - a)) := by
  unfold evalS
  rw [ty_op1, ty_lit' (i2 a) rfl, ev_op1, ev_lit', if_pos rfl, if_pos rfl]
  rfl
theorem ok_i2 {a : Int} (h : I64 a) : (i2 a).ok := ⟨(by decide : I64 2), h, Nat.zero_le _⟩
theorem num_ok (x : Int × Int) (h : x.2 = 0) : num x = (i2 x.1, 0) := if_pos h
theorem num_no (x : Int × Int) (h : x.2 ≠ 0) : num x = (.z, x.2) := if_neg h
/-- What is added. -/
def sumV (a b : Int) : V := (num (rng (a + b))).1
theorem sumV_ok {a b : Int} : (sumV a b).ok ∧ may (sumV a b) = true ∧ fitsI 2 (sumV a b).k = true := by
  unfold sumV
  by_cases h : I64 (a + b)
  · rw [rng_ok h, num_ok _ rfl]
    exact ⟨ok_i2 h, rfl, rfl⟩
  · rw [rng_no h, num_no _ (by decide)]
    exact ⟨z_ok, rfl, rfl⟩
theorem sums_true {n : Nat} (hn : 2 ≤ n) {a b : Int} (ha : I64 a) (hb : I64 b) (h10 : C n 10 [] = some (.bool true, []))
    (hv : ∀ x ∈ [opE [43] [litE (i2 a), litE (i2 b)], opE [45] [litE (sumV a b), litE (i2 b)], opE [47] [litE (i2 a), litE (i2 b)], opE [37] [litE (i2 a), litE (i2 b)], opE [78, 69, 71] [litE (i2 a)]], C n 15 [.val tbl, .val (.sl ([V.z, V.z, V.z].map V.g)), .val x.g] = some (vg (evalS [V.z, V.z, V.z] x))) :
    C (n + 1) 7 [.val (.int .i64 a), .val (.int .i64 b)] = some (.bool true, []) := by
  have e1 : evalS [.z, .z, .z] (opE [43] [litE (i2 a), litE (i2 b)]) = num (rng (a + b)) := ar_two' [43] 7 (by decide) rfl (i2 a) (i2 b) rfl rfl rfl rfl
  have e2 : evalS [.z, .z, .z] (opE [45] [litE (sumV a b), litE (i2 b)]) = doesN 8 [sumV a b, i2 b] := ar_two' [45] 8 (by decide) rfl _ (i2 b) sumV_ok.2.1 rfl sumV_ok.2.2 rfl
  have e3 : evalS [.z, .z, .z] (opE [47] [litE (i2 a), litE (i2 b)]) = num (divS a b) := ar_two' [47] 10 (by decide) rfl (i2 a) (i2 b) rfl rfl rfl rfl
  have e4 : evalS [.z, .z, .z] (opE [37] [litE (i2 a), litE (i2 b)]) = num (modS a b) := ar_two' [37] 11 (by decide) rfl (i2 a) (i2 b) rfl rfl rfl rfl
  have e5 := neg_one a
  have h1 := hv (opE [43] [litE (i2 a), litE (i2 b)]) (by simp)
  have h2 := hv (opE [45] [litE (sumV a b), litE (i2 b)]) (by simp)
  have h3 := hv (opE [47] [litE (i2 a), litE (i2 b)]) (by simp)
  have h4 := hv (opE [37] [litE (i2 a), litE (i2 b)]) (by simp)
  have h5 := hv (opE [78, 69, 71] [litE (i2 a)]) (by simp)
  rw [e1] at h1
  rw [e2] at h2
  rw [e3] at h3
  rw [e4] at h4
  rw [e5] at h5
  -- the three facts
  have hs : ((num (rng (a + b))).2 = 0 ∧ (doesN 8 [sumV a b, i2 b]).2 = 0 ∧ (doesN 8 [sumV a b, i2 b]).1.n = a) ∨ (num (rng (a + b))).2 = 5 := by
    by_cases h : I64 (a + b)
    · left
      have hsv : sumV a b = i2 (a + b) := by unfold sumV; rw [rng_ok h, num_ok _ rfl]
      have hd : doesN 8 [sumV a b, i2 b] = num (rng (a + b - b)) := by rw [hsv]; rfl
      rw [hd, show a + b - b = a by omega, rng_ok h, rng_ok ha, num_ok _ rfl, num_ok _ rfl]
      exact ⟨rfl, rfl, rfl⟩
    · right
      rw [rng_no h]
      rfl
  have hneg : (a = -9223372036854775808 ∧ (num (rng (0 - a))).2 = 5) ∨ (a ≠ -9223372036854775808 ∧ (num (rng (0 - a))).2 = 0 ∧ (num (rng (0 - a))).1.n = IntKind.wrap .i64 (0 - a)) := by
    unfold I64 at ha
    by_cases h : a = -9223372036854775808
    · left
      rw [rng_no (by unfold I64; omega)]
      exact ⟨h, rfl⟩
    · right
      rw [rng_ok (by unfold I64; omega), num_ok _ rfl, wr (by omega) (by omega)]
      exact ⟨h, rfl, rfl⟩
  have hq : (b = 0 ∧ (num (divS a b)).2 = 17 ∧ (num (modS a b)).2 = 17) ∨ (b ≠ 0 ∧ ((b = -1 ∧ a = -9223372036854775808 ∧ (num (divS a b)).2 = 5) ∨ (b ≠ 0 ∧ (num (divS a b)).2 = 0 ∧ (num (modS a b)).2 = 0 ∧ IntKind.wrap .i64 (IntKind.wrap .i64 ((num (divS a b)).1.n * b) + (num (modS a b)).1.n) = a ∧ ((num (modS a b)).1.n = 0 ∨ (decide ((num (modS a b)).1.n < 0) = decide (a < 0)))))) := by
    by_cases h : b = 0
    · left
      unfold divS modS
      rw [if_pos h, if_pos h]
      exact ⟨h, rfl, rfl⟩
    · right
      refine ⟨h, ?_⟩
      have hdv : divS a b = rng (Int.tdiv a b) := if_neg h
      have hmd : modS a b = (Int.tmod a b, 0) := if_neg h
      rw [hdv, hmd, num_ok (Int.tmod a b, 0) rfl]
      by_cases hr : I64 (Int.tdiv a b)
      · right
        rw [rng_ok hr, num_ok _ rfl]
        have key : Int.tdiv a b * b + Int.tmod a b = a := by rw [Int.mul_comm]; exact Int.mul_tdiv_add_tmod a b
        have hm := tmod_i (b := b) ha
        have hsg : 0 ≤ a → 0 ≤ a.tmod b := fun h => Int.tmod_nonneg b h
        have hsg2 : a ≤ 0 → a.tmod b ≤ 0 := fun h => by
          have h3 : 0 ≤ (-a).tmod b := Int.tmod_nonneg b (by omega)
          rw [Int.neg_tmod] at h3
          omega
        have hab : (a.tmod b).natAbs ≤ a.natAbs := by
          have h1 : (a.tmod b).natAbs = a.natAbs % b.natAbs := Int.natAbs_tmod a b
          rw [h1]
          exact Nat.mod_le _ _
        unfold I64 at ha
        refine ⟨h, rfl, rfl, ?_, ?_⟩
        · show IntKind.wrap .i64 (IntKind.wrap .i64 (Int.tdiv a b * b) + Int.tmod a b) = a
          rw [wr (show -9223372036854775808 ≤ Int.tdiv a b * b by omega) (by omega), key, wr ha.1 ha.2]
        · show Int.tmod a b = 0 ∨ decide (Int.tmod a b < 0) = decide (a < 0)
          by_cases h0 : Int.tmod a b = 0
          · exact .inl h0
          · right
            refine decide_eq_decide.2 ?_
            constructor <;> intro hh <;> omega
      · left
        have h1 : b = -1 := Classical.byContradiction fun h1 => hr (tdiv_rng ha h h1)
        refine ⟨h1, ?_, by rw [rng_no hr]; rfl⟩
        refine Classical.byContradiction fun h2 => hr ?_
        rw [h1, Int.tdiv_neg, Int.tdiv_one]
        unfold I64 at ha ⊢
        omega
  have hJ1 : ∀ a0 a1 : G, J7_1 n a0 a1 a b (num (divS a b)).2 (num (modS a b)).2 (num (divS a b)).1.g (num (modS a b)).1.g = some (.bool true, []) := by
    intro a0 a1
    refine sums_last n a0 a1 a b _ _ _ _ ?_
    rcases hq with ⟨h, _⟩ | ⟨_, h⟩
    · exact .inl h
    · exact .inr h
  have hJ0 : ∀ a0 a1 : G, J7_0 n a0 a1 a b (num (divS a b)).2 (num (modS a b)).2 (num (rng (0 - a))).2 (num (divS a b)).1.g (num (modS a b)).1.g (num (rng (0 - a))).1.g = some (.bool true, []) :=
    fun a0 a1 => sums_mid n a0 a1 a b _ _ _ _ _ _ (hJ1 a0 a1) hneg
  rw [f7_eq]
  refine bind_of h10 ?_
  refine grd_f rfl ?_
  refine bind_of (lit_le (by omega) (i2 a)) ?_
  refine bind_of (lit_le (by omega) (i2 b)) ?_
  refine bind_of (table_le (by omega)) ?_
  refine bind_of (op2_le (by omega) [43] (litE (i2 a)) (litE (i2 b))) ?_
  refine bind_of h1 ?_
  refine bind_of (table_le (by omega)) ?_
  refine bind_of (lit_le (by omega) (sumV a b)) ?_
  refine bind_of (op2_le (by omega) [45] (litE (sumV a b)) (litE (i2 b))) ?_
  refine bind_of h2 ?_
  refine bind_of (table_le (by omega)) ?_
  refine bind_of (op2_le (by omega) [47] (litE (i2 a)) (litE (i2 b))) ?_
  refine bind_of h3 ?_
  refine bind_of (table_le (by omega)) ?_
  refine bind_of (op2_le (by omega) [37] (litE (i2 a)) (litE (i2 b))) ?_
  refine bind_of h4 ?_
  refine bind_of (table_le (by omega)) ?_
  refine bind_of (op1_le (by omega) [78, 69, 71] (litE (i2 a))) ?_
  refine bind_of h5 ?_
  have hJ : J7_0 n (.int .i64 a) (.int .i64 b) (G.int .i64 a).toInt (G.int .i64 b).toInt (G.fld (vg (num (divS a b))).1 1).toInt (G.fld (vg (num (modS a b))).1 1).toInt (G.fld (vg (num (rng (0 - a)))).1 1).toInt (G.fld (vg (num (divS a b))).1 0) (G.fld (vg (num (modS a b))).1 0) (G.fld (vg (num (rng (0 - a)))).1 0) = some (.bool true, []) := hJ0 _ _
  rw [hJ]
  show cnd (decide (b = 0)) (cnd (!decide ((num (divS a b)).2 = 17)) _ (cnd (!decide ((num (modS a b)).2 = 17)) _ (cnd (decide ((num (rng (a + b))).2 = 0)) (cnd (!decide ((doesN 8 [sumV a b, i2 b]).2 = 0)) _ (cnd (!decide ((doesN 8 [sumV a b, i2 b]).1.n = a)) _ (cnd (!decide ((num (rng (a + b))).2 = 0)) (cnd (!decide ((num (rng (a + b))).2 = 5)) _ _) _))) (cnd (!decide ((num (rng (a + b))).2 = 0)) (cnd (!decide ((num (rng (a + b))).2 = 5)) _ _) _)))) (cnd (decide ((num (rng (a + b))).2 = 0)) (cnd (!decide ((doesN 8 [sumV a b, i2 b]).2 = 0)) _ (cnd (!decide ((doesN 8 [sumV a b, i2 b]).1.n = a)) _ (cnd (!decide ((num (rng (a + b))).2 = 0)) (cnd (!decide ((num (rng (a + b))).2 = 5)) _ _) _))) (cnd (!decide ((num (rng (a + b))).2 = 0)) (cnd (!decide ((num (rng (a + b))).2 = 5)) _ _) _)) = _
  rcases hq with ⟨q1, q2, q3⟩ | ⟨q1, _⟩ <;> rcases hs with ⟨s1, s2, s3⟩ | s1
  · rw [q2, q3, s1, s2, s3, decide_eq_true q1]; simp [cnd]
  · rw [q2, q3, s1, decide_eq_true q1]; simp [cnd]
  · rw [s1, s2, s3, decide_eq_false q1]; simp [cnd]
  · rw [s1, decide_eq_false q1]; simp [cnd]
theorem ExprSums (xs : List G) (h : WGs tab Try.f7.params.toList xs) : ∃ n, C n 7 (xs.map A.val) = some (.bool true, []) := by
  rw [show Try.f7.params.toList = [2, 2] by kernel_rfl] at h
  match xs, h with
  | [a, b], ⟨wa, wb, _⟩ =>
    have int_of : ∀ {g : G}, WG tab 2 g → ∃ x : Int, I64 x ∧ g = .int .i64 x := by
      intro g hg
      have e2 : ty tab 2 = .int .i64 := rfl
      cases hg with
      | int h1 h2 => rw [e2] at h1; cases h1; exact ⟨_, i64_of h2, rfl⟩
      | bool a => rw [e2] at a; cases a
      | str a _ => rw [e2] at a; cases a
      | tu a _ _ => rw [e2] at a; cases a
      | arr a _ _ => rw [e2] at a; cases a
      | sl a _ _ => rw [e2] at a; cases a
    obtain ⟨a, ha, rfl⟩ := int_of wa
    obtain ⟨b, hb, rfl⟩ := int_of wb
    have hv : Ev fun n => ∀ x ∈ [opE [43] [litE (i2 a), litE (i2 b)], opE [45] [litE (sumV a b), litE (i2 b)], opE [47] [litE (i2 a), litE (i2 b)], opE [37] [litE (i2 a), litE (i2 b)], opE [78, 69, 71] [litE (i2 a)]], C n 15 [.val tbl, .val (.sl ([V.z, V.z, V.z].map V.g)), .val x.g] = some (vg (evalS [V.z, V.z, V.z] x)) := by
      refine Ev.all _ fun x hx => ?_
      have key : ∀ s, s.length ≤ 100 → ∀ u v : V, u.ok → v.ok → Ev fun n => C n 15 [.val tbl, .val (.sl ([V.z, V.z, V.z].map V.g)), .val (opE s [litE u, litE v]).g] = some (vg (evalS [V.z, V.z, V.z] (opE s [litE u, litE v]))) := fun s hs u v hu hv =>
        eval_eq (ok_op2 hs (ok_lit hu) (ok_lit hv)) (by simp only [dep, deps]; omega) (by simp only [cntE, cntEs]; omega) _ zzz_ok
      simp only [List.mem_cons, List.not_mem_nil, or_false] at hx
      rcases hx with rfl | rfl | rfl | rfl | rfl
      · exact key _ (by decide) _ _ (ok_i2 ha) (ok_i2 hb)
      · exact key _ (by decide) _ _ sumV_ok.1 (ok_i2 hb)
      · exact key _ (by decide) _ _ (ok_i2 ha) (ok_i2 hb)
      · exact key _ (by decide) _ _ (ok_i2 ha) (ok_i2 hb)
      · exact eval_eq (ok_op1 (by decide) (ok_lit (ok_i2 ha))) (by simp only [dep, deps]; omega) (by simp only [cntE, cntEs]; omega) _ zzz_ok
    obtain ⟨n, ⟨h1, h2⟩, h3⟩ := ((hv.and begun_ev).and (Ev.ge 10)).ex
    exact ⟨n + 1, sums_true (by omega) ha hb h2 h1⟩
end Go.Proofs.Ytpmecpmankpcbaa.Pure
