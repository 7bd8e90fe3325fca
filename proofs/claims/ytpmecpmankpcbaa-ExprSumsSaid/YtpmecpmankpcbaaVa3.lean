/- Products and quotients of numbers. No conditions. -/
import Derived.Test.YtpmecpmankpcbaaVa2
namespace Go.Proofs.Ytpmecpmankpcbaa.Pure
open Go Go.Proofs Go.Proofs.Ytpmecpmankpcbaa.Rf
set_option linter.unusedVariables false
set_option linter.unusedSimpArgs false
theorem wu {n : Int} (h0 : 0 ≤ n) (h1 : n < 18446744073709551616) : IntKind.wrap .u64 n = n := by
  simp only [IntKind.wrap, IntKind.bits, IntKind.signed]
  simp
  omega
theorem mask_eq {a : Int} (h0 : 0 ≤ a) (h1 : a < 18446744073709551616) : IntKind.wrap .u64 ((((BitVec.ofInt 64 a) &&& (BitVec.ofInt 64 4294967295))).toNat : Int) = a % 4294967296 := by
  obtain ⟨n, rfl⟩ : ∃ n : Nat, a = n := ⟨a.toNat, by omega⟩
  have e : ((BitVec.ofInt 64 (n : Int)) &&& (BitVec.ofInt 64 4294967295)).toNat = n % 4294967296 := by
    rw [BitVec.toNat_and, show (BitVec.ofInt 64 4294967295).toNat = 2 ^ 32 - 1 from rfl, Nat.and_two_pow_sub_one_eq_mod]
    rw [BitVec.ofInt_natCast, BitVec.toNat_ofNat]
    omega
  rw [e, wu (by omega) (by omega)]
  omega
theorem fdiv_eq {a : Int} : Int.fdiv a 4294967296 = a / 4294967296 := Int.fdiv_eq_ediv_of_nonneg a (by decide)
theorem mul64_eq (n : Nat) {x y : Int} (hx0 : 0 ≤ x) (hx1 : x < 18446744073709551616) (hy0 : 0 ≤ y) (hy1 : y < 18446744073709551616) : C (n + 1) 71 [.val (.int .u64 x), .val (.int .u64 y)] = some (.tu [.int .u64 (x * y / 18446744073709551616), .int .u64 (x * y % 18446744073709551616)], []) := by
  rw [f71_eq]
  simp only [G.toInt]
  rw [mask_eq hx0 hx1, mask_eq hy0 hy1]
  simp only [fdiv_eq]
  generalize hX1 : x / 4294967296 = X1
  generalize hX0 : x % 4294967296 = X0
  generalize hY1 : y / 4294967296 = Y1
  generalize hY0 : y % 4294967296 = Y0
  have bX1 : 0 ≤ X1 ∧ X1 ≤ 4294967295 := by omega
  have bX0 : 0 ≤ X0 ∧ X0 ≤ 4294967295 := by omega
  have bY1 : 0 ≤ Y1 ∧ Y1 ≤ 4294967295 := by omega
  have bY0 : 0 ≤ Y0 ∧ Y0 ≤ 4294967295 := by omega
  have hx : x = X1 * 4294967296 + X0 := by omega
  have hy : y = Y1 * 4294967296 + Y0 := by omega
  have bound : ∀ {a b : Int}, (0 ≤ a ∧ a ≤ 4294967295) → (0 ≤ b ∧ b ≤ 4294967295) → 0 ≤ a * b ∧ a * b ≤ 18446744065119617025 := by
    intro a b ha hb
    refine ⟨Int.mul_nonneg ha.1 hb.1, ?_⟩
    have h1 : a * b ≤ 4294967295 * b := Int.mul_le_mul_of_nonneg_right ha.2 hb.1
    omega
  have b11 := bound bX1 bY1
  have b10 := bound bX1 bY0
  have b01 := bound bX0 bY1
  have b00 := bound bX0 bY0
  have hxy : x * y = X1 * Y1 * 18446744073709551616 + (X1 * Y0 + X0 * Y1) * 4294967296 + X0 * Y0 := by
    rw [hx, hy, Int.add_mul, Int.mul_add, Int.mul_add]
    have e1 : X1 * 4294967296 * (Y1 * 4294967296) = X1 * Y1 * 18446744073709551616 := by
      rw [Int.mul_assoc, Int.mul_left_comm 4294967296, ← Int.mul_assoc]; rfl
    have e2 : X1 * 4294967296 * Y0 = X1 * Y0 * 4294967296 := Int.mul_right_comm _ _ _
    have e3 : X0 * (Y1 * 4294967296) = X0 * Y1 * 4294967296 := (Int.mul_assoc _ _ _).symm
    rw [e1, e2, e3]
    omega
  rw [hxy]
  generalize X1 * Y1 = p11 at b11 ⊢
  generalize X1 * Y0 = p10 at b10 ⊢
  generalize X0 * Y1 = p01 at b01 ⊢
  generalize X0 * Y0 = p00 at b00 ⊢
  rw [wu b11.1 (by omega), wu b10.1 (by omega), wu b00.1 (by omega), wu b01.1 (by omega)]
  rw [wu (show 0 ≤ p10 + p00 / 4294967296 by omega) (by omega)]
  rw [mask_eq (show 0 ≤ p10 + p00 / 4294967296 by omega) (by omega)]
  rw [wu (show 0 ≤ p11 + (p10 + p00 / 4294967296) / 4294967296 by omega) (by omega)]
  rw [wu (show 0 ≤ (p10 + p00 / 4294967296) % 4294967296 + p01 by omega) (by omega)]
  rw [wu (show 0 ≤ p11 + (p10 + p00 / 4294967296) / 4294967296 + ((p10 + p00 / 4294967296) % 4294967296 + p01) / 4294967296 by omega) (by omega)]
  have e1 : p11 + (p10 + p00 / 4294967296) / 4294967296 + ((p10 + p00 / 4294967296) % 4294967296 + p01) / 4294967296 = (p11 * 18446744073709551616 + (p10 + p01) * 4294967296 + p00) / 18446744073709551616 := by omega
  have e2 : IntKind.wrap .u64 (p11 * 18446744073709551616 + (p10 + p01) * 4294967296 + p00) = (p11 * 18446744073709551616 + (p10 + p01) * 4294967296 + p00) % 18446744073709551616 := rfl
  rw [e1, e2]
theorem abs_eq (n : Nat) {a : Int} (ha : I64 a) : C (n + 1) 72 [.val (.int .i64 a)] = some (.int .u64 (a.natAbs : Int), []) := by
  rw [f72_eq]
  unfold I64 at ha
  show cnd (decide (a < 0)) _ _ = _
  by_cases h : a < 0
  · rw [decide_eq_true h]
    have e : IntKind.wrap .u64 (0 - IntKind.wrap .u64 a) = (a.natAbs : Int) := by
      have e1 : IntKind.wrap .u64 a = a + 18446744073709551616 := by
        simp only [IntKind.wrap, IntKind.bits, IntKind.signed]; simp; omega
      rw [e1]
      simp only [IntKind.wrap, IntKind.bits, IntKind.signed]; simp; omega
    show some (G.int .u64 (IntKind.wrap .u64 (0 - IntKind.wrap .u64 a)), ([] : List G)) = _
    rw [e]
  · rw [decide_eq_false h]
    show some (G.int .u64 (IntKind.wrap .u64 a), ([] : List G)) = _
    rw [wu (by omega) (by omega)]
    have : a = (a.natAbs : Int) := by omega
    rw [← this]
theorem size_ref (n : Nat) {a : Int} (ha : I64 a) : C (n + 1) 67 [.val (.int .i64 a)] = some (.int .u64 (a.natAbs : Int), []) := by
  rw [f67_eq]
  unfold I64 at ha
  show cnd (decide (a < 0)) _ _ = _
  by_cases h : a < 0
  · rw [decide_eq_true h]
    show some (G.int .u64 (IntKind.wrap .u64 (IntKind.wrap .u64 (IntKind.wrap .i64 (0 - IntKind.wrap .i64 (a + 1))) + 1)), ([] : List G)) = _
    rw [wr (show -9223372036854775808 ≤ a + 1 by omega) (by omega), wr (show -9223372036854775808 ≤ 0 - (a + 1) by omega) (by omega), wu (show 0 ≤ 0 - (a + 1) by omega) (by omega), wu (show 0 ≤ 0 - (a + 1) + 1 by omega) (by omega)]
    have : 0 - (a + 1) + 1 = (a.natAbs : Int) := by omega
    rw [this]
  · rw [decide_eq_false h]
    show some (G.int .u64 (IntKind.wrap .u64 a), ([] : List G)) = _
    rw [wu (by omega) (by omega)]
    have : a = (a.natAbs : Int) := by omega
    rw [← this]
/-- The sign of a product, and its size. -/
theorem mul_abs (a b : Int) : if decide (a < 0) = decide (b < 0) then a * b = (a.natAbs : Int) * b.natAbs else a * b = -((a.natAbs : Int) * b.natAbs) := by
  by_cases ha : a < 0 <;> by_cases hb : b < 0
  · rw [if_pos (by simp [ha, hb]), show (a.natAbs : Int) = -a by omega, show (b.natAbs : Int) = -b by omega, Int.neg_mul_neg]
  · rw [if_neg (by simp [ha, hb]), show (a.natAbs : Int) = -a by omega, show (b.natAbs : Int) = b by omega, Int.neg_mul, Int.neg_neg]
  · rw [if_neg (by simp [ha, hb]), show (a.natAbs : Int) = a by omega, show (b.natAbs : Int) = -b by omega, Int.mul_neg, Int.neg_neg]
  · rw [if_pos (by simp [ha, hb]), show (a.natAbs : Int) = a by omega, show (b.natAbs : Int) = b by omega]
theorem mul_eq (n : Nat) {a b : Int} (ha : I64 a) (hb : I64 b) : C (n + 2) 66 [.val (.int .i64 a), .val (.int .i64 b)] = some (ng (rng (a * b))) := by
  rw [f66_eq]
  show (C (n + 1) 72 [.val (.int .i64 a)]).bind _ = _
  rw [abs_eq n ha]
  show (C (n + 1) 72 [.val (.int .i64 b)]).bind _ = _
  rw [abs_eq n hb]
  show (C (n + 1) 71 [.val (.int .u64 (a.natAbs : Int)), .val (.int .u64 (b.natAbs : Int))]).bind _ = _
  have ha' := ha
  have hb' := hb
  unfold I64 at ha' hb'
  rw [mul64_eq n (by omega) (by omega) (by omega) (by omega)]
  have key := mul_abs a b
  have hp : 0 ≤ (a.natAbs : Int) * b.natAbs := Int.mul_nonneg (by omega) (by omega)
  show cnd (!(decide (a < 0) == decide (b < 0))) (cnd (decide (0 < (a.natAbs : Int) * b.natAbs / 18446744073709551616)) (some (ng (0, 5))) (cnd (decide (9223372036854775808 < (a.natAbs : Int) * b.natAbs % 18446744073709551616)) (some (ng (0, 5))) (some (ng (IntKind.wrap .i64 (a * b), 0))))) (cnd (decide (0 < (a.natAbs : Int) * b.natAbs / 18446744073709551616)) (some (ng (0, 5))) (cnd (decide (9223372036854775807 < (a.natAbs : Int) * b.natAbs % 18446744073709551616)) (some (ng (0, 5))) (some (ng (IntKind.wrap .i64 (a * b), 0))))) = _
  generalize (a.natAbs : Int) * b.natAbs = p at key hp ⊢
  generalize a * b = q at key ⊢
  by_cases hs : decide (a < 0) = decide (b < 0)
  · rw [if_pos hs] at key
    subst key
    rw [show (decide (a < 0) == decide (b < 0)) = true by simp [hs]]
    simp only [Bool.not_true, cnd]
    by_cases h1 : 0 < q / 18446744073709551616
    · rw [decide_eq_true h1, rng_no (by unfold I64; omega)]
    · rw [decide_eq_false h1]
      by_cases h2 : 9223372036854775807 < q % 18446744073709551616
      · rw [decide_eq_true h2, rng_no (by unfold I64; omega)]
      · rw [decide_eq_false h2, rng_ok (by unfold I64; omega), wr (by omega) (by omega)]
  · rw [if_neg hs] at key
    rw [show (decide (a < 0) == decide (b < 0)) = false by simp [hs]]
    simp only [Bool.not_false, cnd]
    by_cases h1 : 0 < p / 18446744073709551616
    · rw [decide_eq_true h1, rng_no (by unfold I64; omega)]
    · rw [decide_eq_false h1]
      by_cases h2 : 9223372036854775808 < p % 18446744073709551616
      · rw [decide_eq_true h2, rng_no (by unfold I64; omega)]
      · rw [decide_eq_false h2, rng_ok (by unfold I64; omega), wr (by omega) (by omega)]
theorem mul_ref (n : Nat) {a b : Int} (ha : I64 a) (hb : I64 b) : C (n + 2) 59 [.val (.int .i64 a), .val (.int .i64 b)] = some (ng (rng (a * b))) := by
  rw [f59_eq]
  show cnd (decide (a = 0)) (some (ng (0, 0))) (cnd (decide (b = 0)) (some (ng (0, 0))) ((C (n + 1) 67 [.val (.int .i64 a)]).bind _)) = _
  by_cases ha0 : a = 0
  · rw [decide_eq_true ha0, ha0, Int.zero_mul, rng_ok (by unfold I64; omega)]; rfl
  rw [decide_eq_false ha0]
  by_cases hb0 : b = 0
  · rw [decide_eq_true hb0, hb0, Int.mul_zero, rng_ok (by unfold I64; omega)]; rfl
  rw [decide_eq_false hb0, size_ref n ha]
  show (C (n + 1) 67 [.val (.int .i64 b)]).bind _ = _
  rw [size_ref n hb]
  have ha' := ha
  have hb' := hb
  unfold I64 at ha' hb'
  have key := mul_abs a b
  have hbp : 0 < (b.natAbs : Int) := by omega
  show cnd (!(decide (a < 0) == decide (b < 0))) (cnd (decide ((b.natAbs : Int) = 0)) none (cnd (decide (IntKind.wrap .u64 (Int.tdiv 9223372036854775808 (b.natAbs : Int)) < (a.natAbs : Int))) (some (ng (0, 5))) (some (ng (IntKind.wrap .i64 (a * b), 0))))) (cnd (decide ((b.natAbs : Int) = 0)) none (cnd (decide (IntKind.wrap .u64 (Int.tdiv 9223372036854775807 (b.natAbs : Int)) < (a.natAbs : Int))) (some (ng (0, 5))) (some (ng (IntKind.wrap .i64 (a * b), 0))))) = _
  rw [decide_eq_false (show ¬ (b.natAbs : Int) = 0 by omega)]
  have dv : ∀ (k : Int), 0 ≤ k → k ≤ 9223372036854775808 → decide (IntKind.wrap .u64 (Int.tdiv k (b.natAbs : Int)) < (a.natAbs : Int)) = decide (k < (a.natAbs : Int) * b.natAbs) := by
    intro k hk0 hk1
    refine decide_eq_decide.2 ?_
    rw [Int.tdiv_eq_ediv_of_nonneg hk0, wu (Int.ediv_nonneg hk0 (by omega)) (by
      have := Int.ediv_le_self (b := (b.natAbs : Int)) hk0
      omega)]
    rw [Int.ediv_lt_iff_lt_mul hbp]
  have hp : 0 ≤ (a.natAbs : Int) * b.natAbs := Int.mul_nonneg (by omega) (by omega)
  rw [dv 9223372036854775808 (by omega) (by omega), dv 9223372036854775807 (by omega) (by omega)]
  generalize (a.natAbs : Int) * b.natAbs = p at key hp ⊢
  generalize a * b = q at key ⊢
  by_cases hs : decide (a < 0) = decide (b < 0)
  · rw [if_pos hs] at key
    subst key
    rw [show (decide (a < 0) == decide (b < 0)) = true by simp [hs]]
    simp only [Bool.not_true, cnd]
    by_cases h1 : 9223372036854775807 < q
    · rw [decide_eq_true h1, rng_no (by unfold I64; omega)]
    · rw [decide_eq_false h1, rng_ok (by unfold I64; omega), wr (by omega) (by omega)]
  · rw [if_neg hs] at key
    rw [show (decide (a < 0) == decide (b < 0)) = false by simp [hs]]
    simp only [Bool.not_false, cnd]
    by_cases h1 : 9223372036854775808 < p
    · rw [decide_eq_true h1, rng_no (by unfold I64; omega)]
    · rw [decide_eq_false h1, rng_ok (by unfold I64; omega), wr (by omega) (by omega)]
/-! ## quotients -/
theorem tdiv_rng {a b : Int} (ha : I64 a) (hb : b ≠ 0) (h1 : b ≠ -1) : I64 (Int.tdiv a b) := by
  unfold I64 at ha ⊢
  have h := Int.natAbs_tdiv a b
  by_cases hb1 : b = 1
  · subst hb1; rw [Int.tdiv_one]; exact ha
  · have h2 : 2 ≤ b.natAbs := by omega
    have h3 : a.natAbs / b.natAbs ≤ a.natAbs / 2 := Nat.div_le_div_left h2 (by omega)
    have h4 : (a.tdiv b).natAbs ≤ a.natAbs / 2 := by rw [h]; exact h3
    omega
def divS (a b : Int) : Int × Int := if b = 0 then (0, 17) else rng (Int.tdiv a b)
def modS (a b : Int) : Int × Int := if b = 0 then (0, 17) else (Int.tmod a b, 0)
theorem div_one {a b : Int} (ha : I64 a) (hb : b ≠ 0) (h1 : b ≠ -1) : divS a b = (IntKind.wrap .i64 (Int.tdiv a b), 0) := by
  unfold divS
  rw [if_neg hb, rng_ok (tdiv_rng ha hb h1), wrI (tdiv_rng ha hb h1)]
theorem div_neg {a : Int} : divS a (-1) = rng (0 - a) := by
  unfold divS
  rw [if_neg (by decide), Int.tdiv_neg, Int.tdiv_one]
  congr 1
  omega
end Go.Proofs.Ytpmecpmankpcbaa.Pure
