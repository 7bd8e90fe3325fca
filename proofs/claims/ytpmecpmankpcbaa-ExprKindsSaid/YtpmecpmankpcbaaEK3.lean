/- Sums of whole numbers and what operators make of values: the printed functions come to the plain ones. No conditions. -/
import Derived.Test.YtpmecpmankpcbaaEK2
import Derived.Test.YtpmecpmankpcbaaPKx13
namespace Go.Proofs.Ytpmecpmankpcbaa.EK
open Go.RowKit Go.Proofs.YtpmecpmankpcbaaW.PrintWords Go.Proofs.YtpmecpmankpcbaaW.PrintLast Go.Proofs.Ytpmecpmankpcbaa.PK
set_option linter.unusedVariables false
set_option linter.unusedSimpArgs false

theorem fits_iff (n : Int) : fits n = true ↔ -9223372036854775808 ≤ n ∧ n ≤ 9223372036854775807 := by
  simp [fits]
theorem wf_fits {n : Int} (h : (Lit.int .i64 n).wf = true) : fits n = true := by
  rw [fits_iff]
  simpa [Lit.wf, IntKind.min, IntKind.max, IntKind.bits, IntKind.signed] using h
theorem wrap_range (n : Int) : -9223372036854775808 ≤ wrap64 n ∧ wrap64 n ≤ 9223372036854775807 := by
  unfold wrap64
  omega
theorem add_eq {a b : Int} (ha : fits a = true) (hb : fits b = true) : bits_Add.f a b = some (add a b) := by
  rw [fits_iff] at ha hb
  unfold bits_Add.f add
  by_cases hf : fits (a + b) = true
  · rw [if_pos hf]
    rw [fits_iff] at hf
    have hw : wrap64 (a + b) = a + b := wrap_in hf.1 hf.2
    by_cases h1 : b > 0
    · have h2 : wrap64 (9223372036854775807 - b) = 9223372036854775807 - b := wrap_in (by omega) (by omega)
      rw [if_pos h1, h2, if_neg (by omega), if_neg (by omega), hw]
    · rw [if_neg h1]
      by_cases h3 : b < 0
      · have h2 : wrap64 ((-9223372036854775808) - b) = (-9223372036854775808) - b := wrap_in (by omega) (by omega)
        rw [if_pos h3, h2, if_neg (by omega), hw]
      · rw [if_neg h3, hw]
  · rw [if_neg hf]
    have hf' : ¬ (-9223372036854775808 ≤ a + b ∧ a + b ≤ 9223372036854775807) := fun h => hf ((fits_iff _).2 h)
    by_cases h1 : b > 0
    · have h2 : wrap64 (9223372036854775807 - b) = 9223372036854775807 - b := wrap_in (by omega) (by omega)
      rw [if_pos h1, h2, if_pos (by omega)]
    · rw [if_neg h1]
      have h3 : b < 0 := by omega
      have h2 : wrap64 ((-9223372036854775808) - b) = (-9223372036854775808) - b := wrap_in (by omega) (by omega)
      rw [if_pos h3, h2, if_pos (by omega)]
theorem sub_eq {a b : Int} (ha : fits a = true) (hb : fits b = true) : expr_minus.f a b = some (sub a b) := by
  have ha' := (fits_iff _).1 ha
  have hb' := (fits_iff _).1 hb
  unfold expr_minus.f sub
  by_cases h1 : b = -9223372036854775808
  · rw [if_pos h1]
    by_cases h2 : a ≥ 0
    · rw [if_pos h2, if_neg (by rw [fits_iff]; omega)]
    · rw [if_neg h2, if_pos (by rw [fits_iff]; omega), wrap_in (by omega) (by omega)]
  · have hn : wrap64 (-b) = -b := wrap_in (by omega) (by omega)
    rw [if_neg h1, hn, add_eq ha (by rw [fits_iff]; omega)]
    simp only [Option.bind_some, add]
    rw [show a + -b = a - b by omega]
theorem add_fits (a b : Int) : (add a b).2 = 0 → fits (add a b).1 = true := by
  unfold add
  split
  · intro _; assumption
  · intro h; simp at h
theorem sub_fits (a b : Int) : (sub a b).2 = 0 → fits (sub a b).1 = true := by
  unfold sub
  split
  · intro _; assumption
  · intro h; simp at h
theorem mul_fits (a b : Int) : (mul a b).2 = 0 → fits (mul a b).1 = true := by
  unfold mul
  split
  · intro _; assumption
  · intro h; simp at h

/-! ## the product -/
theorem u64_wrap (x : Int) : IntKind.u64.wrap x = x % 18446744073709551616 := by
  simp [IntKind.wrap, IntKind.bits, IntKind.signed]
theorem mask32 (a : Int) (h0 : 0 ≤ a) (h1 : a < 18446744073709551616) : Go.bits .and .u64 a 4294967295 = a % 4294967296 := by
  rw [u64_and a 4294967295 h0 h1 (by omega) (by omega)]
  have e : (4294967295 : Int).toNat = 2 ^ 32 - 1 := rfl
  rw [e, Nat.and_two_pow_sub_one_eq_mod]
  omega
theorem mul_pos_le {x y B C : Int} (hx0 : 0 ≤ x) (hx : x ≤ B) (hy0 : 0 ≤ y) (hy : y ≤ C) : 0 ≤ x * y ∧ x * y ≤ B * C :=
  ⟨Int.mul_nonneg hx0 hy0, Int.mul_le_mul hx hy hy0 (Int.le_trans hx0 hx)⟩
theorem mul64_eq (a b : Int) (ha0 : 0 ≤ a) (ha : a < 18446744073709551616) (hb0 : 0 ≤ b) (hb : b < 18446744073709551616) : bits_Mul64.f a b = some (a * b / 18446744073709551616, a * b % 18446744073709551616) := by
  unfold bits_Mul64.f
  simp only [u64_wrap, mask32 a ha0 ha, mask32 b hb0 hb]
  have e : a * b = (a / 4294967296) * (b / 4294967296) * 18446744073709551616 + ((a / 4294967296) * (b % 4294967296) + (a % 4294967296) * (b / 4294967296)) * 4294967296 + (a % 4294967296) * (b % 4294967296) := by
    have h1 : a = (a / 4294967296) * 4294967296 + a % 4294967296 := by omega
    have h2 : b = (b / 4294967296) * 4294967296 + b % 4294967296 := by omega
    generalize a / 4294967296 = x at *
    generalize a % 4294967296 = y at *
    generalize b / 4294967296 = z at *
    generalize b % 4294967296 = t at *
    subst h1 h2
    rw [Int.add_mul, Int.mul_add, Int.mul_add]
    have e1 : x * 4294967296 * (z * 4294967296) = x * z * 18446744073709551616 := by
      rw [Int.mul_assoc x, Int.mul_left_comm 4294967296 z, ← Int.mul_assoc x z]; rfl
    have e2 : x * 4294967296 * t = x * t * 4294967296 := by rw [Int.mul_assoc, Int.mul_comm 4294967296 t, ← Int.mul_assoc]
    have e3 : y * (z * 4294967296) = y * z * 4294967296 := by rw [Int.mul_assoc]
    rw [e1, e2, e3, Int.add_mul]
    omega
  have p11 := mul_pos_le (x := a / 4294967296) (y := b / 4294967296) (B := 4294967295) (C := 4294967295) (by omega) (by omega) (by omega) (by omega)
  have p10 := mul_pos_le (x := a / 4294967296) (y := b % 4294967296) (B := 4294967295) (C := 4294967295) (by omega) (by omega) (by omega) (by omega)
  have p01 := mul_pos_le (x := a % 4294967296) (y := b / 4294967296) (B := 4294967295) (C := 4294967295) (by omega) (by omega) (by omega) (by omega)
  have p00 := mul_pos_le (x := a % 4294967296) (y := b % 4294967296) (B := 4294967295) (C := 4294967295) (by omega) (by omega) (by omega) (by omega)
  generalize (a / 4294967296) * (b / 4294967296) = q11 at *
  generalize (a / 4294967296) * (b % 4294967296) = q10 at *
  generalize (a % 4294967296) * (b / 4294967296) = q01 at *
  generalize (a % 4294967296) * (b % 4294967296) = q00 at *
  generalize a * b = q at *
  have m1 : (q10 % 18446744073709551616 + q00 % 18446744073709551616 / 4294967296) % 18446744073709551616 = q10 + q00 / 4294967296 := by omega
  rw [mask32 _ (by omega) (by omega)]
  congr 2
  omega
theorem size_eq {a : Int} (ha : fits a = true) : bits_size.f a = some (if a < 0 then -a else a) := by
  rw [fits_iff] at ha
  unfold bits_size.f
  by_cases h : a < 0
  · rw [if_pos h, if_pos h, u64_wrap, u64_wrap]
    congr 1
    omega
  · rw [if_neg h, if_neg h, u64_wrap]
    congr 1
    omega
theorem mul_eq {a b : Int} (ha : fits a = true) (hb : fits b = true) : bits_Mul.f a b = some (mul a b) := by
  have ha' := (fits_iff _).1 ha
  have hb' := (fits_iff _).1 hb
  unfold bits_Mul.f mul
  rw [size_eq ha, size_eq hb]
  simp only [Option.bind_some]
  rw [mul64_eq _ _ (by split <;> omega) (by split <;> omega) (by split <;> omega) (by split <;> omega)]
  simp only [Option.bind_some]
  by_cases h1 : a < 0
  · by_cases h2 : b < 0
    · have e : (-a) * (-b) = a * b := by rw [Int.neg_mul_neg]
      have hn : 0 ≤ a * b := by rw [← e]; exact Int.mul_nonneg (by omega) (by omega)
      rw [if_pos h1, if_pos h2, e, if_neg (by simp [h1, h2])]
      generalize a * b = q at *
      by_cases hf : fits q = true
      · have := (fits_iff _).1 hf
        rw [if_pos hf, if_neg (by omega), if_neg (by omega), wrap_in this.1 this.2]
      · have hf' : ¬ (-9223372036854775808 ≤ q ∧ q ≤ 9223372036854775807) := fun h => hf ((fits_iff _).2 h)
        rw [if_neg hf]
        by_cases h3 : q / 18446744073709551616 > 0
        · rw [if_pos h3]
        · rw [if_neg h3, if_pos (by omega)]
    · have e : (-a) * b = -(a * b) := Int.neg_mul a b
      have hn : 0 ≤ -(a * b) := by rw [← e]; exact Int.mul_nonneg (by omega) (by omega)
      rw [if_pos h1, if_neg h2, e, if_pos (by simp [h1, h2])]
      generalize a * b = q at *
      by_cases hf : fits q = true
      · have := (fits_iff _).1 hf
        rw [if_pos hf, if_neg (by omega), if_neg (by omega), wrap_in this.1 this.2]
      · have hf' : ¬ (-9223372036854775808 ≤ q ∧ q ≤ 9223372036854775807) := fun h => hf ((fits_iff _).2 h)
        rw [if_neg hf]
        by_cases h3 : -q / 18446744073709551616 > 0
        · rw [if_pos h3]
        · rw [if_neg h3, if_pos (by omega)]
  · by_cases h2 : b < 0
    · have e : a * (-b) = -(a * b) := Int.mul_neg a b
      have hn : 0 ≤ -(a * b) := by rw [← e]; exact Int.mul_nonneg (by omega) (by omega)
      rw [if_neg h1, if_pos h2, e, if_pos (by simp [h1, h2])]
      generalize a * b = q at *
      by_cases hf : fits q = true
      · have := (fits_iff _).1 hf
        rw [if_pos hf, if_neg (by omega), if_neg (by omega), wrap_in this.1 this.2]
      · have hf' : ¬ (-9223372036854775808 ≤ q ∧ q ≤ 9223372036854775807) := fun h => hf ((fits_iff _).2 h)
        rw [if_neg hf]
        by_cases h3 : -q / 18446744073709551616 > 0
        · rw [if_pos h3]
        · rw [if_neg h3, if_pos (by omega)]
    · have hn : 0 ≤ a * b := Int.mul_nonneg (by omega) (by omega)
      rw [if_neg h1, if_neg h2, if_neg (by simp [h1, h2])]
      generalize a * b = q at *
      by_cases hf : fits q = true
      · have := (fits_iff _).1 hf
        rw [if_pos hf, if_neg (by omega), if_neg (by omega), wrap_in this.1 this.2]
      · have hf' : ¬ (-9223372036854775808 ≤ q ∧ q ≤ 9223372036854775807) := fun h => hf ((fits_iff _).2 h)
        rw [if_neg hf]
        by_cases h3 : q / 18446744073709551616 > 0
        · rw [if_pos h3]
        · rw [if_neg h3, if_pos (by omega)]
end Go.Proofs.Ytpmecpmankpcbaa.EK
