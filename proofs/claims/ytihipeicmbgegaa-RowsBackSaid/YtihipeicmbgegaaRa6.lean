/- Keys of values: both texts. No conditions. -/
import Derived.Test.YtihipeicmbgegaaRa5
import Derived.Test.YtihipeicmbgegaaEqR3
namespace Go.Proofs.Ytihipeicmbgegaa.Pure
open Go Go.Proofs Go.Proofs.Ytihipeicmbgegaa.Rf
set_option linter.unusedVariables false
set_option linter.unusedSimpArgs false
/-! ## numbers in order -/
def ordN (n : Int) : Nat := (n + 9223372036854775808).toNat
theorem xor_low {x : Nat} (h : x < 9223372036854775808) : x ^^^ 9223372036854775808 = x + 9223372036854775808 := by
  have e : x ^^^ 2 ^ 63 = 2 ^ 63 + x := by
    refine Nat.eq_of_testBit_eq fun j => ?_
    rw [Nat.testBit_xor]
    rcases Nat.lt_trichotomy j 63 with hj | hj | hj
    · rw [Nat.testBit_two_pow_add_gt hj, Nat.testBit_two_pow]
      have : decide (63 = j) = false := decide_eq_false (by omega)
      rw [this]
      simp
    · subst hj
      rw [Nat.testBit_two_pow_add_eq, Nat.testBit_two_pow]
      simp
    · have h1 : x.testBit j = false := Nat.testBit_lt_two_pow (Nat.lt_of_lt_of_le h (Nat.pow_le_pow_right (n := 2) (by decide) (show 63 ≤ j by omega)))
      have h2 : (2 ^ 63 + x).testBit j = false := Nat.testBit_lt_two_pow (Nat.lt_of_lt_of_le (show 2 ^ 63 + x < 2 ^ 64 by omega) (Nat.pow_le_pow_right (n := 2) (by decide) (show 64 ≤ j by omega)))
      rw [h1, h2, Nat.testBit_two_pow]
      have : decide (63 = j) = false := decide_eq_false (by omega)
      rw [this]
      rfl
  have e2 : (9223372036854775808 : Nat) = 2 ^ 63 := by decide
  rw [e2, e]
  omega
theorem xor_high {x : Nat} (h : x < 9223372036854775808) : (x + 9223372036854775808) ^^^ 9223372036854775808 = x := by
  rw [← xor_low h, Nat.xor_assoc, Nat.xor_self, Nat.xor_zero]
theorem ord_lt {n : Int} (h : I64 n) : ordN n < 18446744073709551616 := by
  unfold I64 at h
  unfold ordN
  omega
theorem ord_le {m : Nat} (hm : 1 ≤ m) {n : Int} (h : I64 n) : C m 50 [.val (.int .i64 n)] = some (.int .u64 (ordN n), []) := at_le (p := fun m => C m 50 [.val (.int .i64 n)] = some (.int .u64 (ordN n), [])) hm fun m => by
  have hl := ord_lt h
  unfold I64 at h
  rw [f50_eq]
  simp only [G.toInt]
  have key : (BitVec.ofInt 64 (IntKind.wrap .u64 n) ^^^ BitVec.ofInt 64 9223372036854775808).toNat = ordN n := by
    have e9 : (BitVec.ofInt 64 9223372036854775808).toNat = 9223372036854775808 := by decide
    rw [BitVec.toNat_xor, e9]
    by_cases h0 : 0 ≤ n
    · obtain ⟨x, rfl⟩ : ∃ x : Nat, n = x := ⟨n.toNat, by omega⟩
      rw [wu h0 (by omega), BitVec.ofInt_natCast, BitVec.toNat_ofNat, Nat.mod_eq_of_lt (by omega), xor_low (by omega)]
      unfold ordN
      omega
    · obtain ⟨x, hx⟩ : ∃ x : Nat, n + 9223372036854775808 = x := ⟨(n + 9223372036854775808).toNat, by omega⟩
      have e3 : IntKind.wrap .u64 n = ((x + 9223372036854775808 : Nat) : Int) := by
        simp only [IntKind.wrap, IntKind.bits, IntKind.signed]; simp; omega
      rw [e3, BitVec.ofInt_natCast, BitVec.toNat_ofNat, Nat.mod_eq_of_lt (by omega), xor_high (by omega)]
      unfold ordN
      omega
  rw [key, wu (by omega) (by omega)]
theorem ordr_le {m : Nat} (hm : 1 ≤ m) {n : Int} (h : I64 n) : C m 52 [.val (.int .i64 n)] = some (.int .u64 (ordN n), []) := at_le (p := fun m => C m 52 [.val (.int .i64 n)] = some (.int .u64 (ordN n), [])) hm fun m => by
  unfold I64 at h
  rw [f52_eq]
  show cnd (decide (0 ≤ n)) (some (G.int .u64 (IntKind.wrap .u64 (9223372036854775808 + IntKind.wrap .u64 n)), [])) (some (G.int .u64 (IntKind.wrap .u64 (IntKind.wrap .i64 (IntKind.wrap .i64 (n + 9223372036854775807) + 1))), [])) = _
  unfold ordN
  by_cases h0 : 0 ≤ n
  · rw [decide_eq_true h0, wu h0 (by omega), wu (by omega) (by omega)]
    have : 9223372036854775808 + n = (((n + 9223372036854775808).toNat : Nat) : Int) := by omega
    rw [this]
    rfl
  · rw [decide_eq_false h0]
    simp only [cnd]
    rw [wr (show -9223372036854775808 ≤ n + 9223372036854775807 by omega) (by omega), wr (show -9223372036854775808 ≤ n + 9223372036854775807 + 1 by omega) (by omega), wu (by omega) (by omega)]
    have : n + 9223372036854775807 + 1 = (((n + 9223372036854775808).toNat : Nat) : Int) := by omega
    rw [this]
/-! ## eight bytes -/
def beK : Nat → Nat → List UInt8
  | 0, _ => []
  | k + 1, v => byte (v / 256 ^ k) :: beK k v
theorem beK_len : ∀ k v, (beK k v).length = k
  | 0, _ => rfl
  | k + 1, v => by simp [beK, beK_len k v]
set_option maxRecDepth 20000 in
theorem tab_bound : ∀ i : Nat, (([0, 1, 2, 2, 3, 3, 3, 3, 4, 4, 4, 4, 4, 4, 4, 4, 5, 5, 5, 5, 5, 5, 5, 5, 5, 5, 5, 5, 5, 5, 5, 5, 6, 6, 6, 6, 6, 6, 6, 6, 6, 6, 6, 6, 6, 6, 6, 6, 6, 6, 6, 6, 6, 6, 6, 6, 6, 6, 6, 6, 6, 6, 6, 6, 7, 7, 7, 7, 7, 7, 7, 7, 7, 7, 7, 7, 7, 7, 7, 7, 7, 7, 7, 7, 7, 7, 7, 7, 7, 7, 7, 7, 7, 7, 7, 7, 7, 7, 7, 7, 7, 7, 7, 7, 7, 7, 7, 7, 7, 7, 7, 7, 7, 7, 7, 7, 7, 7, 7, 7, 7, 7, 7, 7, 7, 7, 7, 7, 8, 8, 8, 8, 8, 8, 8, 8, 8, 8, 8, 8, 8, 8, 8, 8, 8, 8, 8, 8, 8, 8, 8, 8, 8, 8, 8, 8, 8, 8, 8, 8, 8, 8, 8, 8, 8, 8, 8, 8, 8, 8, 8, 8, 8, 8, 8, 8, 8, 8, 8, 8, 8, 8, 8, 8, 8, 8, 8, 8, 8, 8, 8, 8, 8, 8, 8, 8, 8, 8, 8, 8, 8, 8, 8, 8, 8, 8, 8, 8, 8, 8, 8, 8, 8, 8, 8, 8, 8, 8, 8, 8, 8, 8, 8, 8, 8, 8, 8, 8, 8, 8, 8, 8, 8, 8, 8, 8, 8, 8, 8, 8, 8, 8, 8, 8, 8, 8, 8, 8, 8, 8, 8, 8, 8, 8, 8, 8] : List UInt8).getD i 0).toNat ≤ 8 := by
  intro i
  by_cases h : i < 256
  · have key : ∀ k : Fin 256, (([0, 1, 2, 2, 3, 3, 3, 3, 4, 4, 4, 4, 4, 4, 4, 4, 5, 5, 5, 5, 5, 5, 5, 5, 5, 5, 5, 5, 5, 5, 5, 5, 6, 6, 6, 6, 6, 6, 6, 6, 6, 6, 6, 6, 6, 6, 6, 6, 6, 6, 6, 6, 6, 6, 6, 6, 6, 6, 6, 6, 6, 6, 6, 6, 7, 7, 7, 7, 7, 7, 7, 7, 7, 7, 7, 7, 7, 7, 7, 7, 7, 7, 7, 7, 7, 7, 7, 7, 7, 7, 7, 7, 7, 7, 7, 7, 7, 7, 7, 7, 7, 7, 7, 7, 7, 7, 7, 7, 7, 7, 7, 7, 7, 7, 7, 7, 7, 7, 7, 7, 7, 7, 7, 7, 7, 7, 7, 7, 8, 8, 8, 8, 8, 8, 8, 8, 8, 8, 8, 8, 8, 8, 8, 8, 8, 8, 8, 8, 8, 8, 8, 8, 8, 8, 8, 8, 8, 8, 8, 8, 8, 8, 8, 8, 8, 8, 8, 8, 8, 8, 8, 8, 8, 8, 8, 8, 8, 8, 8, 8, 8, 8, 8, 8, 8, 8, 8, 8, 8, 8, 8, 8, 8, 8, 8, 8, 8, 8, 8, 8, 8, 8, 8, 8, 8, 8, 8, 8, 8, 8, 8, 8, 8, 8, 8, 8, 8, 8, 8, 8, 8, 8, 8, 8, 8, 8, 8, 8, 8, 8, 8, 8, 8, 8, 8, 8, 8, 8, 8, 8, 8, 8, 8, 8, 8, 8, 8, 8, 8, 8, 8, 8, 8, 8, 8, 8] : List UInt8).getD k.val 0).toNat ≤ 8 := by decide +kernel
    exact key ⟨i, h⟩
  · rw [List.getD_eq_getElem?_getD, List.getElem?_eq_none (show 256 ≤ i by omega)]
    exact Nat.zero_le _
theorem len64_le {n : Nat} (hn : 1 ≤ n) (v : Nat) (hv : v < 18446744073709551616) : ∃ r : Int, C n 78 [.val (.int .u64 v)] = some (.int .i64 r, []) ∧ r ≤ 64 := by
  obtain ⟨m, rfl⟩ : ∃ m, n = m + 1 := ⟨n - 1, by omega⟩
  rw [f78_eq]
  have hx : (G.int .u64 (v : Int)).toInt = (v : Int) := rfl
  rw [hx]
  have fd : ∀ (a b : Int), 0 ≤ b → Int.fdiv a b = a / b := fun a b h => Int.fdiv_eq_ediv_of_nonneg a h
  rw [fd _ 4294967296 (by decide), fd _ 65536 (by decide), fd _ 256 (by decide), fd _ 256 (by decide), fd _ 65536 (by decide), fd _ 256 (by decide), fd _ 256 (by decide)]
  have w : ∀ x : Int, 0 ≤ IntKind.wrap .u8 x ∧ IntKind.wrap .u8 x < 256 := fun x => by rw [w8]; omega
  have fin : ∀ (x y : Int) (t : List UInt8), 0 ≤ y → y ≤ 56 → (t.getD (IntKind.wrap .u8 x).toNat 0).toNat ≤ 8 → ∃ r : Int, (cnd (decide (0 ≤ IntKind.wrap .u8 x) && decide (IntKind.wrap .u8 x < 256)) (some (G.int .i64 (IntKind.wrap .i64 (y + IntKind.wrap .i64 ((t.getD (IntKind.wrap .u8 x).toNat 0).toNat : Int))), [])) none : Option R) = some (.int .i64 r, []) ∧ r ≤ 64 := by
    intro x y t h0 h1 ht
    rw [decide_eq_true (w x).1, decide_eq_true (w x).2]
    refine ⟨_, rfl, ?_⟩
    rw [wr (show -9223372036854775808 ≤ (((t.getD (IntKind.wrap .u8 x).toNat 0).toNat : Nat) : Int) by omega) (by omega), wr (by omega) (by omega)]
    omega
  have sp : ∀ (b : Bool) (x y : Option R), (∃ r : Int, x = some (.int .i64 r, []) ∧ r ≤ 64) → (∃ r : Int, y = some (.int .i64 r, []) ∧ r ≤ 64) → ∃ r : Int, cnd b x y = some (.int .i64 r, []) ∧ r ≤ 64 := by
    intro b x y hx hy
    cases b
    · exact hy
    · exact hx
  refine sp _ _ _ (sp _ _ _ (sp _ _ _ ?_ ?_) (sp _ _ _ ?_ ?_)) (sp _ _ _ (sp _ _ _ ?_ ?_) (sp _ _ _ ?_ ?_))
  · exact fin _ 56 _ (by omega) (by omega) (tab_bound _)
  · exact fin _ 48 _ (by omega) (by omega) (tab_bound _)
  · exact fin _ 40 _ (by omega) (by omega) (tab_bound _)
  · exact fin _ 32 _ (by omega) (by omega) (tab_bound _)
  · exact fin _ 24 _ (by omega) (by omega) (tab_bound _)
  · exact fin _ 16 _ (by omega) (by omega) (tab_bound _)
  · exact fin _ 8 _ (by omega) (by omega) (tab_bound _)
  · exact fin _ 0 _ (by omega) (by omega) (tab_bound _)
end Go.Proofs.Ytihipeicmbgegaa.Pure
