/- Reading numbers in seven bits a byte: both texts. No conditions. -/
import Derived.Test.YtihipeicmbgegaaRa1
namespace Go.Proofs.Ytihipeicmbgegaa.Pure
open Go Go.Proofs Go.Proofs.Ytihipeicmbgegaa.Rf
set_option linter.unusedVariables false
set_option linter.unusedSimpArgs false
attribute [local irreducible] C L35_0 J35_1 L37_0 J37_1
/-- The number; how many bytes; the error. -/
def tvL : List UInt8 → Nat → Nat → Nat × Nat × Nat
  | [], _, _ => (0, 0, 2)
  | c :: l, i, v => if i = 9 ∧ 1 < c.toNat then (0, 0, 5) else if 128 ≤ c.toNat then tvL l (i + 1) (v + c.toNat % 128 * 128 ^ i) else if c.toNat = 0 ∧ 0 < i then (0, 0, 9) else (v + c.toNat % 128 * 128 ^ i, i + 1, 0)
def tv (l : List UInt8) : Nat × Nat × Nat := tvL l 0 0
def tvg (x : Nat × Nat × Nat) : R := (.tu [.int .u64 x.1, .int .i64 x.2.1, .int .i64 x.2.2], [])
theorem low7 (c : Nat) (h : c < 256) : ((BitVec.ofInt 8 (c : Int)) &&& (~~~(BitVec.ofInt 8 128))).toNat = c % 128 := by
  have key : ∀ k : Fin 256, ((BitVec.ofInt 8 (k.val : Int)) &&& (~~~(BitVec.ofInt 8 128))).toNat = k.val % 128 := by decide +kernel
  exact key ⟨c, h⟩
theorem pow128 (i : Nat) : (128 : Nat) ^ i = 2 ^ (7 * i) := by rw [Nat.pow_mul]
theorem put7 (v c i : Nat) (hi : i ≤ 9) (hv : v < 128 ^ i) (hc : c < 256) (hP : v + c % 128 * 128 ^ i < 18446744073709551616) :
    IntKind.wrap .u64 ((((BitVec.ofInt 64 (v : Int)) ||| (BitVec.ofInt 64 (IntKind.wrap .u64 ((IntKind.wrap .u64 (IntKind.wrap .u8 ((((BitVec.ofInt 8 (c : Int)) &&& (~~~(BitVec.ofInt 8 128)))).toNat : Int))) * (2 ^ (min ((IntKind.wrap .u64 (IntKind.wrap .i64 (7 * (i : Int))))).toNat 64))))))).toNat : Int) = ((v + c % 128 * 128 ^ i : Nat) : Int) := by
  rw [low7 c hc]
  have e1 : IntKind.wrap .u64 (IntKind.wrap .u8 ((c % 128 : Nat) : Int)) = ((c % 128 : Nat) : Int) := by
    rw [w8, wu (by omega) (by omega)]
    omega
  have e2 : (IntKind.wrap .u64 (IntKind.wrap .i64 (7 * (i : Int)))).toNat = 7 * i := by
    rw [wr (by omega) (by omega), wu (by omega) (by omega)]
    omega
  have e3 : min (7 * i) 64 = 7 * i := by omega
  rw [e1, e2, e3]
  have e4 : ((c % 128 : Nat) : Int) * 2 ^ (7 * i) = ((c % 128 * 128 ^ i : Nat) : Int) := by
    rw [pow128]
    simp
  rw [e4, wu (show (0 : Int) ≤ ((c % 128 * 128 ^ i : Nat) : Int) by omega) (by omega)]
  have e5 : (BitVec.ofInt 64 (v : Int) ||| BitVec.ofInt 64 ((c % 128 * 128 ^ i : Nat) : Int)).toNat = v + c % 128 * 128 ^ i := by
    rw [BitVec.toNat_or, BitVec.ofInt_natCast, BitVec.ofInt_natCast, BitVec.toNat_ofNat, BitVec.toNat_ofNat, Nat.mod_eq_of_lt (by omega), Nat.mod_eq_of_lt (by omega)]
    have h := Nat.shiftLeft_add_eq_or_of_lt (i := 7 * i) (b := v) (by rw [← pow128]; exact hv) (c % 128)
    rw [Nat.shiftLeft_eq, ← pow128] at h
    rw [Nat.or_comm, ← h]
    omega
  rw [e5, wu (by omega) (by omega)]
theorem step7 {v c i : Nat} (hi : i ≤ 9) (hv : v < 128 ^ i) (h9 : ¬ (i = 9 ∧ 1 < c)) : v + c % 128 * 128 ^ i < 128 ^ (i + 1) ∧ v + c % 128 * 128 ^ i < 18446744073709551616 := by
  have h1 : c % 128 * 128 ^ i ≤ 127 * 128 ^ i := Nat.mul_le_mul_right _ (by omega)
  have h2 : (128 : Nat) ^ (i + 1) = 128 * 128 ^ i := by rw [Nat.pow_succ, Nat.mul_comm]
  refine ⟨by omega, ?_⟩
  by_cases h : i = 9
  · subst h
    have h3 : c % 128 ≤ 1 := by omega
    have h4 : c % 128 * 128 ^ 9 ≤ 1 * 128 ^ 9 := Nat.mul_le_mul_right _ h3
    have h6 : (128 : Nat) ^ 9 = 9223372036854775808 := by decide
    omega
  · have h5 : (128 : Nat) ^ (i + 1) ≤ 128 ^ 9 := Nat.pow_le_pow_right (by decide) (by omega)
    omega
theorem gB_mid (p q : List UInt8) (c : UInt8) : (gB (p ++ c :: q)).getD ((p.length : Int)).toNat default = .int .u8 (c.toNat) := by
  have h : p.length < (p ++ c :: q).length := by simp
  rw [show ((p.length : Int)).toNat = p.length by omega, gB_at h]
  simp
theorem take_loop (n : Nat) (a0 : G) (l : List UInt8) (hl : l.length ≤ 1000000000) : ∀ (q p : List UInt8) (m v : Nat), l = p ++ q → p.length ≤ 9 → v < 128 ^ p.length → q.length < m → 10 < m + p.length → L35_0 n m a0 v (gB l) l.length p.length = some (tvg (tvL q p.length v)) ∧ L37_0 n m a0 (gB l) v ((128 ^ p.length : Nat) : Int) p.length = some (tvg (tvL q p.length v))
  | [], p, m + 1, v, hpq, hp, hv, _, _ => by
    have hp' : p = l := by simpa using hpq.symm
    subst hp'
    constructor
    · rw [L35_0_eq, decide_eq_false (show ¬ ((p.length : Int) < p.length) by omega)]
      rfl
    · rw [L37_0_eq, decide_eq_true (show (p.length : Int) < 10 by omega), decide_eq_true (show ((gB p).length : Int) ≤ p.length by rw [gB_len]; omega)]
      rfl
  | c :: q, p, m + 1, v, hpq, hp, hv, hm, hm10 => by
    have hlen : l.length = p.length + q.length + 1 := by rw [hpq]; simp; omega
    have hg : ((gB l).getD ((p.length : Int)).toNat default).toInt = (c.toNat : Int) := by rw [hpq, gB_mid p q c]; rfl
    have hc := lt_byte c
    have d1 : decide ((p.length : Int) < (l.length : Int)) = true := decide_eq_true (by omega)
    have d2 : decide ((0 : Int) ≤ p.length) = true := decide_eq_true (by omega)
    have d3 : decide ((p.length : Int) < ((gB l).length : Int)) = true := by rw [gB_len]; exact d1
    have d4 : decide ((p.length : Int) < 10) = true := decide_eq_true (by omega)
    have d5 : decide (((gB l).length : Int) ≤ p.length) = false := decide_eq_false (by rw [gB_len]; omega)
    have hw : IntKind.wrap .i64 ((p.length : Int) + 1) = ((p ++ [c]).length : Int) := by
      rw [wr (by omega) (by omega)]; simp
    have hn9 : decide (IntKind.wrap .u64 (IntKind.wrap .i64 (7 * (p.length : Int))) < 0) = false := decide_eq_false (by
      rw [wr (by omega) (by omega), wu (by omega) (by omega)]; omega)
    by_cases h9 : p.length = 9 ∧ 1 < c.toNat
    · have e : tvL (c :: q) p.length v = (0, 0, 5) := by rw [tvL, if_pos h9]
      rw [e]
      constructor
      · rw [L35_0_eq, d1, d2, d3, hg, decide_eq_true (show (p.length : Int) = 9 by omega)]
        simp only [cnd, Bool.and_self]
        rw [decide_eq_true (show (1 : Int) < (c.toNat : Int) by omega)]
        rfl
      · rw [L37_0_eq, d4, d5, d2, d3, hg, decide_eq_true (show (p.length : Int) = 9 by omega)]
        simp only [cnd, Bool.and_self]
        rw [decide_eq_true (show (1 : Int) < (c.toNat : Int) by omega)]
        rfl
    · obtain ⟨s1, s2⟩ := step7 (c := c.toNat) hp hv h9
      -- both come to their joins
      have j1 : L35_0 n (m + 1) a0 v (gB l) l.length p.length = J35_1 n m a0 v p.length (c.toNat) (gB l) l.length p.length := by
        rw [L35_0_eq, d1, d2, d3, hg]
        simp only [cnd, Bool.and_self]
        by_cases h : p.length = 9
        · rw [decide_eq_true (show (p.length : Int) = 9 by omega), decide_eq_false (show ¬ (1 : Int) < (c.toNat : Int) by omega)]
        · rw [decide_eq_false (show ¬ (p.length : Int) = 9 by omega)]
      have j2 : L37_0 n (m + 1) a0 (gB l) v ((128 ^ p.length : Nat) : Int) p.length = J37_1 n m a0 (gB l) v ((128 ^ p.length : Nat) : Int) p.length := by
        rw [L37_0_eq, d4, d5, d2, d3, hg]
        simp only [cnd, Bool.and_self]
        by_cases h : p.length = 9
        · rw [decide_eq_true (show (p.length : Int) = 9 by omega), decide_eq_false (show ¬ (1 : Int) < (c.toNat : Int) by omega)]
        · rw [decide_eq_false (show ¬ (p.length : Int) = 9 by omega)]
      have hq : IntKind.wrap .u64 ((v : Int) + IntKind.wrap .u64 (IntKind.wrap .u64 (Int.tmod (c.toNat : Int) 128) * ((128 ^ p.length : Nat) : Int))) = ((v + c.toNat % 128 * 128 ^ p.length : Nat) : Int) := by
        have e1 : Int.tmod (c.toNat : Int) 128 = ((c.toNat % 128 : Nat) : Int) := by
          rw [Int.tmod_eq_emod_of_nonneg (by omega)]; omega
        rw [e1, wu (show (0 : Int) ≤ ((c.toNat % 128 : Nat) : Int) by omega) (by omega)]
        have e2 : ((c.toNat % 128 : Nat) : Int) * ((128 ^ p.length : Nat) : Int) = ((c.toNat % 128 * 128 ^ p.length : Nat) : Int) := by simp
        rw [e2]
        generalize c.toNat % 128 * 128 ^ p.length = X at s2 ⊢
        rw [wu (show (0 : Int) ≤ (X : Int) by omega) (by omega), wu (show (0 : Int) ≤ (v : Int) + (X : Int) by omega) (by omega)]
        omega
      rw [j1, j2, J35_1_eq, J37_1_eq, hn9, put7 v c.toNat p.length hp hv hc s2, d2, d3, hg]
      simp only [cnd, Bool.and_self]
      rw [hq, hw, tvL, if_neg h9]
      by_cases h128 : 128 ≤ c.toNat
      · have hp9 : p.length ≤ 8 := by omega
        rw [if_pos h128, decide_eq_true (show (128 : Int) ≤ (c.toNat : Int) by omega), decide_eq_false (show ¬ (c.toNat : Int) < 128 by omega)]
        have hu : IntKind.wrap .u64 (((128 ^ p.length : Nat) : Int) * 128) = ((128 ^ (p ++ [c]).length : Nat) : Int) := by
          have e1 : (p ++ [c]).length = p.length + 1 := by simp
          rw [e1]
          have e2 : ((128 ^ p.length : Nat) : Int) * 128 = ((128 ^ (p.length + 1) : Nat) : Int) := by rw [Nat.pow_succ]; simp
          rw [e2]
          have h5 : (128 : Nat) ^ (p.length + 1) ≤ 128 ^ 9 := Nat.pow_le_pow_right (by decide) (by omega)
          exact wu (by omega) (by omega)
        rw [hu]
        have el : (p ++ [c]).length = p.length + 1 := by simp
        have ih := take_loop n a0 l hl q (p ++ [c]) m (v + c.toNat % 128 * 128 ^ p.length) (by rw [hpq]; simp) (by rw [el]; omega) (by rw [el]; exact s1) (by simp at hm; omega) (by rw [el]; omega)
        rw [el] at ih ⊢
        exact ih
      · rw [if_neg h128, decide_eq_false (show ¬ (128 : Int) ≤ (c.toNat : Int) by omega), decide_eq_true (show (c.toNat : Int) < 128 by omega)]
        have el : (p ++ [c]).length = p.length + 1 := by simp
        rw [el]
        by_cases h0 : c.toNat = 0
        · rw [decide_eq_true (show (c.toNat : Int) = 0 by omega)]
          by_cases hp0 : 0 < p.length
          · rw [if_pos ⟨h0, hp0⟩, decide_eq_true (show (0 : Int) < p.length by omega)]
            exact ⟨rfl, rfl⟩
          · rw [if_neg (fun h => hp0 h.2), decide_eq_false (show ¬ (0 : Int) < p.length by omega)]
            exact ⟨rfl, rfl⟩
        · rw [if_neg (fun h => h0 h.1), decide_eq_false (show ¬ (c.toNat : Int) = 0 by omega)]
          exact ⟨rfl, rfl⟩
theorem take_eq {n : Nat} (l : List UInt8) (hl : l.length ≤ 1000000000) (hn : l.length + 12 ≤ n) : C n 35 [.val (.sl (gB l))] = some (tvg (tv l)) ∧ C n 37 [.val (.sl (gB l))] = some (tvg (tv l)) := by
  obtain ⟨m, rfl⟩ : ∃ m, n = m + 1 := ⟨n - 1, by omega⟩
  have h := take_loop m (.sl (gB l)) l hl l [] m 0 rfl (by simp) (by simp) (by omega) (by simp; omega)
  constructor
  · rw [f35_eq]
    have e : L35_0 m m (.sl (gB l)) 0 (G.sl (gB l)).toList ((G.sl (gB l)).toList.length : Int) 0 = L35_0 m m (.sl (gB l)) ((0 : Nat) : Int) (gB l) l.length ((([] : List UInt8).length : Nat) : Int) := by
      show L35_0 m m (.sl (gB l)) 0 (gB l) ((gB l).length : Int) 0 = _
      rw [gB_len]
      rfl
    rw [e]
    exact h.1
  · rw [f37_eq]
    exact h.2
end Go.Proofs.Ytihipeicmbgegaa.Pure
