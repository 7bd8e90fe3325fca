/- Values in plain bytes, written and read: both texts. No conditions. -/
import Derived.Test.YtihipeicmbgegaaRa2
namespace Go.Proofs.Ytihipeicmbgegaa.Pure
open Go Go.Proofs Go.Proofs.Ytihipeicmbgegaa.Rf
set_option linter.unusedVariables false
set_option linter.unusedSimpArgs false
attribute [local irreducible] C
structure V where
  k : Int
  n : Int
  s : List UInt8
  deriving DecidableEq
def V.z : V := ⟨0, 0, []⟩
def V.g (v : V) : G := .tu [.int .i64 v.k, .int .i64 v.n, .str v.s]
def V.ok (v : V) : Prop := I64 v.k ∧ I64 v.n ∧ v.s.length ≤ maxLen
def may (v : V) : Bool :=
  if v.k = 0 then decide (v.n = 0) && decide (v.s = []) else if v.k = 1 then (decide (v.n = 0) || decide (v.n = 1)) && decide (v.s = []) else if v.k = 2 then decide (v.s = []) else if v.k = 3 then decide (v.n = 0) && decide (v.s.length ≤ 64) else false
theorem may_tree (v : V) : (cnd (decide (v.k = 0)) (cnd (decide (v.n = 0)) (some (G.bool (decide (v.s = [])), [])) (some (G.bool false, []))) (cnd (decide (v.k = 1)) (cnd (decide (v.n = 0)) (some (G.bool (decide (v.s = [])), [])) (cnd (decide (v.n = 1)) (some (G.bool (decide (v.s = [])), [])) (some (G.bool false, [])))) (cnd (decide (v.k = 2)) (some (G.bool (decide (v.s = [])), [])) (cnd (decide (v.k = 3)) (cnd (decide (v.n = 0)) (some (G.bool (decide ((v.s.length : Int) ≤ 64)), [])) (some (G.bool false, []))) (some (G.bool false, []))))) : Option R) = some (.bool (may v), []) := by
  unfold may
  have e64 : decide ((v.s.length : Int) ≤ 64) = decide (v.s.length ≤ 64) := decide_eq_decide.2 (by omega)
  rw [e64]
  by_cases h0 : v.k = 0
  · by_cases h1 : v.n = 0 <;> simp [h0, h1, cnd]
  · by_cases h1 : v.k = 1
    · by_cases h2 : v.n = 0
      · simp [h1, h2, cnd]
      · by_cases h3 : v.n = 1 <;> simp [h1, h2, h3, cnd]
    · by_cases h2 : v.k = 2
      · simp [h2, cnd]
      · by_cases h3 : v.k = 3
        · by_cases h4 : v.n = 0 <;> simp [h3, h4, cnd]
        · simp [h0, h1, h2, h3, cnd]
theorem may_le {n : Nat} (hn : 1 ≤ n) (v : V) : C n 33 [.val v.g] = some (.bool (may v), []) := at_le (p := fun n => C n 33 [.val v.g] = some (.bool (may v), [])) hn fun m => by
  rw [f33_eq]; exact may_tree v
theorem mayr_le {n : Nat} (hn : 1 ≤ n) (v : V) : C n 34 [.val v.g] = some (.bool (may v), []) := at_le (p := fun n => C n 34 [.val v.g] = some (.bool (may v), [])) hn fun m => by
  rw [f34_eq]; exact may_tree v
/-! ## signs laid aside -/
def zigN (n : Int) : Nat := if 0 ≤ n then (2 * n).toNat else (-2 * n - 1).toNat
def zagN (u : Nat) : Int := if u % 2 = 0 then ((u / 2 : Nat) : Int) else -((u / 2 : Nat) : Int) - 1
theorem xor_zero (x : Nat) (h : x < 18446744073709551616) : ((BitVec.ofInt 64 (x : Int)) ^^^ (BitVec.ofInt 64 0)).toNat = x := by
  rw [BitVec.toNat_xor, BitVec.ofInt_natCast, BitVec.toNat_ofNat, show (BitVec.ofInt 64 0).toNat = 0 from rfl, Nat.xor_zero]
  omega
theorem xor_ones (x : Nat) (h : x < 18446744073709551616) (m : Int) (hm : BitVec.ofInt 64 m = BitVec.allOnes 64) : ((BitVec.ofInt 64 (x : Int)) ^^^ (BitVec.ofInt 64 m)).toNat = 18446744073709551615 - x := by
  rw [hm, BitVec.xor_allOnes, BitVec.toNat_not, BitVec.ofInt_natCast, BitVec.toNat_ofNat]
  omega
theorem zig_lt {n : Int} (h : I64 n) : zigN n < 18446744073709551616 := by
  unfold I64 at h
  unfold zigN
  split <;> omega
theorem zig_le {m : Nat} (hm : 1 ≤ m) {n : Int} (h : I64 n) : C m 60 [.val (.int .i64 n)] = some (.int .u64 (zigN n), []) := at_le (p := fun m => C m 60 [.val (.int .i64 n)] = some (.int .u64 (zigN n), [])) hm fun m => by
  have hl := zig_lt h
  unfold I64 at h
  rw [f60_eq]
  simp only [G.toInt]
  unfold zigN at hl ⊢
  by_cases h0 : 0 ≤ n
  · rw [if_pos h0] at hl ⊢
    have e1 : Int.fdiv n 9223372036854775808 = 0 := by rw [Int.fdiv_eq_ediv_of_nonneg n (by decide)]; omega
    have e2 : IntKind.wrap .u64 (IntKind.wrap .u64 n * 2) = (((2 * n).toNat : Nat) : Int) := by
      rw [wu h0 (by omega), wu (by omega) (by omega)]; omega
    rw [e1, e2, show IntKind.wrap .u64 0 = 0 from rfl, xor_zero _ hl, wu (by omega) (by omega)]
  · rw [if_neg h0] at hl ⊢
    have e1 : Int.fdiv n 9223372036854775808 = -1 := by rw [Int.fdiv_eq_ediv_of_nonneg n (by decide)]; omega
    have e2 : IntKind.wrap .u64 (IntKind.wrap .u64 n * 2) = ((18446744073709551615 - (-2 * n - 1).toNat : Nat) : Int) := by
      have e3 : IntKind.wrap .u64 n = n + 18446744073709551616 := by
        simp only [IntKind.wrap, IntKind.bits, IntKind.signed]; simp; omega
      rw [e3]
      simp only [IntKind.wrap, IntKind.bits, IntKind.signed]; simp; omega
    rw [e1, e2, xor_ones _ (by omega) (IntKind.wrap .u64 (-1)) (by decide), wu (by omega) (by omega)]
    have : 18446744073709551615 - (18446744073709551615 - (-2 * n - 1).toNat) = (-2 * n - 1).toNat := by omega
    rw [this]
theorem zigr_le {m : Nat} (hm : 1 ≤ m) {n : Int} (h : I64 n) : C m 62 [.val (.int .i64 n)] = some (.int .u64 (zigN n), []) := at_le (p := fun m => C m 62 [.val (.int .i64 n)] = some (.int .u64 (zigN n), [])) hm fun m => by
  unfold I64 at h
  rw [f62_eq]
  show cnd (decide (0 ≤ n)) (some (G.int .u64 (IntKind.wrap .u64 (2 * IntKind.wrap .u64 n)), [])) (some (G.int .u64 (IntKind.wrap .u64 (IntKind.wrap .u64 (2 * IntKind.wrap .u64 (IntKind.wrap .i64 (0 - IntKind.wrap .i64 (n + 1)))) + 1)), [])) = _
  unfold zigN
  by_cases h0 : 0 ≤ n
  · rw [decide_eq_true h0, if_pos h0, wu h0 (by omega), wu (by omega) (by omega)]
    have : 2 * n = (((2 * n).toNat : Nat) : Int) := by omega
    rw [← this]
    rfl
  · rw [decide_eq_false h0, if_neg h0, wr (show -9223372036854775808 ≤ n + 1 by omega) (by omega), wr (show -9223372036854775808 ≤ 0 - (n + 1) by omega) (by omega), wu (show 0 ≤ 0 - (n + 1) by omega) (by omega), wu (show 0 ≤ 2 * (0 - (n + 1)) by omega) (by omega), wu (show 0 ≤ 2 * (0 - (n + 1)) + 1 by omega) (by omega)]
    have : 2 * (0 - (n + 1)) + 1 = (((-2 * n - 1).toNat : Nat) : Int) := by omega
    rw [this]
    rfl
theorem zag_le {m : Nat} (hm : 1 ≤ m) {u : Nat} (h : u < 18446744073709551616) : C m 54 [.val (.int .u64 u)] = some (.int .i64 (zagN u), []) := at_le (p := fun m => C m 54 [.val (.int .u64 u)] = some (.int .i64 (zagN u), [])) hm fun m => by
  rw [f54_eq]
  simp only [G.toInt]
  have e1 : IntKind.wrap .i64 (Int.fdiv (u : Int) 2) = ((u / 2 : Nat) : Int) := by
    rw [Int.fdiv_eq_ediv_of_nonneg _ (by decide), wr (by omega) (by omega)]; omega
  have e2 : ((BitVec.ofInt 64 (u : Int)) &&& (BitVec.ofInt 64 1)).toNat = u % 2 := by
    rw [BitVec.toNat_and, BitVec.ofInt_natCast, BitVec.toNat_ofNat, show (BitVec.ofInt 64 1).toNat = 1 from rfl, Nat.and_one_is_mod]
    omega
  have e3 : IntKind.wrap .i64 (IntKind.wrap .u64 ((u % 2 : Nat) : Int)) = ((u % 2 : Nat) : Int) := by
    rw [wu (by omega) (by omega), wr (by omega) (by omega)]
  rw [e1, e2, e3]
  unfold zagN
  by_cases h0 : u % 2 = 0
  · rw [h0, if_pos rfl, show IntKind.wrap .i64 (0 - ((0 : Nat) : Int)) = 0 from rfl, xor_zero _ (by omega), wr (by omega) (by omega)]
  · have h1 : u % 2 = 1 := by omega
    rw [h1, if_neg (by decide), xor_ones _ (by omega) (IntKind.wrap .i64 (0 - ((1 : Nat) : Int))) (by decide)]
    have : IntKind.wrap .i64 ((18446744073709551615 - u / 2 : Nat) : Int) = -((u / 2 : Nat) : Int) - 1 := by
      simp only [IntKind.wrap, IntKind.bits, IntKind.signed]; simp; omega
    rw [this]
theorem zagr_le {m : Nat} (hm : 1 ≤ m) {u : Nat} (h : u < 18446744073709551616) : C m 57 [.val (.int .u64 u)] = some (.int .i64 (zagN u), []) := at_le (p := fun m => C m 57 [.val (.int .u64 u)] = some (.int .i64 (zagN u), [])) hm fun m => by
  rw [f57_eq]
  show cnd (decide (Int.tmod (u : Int) 2 = 0)) (some (G.int .i64 (IntKind.wrap .i64 (IntKind.wrap .u64 (Int.tdiv (u : Int) 2))), [])) (some (G.int .i64 (IntKind.wrap .i64 (IntKind.wrap .i64 (0 - IntKind.wrap .i64 (IntKind.wrap .u64 (Int.tdiv (u : Int) 2))) - 1)), [])) = _
  have e1 : Int.tdiv (u : Int) 2 = ((u / 2 : Nat) : Int) := by rw [Int.tdiv_eq_ediv_of_nonneg (by omega)]; omega
  have e2 : Int.tmod (u : Int) 2 = ((u % 2 : Nat) : Int) := by rw [Int.tmod_eq_emod_of_nonneg (by omega)]; omega
  rw [e1, e2, wu (show (0 : Int) ≤ ((u / 2 : Nat) : Int) by omega) (by omega), wr (show -9223372036854775808 ≤ ((u / 2 : Nat) : Int) by omega) (by omega), wr (show -9223372036854775808 ≤ 0 - ((u / 2 : Nat) : Int) by omega) (by omega), wr (show -9223372036854775808 ≤ 0 - ((u / 2 : Nat) : Int) - 1 by omega) (by omega)]
  unfold zagN
  by_cases h0 : u % 2 = 0
  · rw [if_pos h0, decide_eq_true (by omega)]; rfl
  · rw [if_neg h0, decide_eq_false (by omega)]
    have : 0 - ((u / 2 : Nat) : Int) - 1 = -((u / 2 : Nat) : Int) - 1 := by omega
    rw [this]
    rfl
theorem zag_zig {n : Int} : zagN (zigN n) = n := by
  unfold zagN zigN
  by_cases h : 0 ≤ n
  · rw [if_pos h, if_pos (by omega)]; omega
  · rw [if_neg h, if_neg (by omega)]; omega
/-! ## writing -/
def textB (s : List UInt8) : List UInt8 := varB s.length ++ s
def plainB (v : V) : List UInt8 := if may v = true then byte v.k.toNat :: (if v.k = 1 then [byte v.n.toNat] else if v.k = 2 then varB (zigN v.n) else if v.k = 3 then textB v.s else []) else []
theorem varB_len (v : Nat) : (varB v).length ≤ 10 := varK_len 9 v
theorem text_le {n : Nat} (hn : 20 ≤ n) (b s : List UInt8) (hb : b.length ≤ 1000000000) (hs : s.length ≤ 1000) : C n 61 [.val (.sl (gB b)), .val (.sl (gB s))] = some (.sl (gB (b ++ textB s)), []) ∧ C n 63 [.val (.sl (gB b)), .val (.sl (gB s))] = some (.sl (gB (b ++ textB s)), []) := by
  obtain ⟨m, rfl⟩ : ∃ m, n = m + 1 := ⟨n - 1, by omega⟩
  have e1 : IntKind.wrap .u64 ((G.sl (gB s)).toList.length : Int) = ((s.length : Nat) : Int) := by
    show IntKind.wrap .u64 ((gB s).length : Int) = _
    rw [gB_len, wu (by omega) (by omega)]
  have hv := varB_len s.length
  have e2 : decide ((gB (b ++ varB s.length)).length + (gB s).length ≤ 68719476736) = true := decide_eq_true (by rw [gB_len, gB_len]; simp; omega)
  have e3 : gB (b ++ varB s.length) ++ gB s = gB (b ++ textB s) := by unfold textB; rw [← gB_app]; simp
  rw [f61_eq, f63_eq, e1]
  constructor
  · refine bind_of (var_eq (by omega) b s.length (by omega) hb) ?_
    show cnd (decide ((gB (b ++ varB s.length)).length + (gB s).length ≤ 68719476736)) (some (G.sl (gB (b ++ varB s.length) ++ gB s), [])) none = _
    rw [e2, e3]; rfl
  · refine bind_of (var_ref (by omega) b s.length (by omega) hb) ?_
    show cnd (decide ((gB (b ++ varB s.length)).length + (gB s).length ≤ 68719476736)) (some (G.sl (gB (b ++ varB s.length) ++ gB s), [])) none = _
    rw [e2, e3]; rfl
theorem plain_le {n : Nat} (hn : 30 ≤ n) (b : List UInt8) (v : V) (hv : v.ok) (hb : b.length ≤ 900000000) : C n 40 [.val (.sl (gB b)), .val v.g] = some (.sl (gB (b ++ plainB v)), []) ∧ C n 42 [.val (.sl (gB b)), .val v.g] = some (.sl (gB (b ++ plainB v)), []) := by
  obtain ⟨m, rfl⟩ : ∃ m, n = m + 1 := ⟨n - 1, by omega⟩
  have d1 : decide (0 + (G.sl (gB b)).toList.length ≤ 68719476736) = true := decide_eq_true (by show 0 + (gB b).length ≤ _; rw [gB_len]; omega)
  have d2 : decide (([] ++ (G.sl (gB b)).toList).length + 1 ≤ 68719476736) = true := decide_eq_true (by show ([] ++ gB b).length + 1 ≤ _; rw [List.nil_append, gB_len]; omega)
  have hnil : ([] ++ (G.sl (gB b)).toList : List G) = gB b := rfl
  have hz : ∀ (x : Option R) (y : List UInt8), x = some (G.sl (gB y), []) → (x.bind fun r2 => some (G.sl r2.1.toList, [])) = some (G.sl (gB y), []) := fun x y h => bind_of h rfl
  rw [f40_eq, f42_eq, d1]
  simp only [cnd]
  unfold plainB
  cases hm : may v with
  | false =>
    rw [if_neg (by simp)]
    constructor
    · refine bind_of (may_le (by omega) v) ?_
      rw [hm, hnil, List.append_nil]; rfl
    · refine bind_of (mayr_le (by omega) v) ?_
      rw [hm, hnil, List.append_nil]; rfl
  | true =>
    rw [if_pos rfl]
    have hk : 0 ≤ v.k ∧ v.k ≤ 3 := by
      unfold may at hm
      by_cases h0 : v.k = 0
      · omega
      · by_cases h1 : v.k = 1
        · omega
        · by_cases h2 : v.k = 2
          · omega
          · by_cases h3 : v.k = 3
            · omega
            · simp [h0, h1, h2, h3] at hm
    have hbk : gB b ++ [G.int .u8 (IntKind.wrap .u8 v.k)] = gB (b ++ [byte v.k.toNat]) := by rw [gB_app, gB_one _ hk.1]
    have d3 : decide ((gB (b ++ [byte v.k.toNat])).length + 1 ≤ 68719476736) = true := decide_eq_true (by rw [gB_len]; simp; omega)
    have key : ∀ (f g : FuncId) (x y : Option R), (v.k = 2 → x = some (.sl (gB (b ++ [byte v.k.toNat] ++ varB (zigN v.n))), [])) → (v.k = 3 → y = some (.sl (gB (b ++ [byte v.k.toNat] ++ textB v.s)), [])) →
        (cnd (decide (v.k = 1)) (cnd (decide ((gB (b ++ [byte v.k.toNat])).length + 1 ≤ 68719476736)) (some (G.sl (gB (b ++ [byte v.k.toNat]) ++ [G.int .u8 (IntKind.wrap .u8 v.n)]), [])) none) (cnd (decide (v.k = 2)) x (cnd (decide (v.k = 3)) y (some (G.sl (gB (b ++ [byte v.k.toNat])), [])))) : Option R) = some (.sl (gB (b ++ byte v.k.toNat :: (if v.k = 1 then [byte v.n.toNat] else if v.k = 2 then varB (zigN v.n) else if v.k = 3 then textB v.s else []))), []) := by
      intro f g x y hx hy
      by_cases h1 : v.k = 1
      · have hn0 : 0 ≤ v.n := by
          unfold may at hm
          rw [if_neg (by omega), if_pos h1] at hm
          simp at hm
          omega
        rw [decide_eq_true h1, d3, if_pos h1, gB_one _ hn0, ← gB_app]
        simp [cnd]
      · rw [decide_eq_false h1, if_neg h1]
        by_cases h2 : v.k = 2
        · rw [decide_eq_true h2, if_pos h2, hx h2]
          simp [cnd]
        · rw [decide_eq_false h2, if_neg h2]
          by_cases h3 : v.k = 3
          · rw [decide_eq_true h3, if_pos h3, hy h3]
            simp [cnd]
          · rw [decide_eq_false h3, if_neg h3]
            simp [cnd]
    have hs : v.k = 3 → v.s.length ≤ 64 := by
      intro h3
      unfold may at hm
      rw [if_neg (by omega), if_neg (by omega), if_neg (by omega), if_pos h3] at hm
      simp at hm
      exact hm.2
    constructor
    · refine bind_of (may_le (by omega) v) ?_
      rw [hm]
      show cnd (decide (([] ++ (G.sl (gB b)).toList).length + 1 ≤ 68719476736)) _ _ = _
      rw [d2]
      show cnd (decide (v.k = 1)) (cnd (decide ((gB b ++ [G.int .u8 (IntKind.wrap .u8 v.k)]).length + 1 ≤ 68719476736)) (some (G.sl ((gB b ++ [G.int .u8 (IntKind.wrap .u8 v.k)]) ++ [G.int .u8 (IntKind.wrap .u8 v.n)]), [])) none) (cnd (decide (v.k = 2)) ((C m 60 [.val (.int .i64 v.n)]).bind fun r1 => (C m 39 [.val (.sl (gB b ++ [G.int .u8 (IntKind.wrap .u8 v.k)])), .val (.int .u64 r1.1.toInt)]).bind fun r2 => some (.sl r2.1.toList, [])) (cnd (decide (v.k = 3)) ((C m 61 [.val (.sl (gB b ++ [G.int .u8 (IntKind.wrap .u8 v.k)])), .val (.sl (gB v.s))]).bind fun r3 => some (.sl r3.1.toList, [])) (some (G.sl (gB b ++ [G.int .u8 (IntKind.wrap .u8 v.k)]), [])))) = _
      rw [hbk]
      refine key 39 61 _ _ (fun h2 => ?_) (fun h3 => ?_)
      · refine bind_of (zig_le (by omega) hv.2.1) ?_
        exact hz _ _ (var_eq (n := m) (by omega) (b ++ [byte v.k.toNat]) (zigN v.n) (zig_lt hv.2.1) (by simp; omega))
      · exact hz _ _ (text_le (n := m) (by omega) (b ++ [byte v.k.toNat]) v.s (by simp; omega) (by have := hs h3; omega)).1
    · refine bind_of (mayr_le (by omega) v) ?_
      rw [hm]
      show cnd (decide (([] ++ (G.sl (gB b)).toList).length + 1 ≤ 68719476736)) _ _ = _
      rw [d2]
      show cnd (decide (v.k = 1)) (cnd (decide ((gB b ++ [G.int .u8 (IntKind.wrap .u8 v.k)]).length + 1 ≤ 68719476736)) (some (G.sl ((gB b ++ [G.int .u8 (IntKind.wrap .u8 v.k)]) ++ [G.int .u8 (IntKind.wrap .u8 v.n)]), [])) none) (cnd (decide (v.k = 2)) ((C m 62 [.val (.int .i64 v.n)]).bind fun r1 => (C m 41 [.val (.sl (gB b ++ [G.int .u8 (IntKind.wrap .u8 v.k)])), .val (.int .u64 r1.1.toInt)]).bind fun r2 => some (.sl r2.1.toList, [])) (cnd (decide (v.k = 3)) ((C m 63 [.val (.sl (gB b ++ [G.int .u8 (IntKind.wrap .u8 v.k)])), .val (.sl (gB v.s))]).bind fun r3 => some (.sl r3.1.toList, [])) (some (G.sl (gB b ++ [G.int .u8 (IntKind.wrap .u8 v.k)]), [])))) = _
      rw [hbk]
      refine key 41 63 _ _ (fun h2 => ?_) (fun h3 => ?_)
      · refine bind_of (zigr_le (by omega) hv.2.1) ?_
        exact hz _ _ (var_ref (n := m) (by omega) (b ++ [byte v.k.toNat]) (zigN v.n) (zig_lt hv.2.1) (by simp; omega))
      · exact hz _ _ (text_le (n := m) (by omega) (b ++ [byte v.k.toNat]) v.s (by simp; omega) (by have := hs h3; omega)).2
end Go.Proofs.Ytihipeicmbgegaa.Pure
