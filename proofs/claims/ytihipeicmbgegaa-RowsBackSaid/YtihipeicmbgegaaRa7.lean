/- Keys of values: both texts. No conditions. -/
import Derived.Test.YtihipeicmbgegaaRa6
namespace Go.Proofs.Ytihipeicmbgegaa.Pure
open Go Go.Proofs Go.Proofs.Ytihipeicmbgegaa.Rf
set_option linter.unusedVariables false
set_option linter.unusedSimpArgs false
attribute [local irreducible] C L49_1 L79_1 L31_0 L32_0 J49_0 J79_0
theorem pow256 (k : Nat) : (256 : Nat) ^ k = 2 ^ (8 * k) := by rw [Nat.pow_mul]
theorem put_loop (n : Nat) (a0 a1 a2 : G) (v : Nat) : ∀ (k m : Nat) (b : List UInt8), k ≤ 8 → k < m → b.length + k ≤ 1000000000 → L49_1 n m a0 a1 a2 v (8 * (k : Int) - 8) (gB b) = some (.tu [.sl (gB (b ++ beK k v)), .int .i64 0], [])
  | 0, m + 1, b, _, _, _ => by
    rw [L49_1_eq]
    refine grd_f (decide_eq_false (by omega)) ?_
    rw [beK, List.append_nil]
  | k + 1, m + 1, b, hk, hm, hb => by
    have e1 : 8 * ((k + 1 : Nat) : Int) - 8 = 8 * (k : Int) := by omega
    have e2 : (IntKind.wrap .u64 (8 * (k : Int))).toNat = 8 * k := by rw [wu (by omega) (by omega)]; omega
    have e3 : min (8 * k) 64 = 8 * k := by omega
    have e4 : IntKind.wrap .i64 (8 * (k : Int) - 8) = 8 * (k : Int) - 8 := wr (by omega) (by omega)
    have e5 : Int.fdiv (v : Int) (2 ^ (8 * k)) = ((v / 256 ^ k : Nat) : Int) := by
      have : ((2 : Int) ^ (8 * k)) = ((256 ^ k : Nat) : Int) := by rw [pow256]; simp
      rw [this, Int.fdiv_eq_ediv_of_nonneg _ (Int.natCast_nonneg _)]
      exact (Int.natCast_ediv v (256 ^ k)).symm
    have e6 : gB b ++ [G.int .u8 (IntKind.wrap .u8 ((v / 256 ^ k : Nat) : Int))] = gB (b ++ [byte (v / 256 ^ k)]) := by
      rw [gB_app, gB_one _ (Int.natCast_nonneg _), Int.toNat_natCast]
    have ih := put_loop n a0 a1 a2 v k m (b ++ [byte (v / 256 ^ k)]) (by omega) (by omega) (by simp; omega)
    rw [L49_1_eq, e1]
    refine grd_t (decide_eq_true (by omega)) (grd_f (decide_eq_false (by rw [wu (by omega) (by omega)]; omega)) (grd_t (decide_eq_true (by rw [gB_len]; omega)) ?_))
    rw [e2, e3, e4, e5, e6, ih, beK]
    simp
theorem put_le {n : Nat} (hn : 20 ≤ n) (b : List UInt8) (v : Nat) (hv : v < 18446744073709551616) (hb : b.length ≤ 900000000) : C n 49 [.val (.sl (gB b)), .val (.int .u64 v), .val (.int .i64 8)] = some (.tu [.sl (gB (b ++ beK 8 v)), .int .i64 0], []) := by
  obtain ⟨m, rfl⟩ : ∃ m, n = m + 1 := ⟨n - 1, by omega⟩
  rw [f49_eq]
  refine grd_f rfl (grd_f rfl ?_)
  rw [J49_0_eq]
  obtain ⟨r, hr, hr2⟩ := len64_le (n := m) (by omega) v hv
  refine bind_of hr (grd_f (decide_eq_false (by
    show ¬ IntKind.wrap .i64 (8 * 8) < r
    rw [wr (by omega) (by omega)]; omega)) (bind_of (room_le (by omega) b 8 (by omega) (by omega) (by omega)) ?_))
  have := put_loop m (.sl (gB b)) (.int .u64 v) (.int .i64 8) v 8 m b (by omega) (by omega) (by omega)
  refine Eq.trans ?_ this
  rfl
theorem beK_snoc : ∀ (k v : Nat), beK (k + 1) v = beK k (v / 256) ++ [byte v]
  | 0, v => by simp [beK]
  | k + 1, v => by
    rw [beK, beK_snoc k v, beK, Nat.div_div_eq_div_mul, Nat.pow_succ, Nat.mul_comm (256 ^ k)]
    rfl
theorem ref_loop (n : Nat) (a0 a1 a2 : G) : ∀ (i m v : Nat) (t : List UInt8), i ≤ 8 → t.length = 8 - i → i < m → v < 256 ^ i → L79_1 n m a0 a1 a2 [] v ((i : Int) - 1) (List.replicate i (.int .u8 0) ++ gB t) = some (.tu [.sl (gB (beK i v ++ t)), .int .i64 0], [])
  | 0, m + 1, v, t, _, ht, _, hv => by
    rw [L79_1_eq]
    refine grd_f (decide_eq_false (by omega)) (grd_f (decide_eq_false (by simp at hv; omega)) (grd_t (decide_eq_true (by simp)) (grd_t (decide_eq_true (by simp [gB_len, ht])) ?_)))
    simp [beK]
  | i + 1, m + 1, v, t, hi, ht, hm, hv => by
    have e1 : ((i + 1 : Nat) : Int) - 1 = (i : Int) := by omega
    have e2 : IntKind.wrap .i64 ((i : Int) - 1) = (i : Int) - 1 := wr (by omega) (by omega)
    have hvb : v < 18446744073709551616 := by
      have h5 : (256 : Nat) ^ (i + 1) ≤ 256 ^ 8 := Nat.pow_le_pow_right (by decide) (by omega)
      have h6 : (256 : Nat) ^ 8 = 18446744073709551616 := by decide
      omega
    have e3 : IntKind.wrap .u64 (Int.tdiv (v : Int) 256) = ((v / 256 : Nat) : Int) := by
      rw [Int.tdiv_eq_ediv_of_nonneg (by omega), wu (by omega) (by omega)]; omega
    have e4 : G.int .u8 (IntKind.wrap .u8 (Int.tmod (v : Int) 256)) = .int .u8 ((byte v).toNat) := by
      rw [byte_nat, Int.tmod_eq_emod_of_nonneg (by omega), w8]
      congr 1
      omega
    have e5 : (List.replicate (i + 1) (G.int .u8 0) ++ gB t).set i (.int .u8 ((byte v).toNat)) = List.replicate i (.int .u8 0) ++ gB (byte v :: t) := by
      rw [List.replicate_succ', List.append_assoc, List.set_append_right _ _ (by simp)]
      simp [gB]
    have hlen : (List.replicate (i + 1) (G.int .u8 0) ++ gB t).length = 8 := by
      rw [List.length_append, List.length_replicate, gB_len]; omega
    have ih := ref_loop n a0 a1 a2 i m (v / 256) (byte v :: t) (by omega) (by simp; omega) (by omega) (by rw [Nat.pow_succ] at hv; exact Nat.div_lt_of_lt_mul (by omega))
    rw [L79_1_eq, e1]
    refine grd_t (decide_eq_true (by omega)) (grd_t (by rw [hlen, decide_eq_true (by omega), decide_eq_true (by omega)]; rfl) ?_)
    rw [e2, e3, e4, show ((i : Int)).toNat = i by omega, e5, ih, beK_snoc]
    simp
theorem eight_le {n : Nat} (hn : 20 ≤ n) (v : Nat) (hv : v < 18446744073709551616) : C n 51 [.val (.int .u64 v)] = some (.sl (gB (beK 8 v)), []) := by
  obtain ⟨m, rfl⟩ : ∃ m, n = m + 2 := ⟨n - 2, by omega⟩
  rw [f51_eq]
  refine bind_of (r := (.tu [.sl (gB (beK 8 v)), .int .i64 0], [])) ?_ rfl
  rw [f79_eq]
  refine grd_f rfl (grd_f rfl ?_)
  rw [J79_0_eq]
  refine grd_t (by
    show (decide ((0 : Int) ≤ 8) && decide ((8 : Int) ≤ 8) && decide ((8 : Int) ≤ 68719476736)) = true
    decide) ?_
  have h := ref_loop m (.sl []) (.int .u64 v) (.int .i64 8) 8 m v [] (by omega) rfl (by omega) (by omega)
  rw [List.append_nil] at h
  refine Eq.trans ?_ h
  show L79_1 m m _ _ _ [] v (IntKind.wrap .i64 (8 - 1)) _ = _
  rw [wr (by omega) (by omega)]
  rfl
/-! ## keys -/
def esc : List UInt8 → List UInt8
  | [] => []
  | c :: l => if c.toNat = 0 then 0 :: 255 :: esc l else c :: esc l
def keyB (v : V) : List UInt8 := if may v = true then byte v.k.toNat :: (if v.k = 1 then [byte v.n.toNat] else if v.k = 2 then beK 8 (ordN v.n) else if v.k = 3 then esc v.s ++ [0, 1] else []) else []
theorem esc_loop (n : Nat) (v : V) (hs : v.s.length ≤ 1000) (a0 a1 b0 b1 : G) : ∀ (q p b : List UInt8) (m : Nat), v.s = p ++ q → b.length + 2 * q.length ≤ 1000000000 → q.length < m →
    L31_0 n m a0 a1 v.s.length p.length v.g (gB b) = some (.sl (gB (b ++ (esc q ++ [0, 1]))), []) ∧ L32_0 n m b0 b1 p.length v.g (gB b) = some (.sl (gB (b ++ (esc q ++ [0, 1]))), [])
  | [], p, b, m + 1, hpq, hb, _ => by
    have hp : p = v.s := by simpa using hpq.symm
    subst hp
    have e : gB b ++ [(G.int .u8 0), (.int .u8 1)] = gB (b ++ (esc [] ++ [0, 1])) := by rw [gB_app]; rfl
    have hb' : b.length ≤ 1000000000 := by simpa using hb
    rw [L31_0_eq, L32_0_eq, e]
    exact ⟨grd_f (decide_eq_false (by omega)) (grd_t (decide_eq_true (by rw [gB_len]; omega)) rfl), grd_f (decide_eq_false (by show ¬ ((v.s.length : Int) < (v.s.length : Int)); omega)) (grd_t (decide_eq_true (by rw [gB_len]; omega)) rfl)⟩
  | c :: q, p, b, m + 1, hpq, hb, hm => by
    have hlen : v.s.length = p.length + q.length + 1 := by rw [hpq]; simp; omega
    have hb' : b.length + 2 * (q.length + 1) ≤ 1000000000 := by simpa using hb
    have hc := lt_byte c
    have hfs : (G.fld v.g 2).toStr = v.s := rfl
    have hg : ((v.s.getD ((p.length : Int)).toNat 0).toNat : Int) = (c.toNat : Int) := by
      rw [show ((p.length : Int)).toNat = p.length by omega, hpq]
      simp [List.getD]
    have hw : IntKind.wrap .i64 ((p.length : Int) + 1) = ((p ++ [c]).length : Int) := by rw [wr (by omega) (by omega)]; simp
    have e1 : gB b ++ [G.int .u8 (c.toNat : Int)] = gB (b ++ [c]) := by rw [gB_app]; rfl
    have e2 : gB (b ++ [c]) ++ [G.int .u8 255] = gB (b ++ [c, 255]) := by rw [show b ++ [c, 255] = (b ++ [c]) ++ [255] by simp, gB_app (b ++ [c])]; rfl
    have d1 : (decide ((0 : Int) ≤ (p.length : Int)) && decide ((p.length : Int) < (v.s.length : Int))) = true := by rw [decide_eq_true (by omega), decide_eq_true (by omega)]; rfl
    have d2 : decide ((p.length : Int) < (v.s.length : Int)) = true := decide_eq_true (by omega)
    have d3 : decide ((gB b).length + 1 ≤ 68719476736) = true := decide_eq_true (by rw [gB_len]; omega)
    have d4 : decide ((gB (b ++ [c])).length + 1 ≤ 68719476736) = true := decide_eq_true (by rw [gB_len]; simp; omega)
    rw [L31_0_eq, L32_0_eq, hfs, hg, hw, e1, e2]
    by_cases h0 : c.toNat = 0
    · have ih := esc_loop n v hs a0 a1 b0 b1 q (p ++ [c]) (b ++ [c, 255]) m (by rw [hpq]; simp) (by simp; omega) (by simp at hm; omega)
      have hc0 : c = 0 := UInt8.toNat_inj.1 (by rw [h0]; rfl)
      have e3 : b ++ (esc (c :: q) ++ [0, 1]) = b ++ [c, 255] ++ (esc q ++ [0, 1]) := by
        rw [esc, if_pos h0, hc0]; simp
      rw [e3]
      have d5 : decide ((c.toNat : Int) = 0) = true := decide_eq_true (by omega)
      exact ⟨grd_t d2 (grd_t d1 (grd_t d3 (grd_t d1 (grd_t d5 (grd_t d4 ih.1))))), grd_t d2 (grd_t d1 (grd_t d3 (grd_t d1 (grd_t d5 (grd_t d4 ih.2)))))⟩
    · have ih := esc_loop n v hs a0 a1 b0 b1 q (p ++ [c]) (b ++ [c]) m (by rw [hpq]; simp) (by simp; omega) (by simp at hm; omega)
      have e3 : b ++ (esc (c :: q) ++ [0, 1]) = b ++ [c] ++ (esc q ++ [0, 1]) := by
        rw [esc, if_neg h0]; simp
      rw [e3]
      have d5 : decide ((c.toNat : Int) = 0) = false := decide_eq_false (by omega)
      exact ⟨grd_t d2 (grd_t d1 (grd_t d3 (grd_t d1 (grd_f d5 ih.1)))), grd_t d2 (grd_t d1 (grd_t d3 (grd_t d1 (grd_f d5 ih.2))))⟩
theorem key_le {n : Nat} (hn : 200 ≤ n) (b : List UInt8) (v : V) (hv : v.ok) (hb : b.length ≤ 100000000) : C n 31 [.val (.sl (gB b)), .val v.g] = some (.sl (gB (b ++ keyB v)), []) ∧ C n 32 [.val (.sl (gB b)), .val v.g] = some (.sl (gB (b ++ keyB v)), []) := by
  obtain ⟨m, rfl⟩ : ∃ m, n = m + 1 := ⟨n - 1, by omega⟩
  have d1 : decide (0 + (G.sl (gB b)).toList.length ≤ 68719476736) = true := decide_eq_true (by show 0 + (gB b).length ≤ _; rw [gB_len]; omega)
  have d2 : decide ((gB b).length + 1 ≤ 68719476736) = true := decide_eq_true (by rw [gB_len]; omega)
  have hnil : ([] ++ (G.sl (gB b)).toList : List G) = gB b := rfl
  rw [f31_eq, f32_eq, d1]
  simp only [cnd]
  unfold keyB
  cases hm : may v with
  | false =>
    rw [if_neg (by simp)]
    constructor
    · refine bind_of (may_le (by omega) v) ?_
      rw [hm, hnil, List.append_nil]; rfl
    · refine bind_of (mayr_le (by omega) v) ?_
      rw [hm, hnil, List.append_nil]; rfl
  | true =>
    rw [if_pos rfl]
    have hk : 0 ≤ v.k ∧ v.k ≤ 3 := by
      unfold may at hm
      by_cases h0 : v.k = 0
      · omega
      · by_cases h1 : v.k = 1
        · omega
        · by_cases h2 : v.k = 2
          · omega
          · by_cases h3 : v.k = 3
            · omega
            · simp [h0, h1, h2, h3] at hm
    have hbk : gB b ++ [G.int .u8 (IntKind.wrap .u8 v.k)] = gB (b ++ [byte v.k.toNat]) := by rw [gB_app, gB_one _ hk.1]
    have hfk : (G.fld v.g 0).toInt = v.k := rfl
    have hfn : (G.fld v.g 1).toInt = v.n := rfl
    have hs : v.k = 3 → v.s.length ≤ 64 := by
      intro h3
      unfold may at hm
      rw [if_neg (by omega), if_neg (by omega), if_neg (by omega), if_pos h3] at hm
      simp at hm
      exact hm.2
    have d3 : decide ((gB (b ++ [byte v.k.toNat])).length + 1 ≤ 68719476736) = true := decide_eq_true (by rw [gB_len]; simp; omega)
    by_cases h1 : v.k = 1
    · have hn0 : 0 ≤ v.n := by
        unfold may at hm
        rw [if_neg (by omega), if_pos h1] at hm
        simp at hm
        omega
      have e : gB (b ++ [byte v.k.toNat]) ++ [G.int .u8 (IntKind.wrap .u8 v.n)] = gB (b ++ byte v.k.toNat :: [byte v.n.toNat]) := by
        rw [gB_one _ hn0, ← gB_app]; simp
      have c1 : decide (v.k = 1) = true := decide_eq_true h1
      rw [if_pos h1]
      constructor
      · refine bind_of (may_le (by omega) v) ?_
        rw [hm, hnil, hfk, hfn, hbk]
        exact grd_t d2 (grd_t c1 (grd_t d3 (by rw [e])))
      · refine bind_of (mayr_le (by omega) v) ?_
        rw [hm, hnil, hfk, hfn, hbk]
        exact grd_t d2 (grd_t c1 (grd_t d3 (by rw [e])))
    · have c1 : decide (v.k = 1) = false := decide_eq_false h1
      rw [if_neg h1]
      by_cases h2 : v.k = 2
      · have c2 : decide (v.k = 2) = true := decide_eq_true h2
        have e : b ++ byte v.k.toNat :: beK 8 (ordN v.n) = b ++ [byte v.k.toNat] ++ beK 8 (ordN v.n) := by simp
        rw [if_pos h2, e]
        constructor
        · refine bind_of (may_le (by omega) v) ?_
          rw [hm, hnil, hfk, hfn, hbk]
          exact grd_t d2 (grd_f c1 (grd_t c2 (bind_of (ord_le (by omega) hv.2.1) (bind_of (put_le (n := m) (by omega) (b ++ [byte v.k.toNat]) (ordN v.n) (ord_lt hv.2.1) (by simp; omega)) rfl))))
        · refine bind_of (mayr_le (by omega) v) ?_
          rw [hm, hnil, hfk, hfn, hbk]
          have hl : decide ((gB (b ++ [byte v.k.toNat])).length + (G.sl (gB (beK 8 (ordN v.n)))).toList.length ≤ 68719476736) = true := decide_eq_true (by
            show (gB (b ++ [byte v.k.toNat])).length + (gB (beK 8 (ordN v.n))).length ≤ _
            rw [gB_len, gB_len, beK_len]; simp; omega)
          refine grd_t d2 (grd_f c1 (grd_t c2 (bind_of (ordr_le (by omega) hv.2.1) (bind_of (eight_le (n := m) (by omega) (ordN v.n) (ord_lt hv.2.1)) (grd_t hl ?_)))))
          rw [gB_app (b ++ [byte v.k.toNat])]
          rfl
      · have c2 : decide (v.k = 2) = false := decide_eq_false h2
        rw [if_neg h2]
        by_cases h3 : v.k = 3
        · have c3 : decide (v.k = 3) = true := decide_eq_true h3
          have e : b ++ byte v.k.toNat :: (esc v.s ++ [0, 1]) = b ++ [byte v.k.toNat] ++ (esc v.s ++ [0, 1]) := by simp
          have hs3 := hs h3
          obtain ⟨l1, l2⟩ := esc_loop m v (by omega) (.sl (gB b)) v.g (.sl (gB b)) v.g v.s [] (b ++ [byte v.k.toNat]) m rfl (by simp; omega) (by omega)
          rw [if_pos h3, e]
          constructor
          · refine bind_of (may_le (by omega) v) ?_
            rw [hm, hnil, hfk, hfn, hbk]
            exact grd_t d2 (grd_f c1 (grd_f c2 (grd_t c3 l1)))
          · refine bind_of (mayr_le (by omega) v) ?_
            rw [hm, hnil, hfk, hfn, hbk]
            exact grd_t d2 (grd_f c1 (grd_f c2 (grd_t c3 l2)))
        · have c3 : decide (v.k = 3) = false := decide_eq_false h3
          rw [if_neg h3]
          constructor
          · refine bind_of (may_le (by omega) v) ?_
            rw [hm, hnil, hfk, hfn, hbk]
            exact grd_t d2 (grd_f c1 (grd_f c2 (grd_f c3 rfl)))
          · refine bind_of (mayr_le (by omega) v) ?_
            rw [hm, hnil, hfk, hfn, hbk]
            exact grd_t d2 (grd_f c1 (grd_f c2 (grd_f c3 rfl)))
end Go.Proofs.Ytihipeicmbgegaa.Pure
