/- Values of expressions: what they may be, and that both texts give them. Written by va6.py. No conditions. -/
import Derived.Test.YtpmecpmankpcbaaVa5
namespace Go.Proofs.Ytpmecpmankpcbaa.Pure
open Go Go.Proofs Go.Proofs.Ytpmecpmankpcbaa.Rf
set_option linter.unusedVariables false
set_option linter.unusedSimpArgs false
/-! ## what values may be -/
def F2 : List Int → List V → Prop
  | [], [] => True
  | k :: ks, v :: vs => (may v = true ∧ (v.k = k ∨ v.k = 0) ∧ v.ok) ∧ F2 ks vs
  | _, _ => False
def Gd (t : Int) (x : V × Int) : Prop := (x.2 = 0 → may x.1 = true ∧ (x.1.k = t ∨ x.1.k = 0) ∧ x.1.ok) ∧ (x.2 ≠ 0 → x.1 = .z ∧ (x.2 = 5 ∨ x.2 = 17))
theorem z_ok : V.z.ok := ⟨by decide, by decide, Nat.zero_le _⟩
theorem tr_ok (b : Bool) : (tr b).ok := by cases b <;> exact ⟨by decide, by decide, Nat.zero_le _⟩
theorem gd_z (t : Int) : Gd t (.z, 0) := ⟨fun _ => ⟨rfl, .inr rfl, z_ok⟩, fun h => absurd rfl h⟩
theorem gd_tr (b : Bool) : Gd 1 (tr b, 0) := ⟨fun _ => ⟨by cases b <;> rfl, .inl rfl, tr_ok b⟩, fun h => absurd rfl h⟩
theorem gd_num {x : Int × Int} (h0 : x.2 = 0 → I64 x.1) (h1 : x.2 ≠ 0 → x.2 = 5 ∨ x.2 = 17) : Gd 2 (num x) := by
  unfold num
  by_cases h : x.2 = 0
  · rw [if_pos h]
    exact ⟨fun _ => ⟨rfl, .inl rfl, (by decide : I64 2), h0 h, Nat.zero_le _⟩, fun h => absurd rfl h⟩
  · rw [if_neg h]
    exact ⟨fun e => absurd e h, fun _ => ⟨rfl, h1 h⟩⟩
theorem rng_i {x : Int} (h : (rng x).2 = 0) : I64 (rng x).1 := by
  by_cases hx : I64 x
  · rw [rng_ok hx]; exact hx
  · rw [rng_no hx] at h; exact absurd h (by decide)
theorem rng_e {x : Int} (h : (rng x).2 ≠ 0) : (rng x).2 = 5 ∨ (rng x).2 = 17 := by
  by_cases hx : I64 x
  · rw [rng_ok hx] at h; exact absurd rfl h
  · rw [rng_no hx]; exact .inl rfl
theorem gd_rng (x : Int) : Gd 2 (num (rng x)) := gd_num rng_i rng_e
theorem tmod_i {a b : Int} (ha : I64 a) : I64 (Int.tmod a b) := by
  have h : (a.tmod b).natAbs = a.natAbs % b.natAbs := Int.natAbs_tmod a b
  have h2 : a.natAbs % b.natAbs ≤ a.natAbs := Nat.mod_le _ _
  have hs : 0 ≤ a → 0 ≤ a.tmod b := fun h => Int.tmod_nonneg b h
  have hs2 : a ≤ 0 → a.tmod b ≤ 0 := fun h => by
    have h3 : 0 ≤ (-a).tmod b := Int.tmod_nonneg b (by omega)
    rw [Int.neg_tmod] at h3
    omega
  unfold I64 at ha ⊢
  omega
theorem gd_reck {k : Nat} {a b : Int} (ha : I64 a) (hb : I64 b) : Gd 2 (num (reckN k a b)) := by
  unfold reckN
  split
  · exact gd_rng _
  split
  · exact gd_rng _
  split
  · exact gd_rng _
  split
  · unfold divS
    split
    · exact gd_num (fun h => absurd h (by decide)) (fun _ => .inr rfl)
    · exact gd_rng _
  · unfold modS
    split
    · exact gd_num (fun h => absurd h (by decide)) (fun _ => .inr rfl)
    · exact gd_num (fun _ => tmod_i ha) (fun h => absurd rfl h)
theorem toldT_ok {m s : Bool} {k t : Int} (h : toldT m s k = (t, 0)) : m = true ∧ s = true ∧ t = k := by
  cases m <;> cases s <;> simp [toldT] at h
  exact ⟨rfl, rfl, h.symm⟩
theorem may_tri {v : V} (h : may v = true) (hk : v.k = 1 ∨ v.k = 0) : tri v := by
  obtain ⟨a, b, c⟩ := v
  rcases hk with hk | hk
  · simp only at hk
    subst hk
    simp [may] at h
    obtain ⟨h1, rfl⟩ := h
    rcases h1 with rfl | rfl
    · exact .inr (.inl rfl)
    · exact .inr (.inr rfl)
  · simp only at hk
    subst hk
    simp [may] at h
    obtain ⟨rfl, rfl⟩ := h
    exact .inl rfl
theorem fits_tri {k : Int} {v : V} (h : may v = true) (hk : v.k = k ∨ v.k = 0) (hf : fitsI 1 k = true) : tri v := by
  refine may_tri h ?_
  simp [fitsI] at hf
  omega
theorem tri_z {v : V} (h : tri v) : Gd 1 (v, 0) := by
  rcases h with rfl | rfl | rfl
  · exact gd_z 1
  · exact gd_tr false
  · exact gd_tr true
theorem gd_both {w : Int} {a b : V} (ha : tri a) (hb : tri b) : Gd 1 (bothS w a b, 0) := by
  unfold bothS
  split
  · exact tri_z ha
  split
  · exact tri_z hb
  split
  · exact gd_z 1
  · exact gd_tr _
theorem two_of {ks : List Int} {vs : List V} (h : F2 ks vs) (hl : ks.length = 2) : ∃ k1 k2 a b, ks = [k1, k2] ∧ vs = [a, b] ∧ (may a = true ∧ (a.k = k1 ∨ a.k = 0) ∧ a.ok) ∧ (may b = true ∧ (b.k = k2 ∨ b.k = 0) ∧ b.ok) := by
  match ks, vs, hl, h with
  | [k1, k2], [a, b], _, ⟨h1, h2, _⟩ => exact ⟨k1, k2, a, b, rfl, rfl, h1, h2⟩
  | [k1, k2], [], _, h => exact h.elim
  | [k1, k2], [a], _, h => exact h.2.elim
  | [k1, k2], a :: b :: c :: d, _, h => exact h.2.2.elim
theorem one_of {ks : List Int} {vs : List V} (h : F2 ks vs) (hl : ks.length = 1) : ∃ k1 a, ks = [k1] ∧ vs = [a] ∧ (may a = true ∧ (a.k = k1 ∨ a.k = 0) ∧ a.ok) := by
  match ks, vs, hl, h with
  | [k1], [a], _, ⟨h1, _⟩ => exact ⟨k1, a, rfl, rfl, h1⟩
  | [k1], [], _, h => exact h.elim
  | [k1], a :: b :: c, _, h => exact h.2.elim
def nlOf (vs : List V) : Bool := vs.any fun v => decide (v.k = 0)
/-- An operator over values of the kinds that it takes: its value may be, and both texts give it. -/
theorem does_all (s : List UInt8) (ks : List Int) (vs : List V) (t : Int) (h : opT (opn s) ks = (t, 0)) (hf : F2 ks vs) :
    Gd t (doesN (opn s) vs) ∧ (∀ n, C (n + 12) 38 [.val (.str s), .val (.sl (vs.map V.g))] = some (vg (doesN (opn s) vs))) ∧ (∀ n, refDo (n + 6) s (nlOf vs) (vs.map V.g) = some (vg (doesN (opn s) vs))) := by
  by_cases h0 : s = [73, 83, 78, 85, 76, 76]
  · subst h0
    obtain ⟨c1, c2, rfl⟩ := toldT_ok (show toldT _ _ _ = (t, 0) from h)
    obtain ⟨k1, a, rfl, rfl, m1, q1, o1⟩ := one_of hf (of_decide_eq_true c1)
    have e1 : nlOf [a] = decide (a.k = 0) := by simp [nlOf]
    rw [e1]
    exact ⟨gd_tr _, fun n => d_1 n a, fun n => r_1 n a⟩
  by_cases h1 : s = [78, 79, 84, 78, 85, 76, 76]
  · subst h1
    obtain ⟨c1, c2, rfl⟩ := toldT_ok (show toldT _ _ _ = (t, 0) from h)
    obtain ⟨k1, a, rfl, rfl, m1, q1, o1⟩ := one_of hf (of_decide_eq_true c1)
    have e1 : nlOf [a] = decide (a.k = 0) := by simp [nlOf]
    rw [e1]
    exact ⟨gd_tr _, fun n => d_2 n a, fun n => r_2 n a⟩
  by_cases h2 : s = [78, 79, 84]
  · subst h2
    obtain ⟨c1, c2, rfl⟩ := toldT_ok (show toldT _ _ _ = (t, 0) from h)
    obtain ⟨k1, a, rfl, rfl, m1, q1, o1⟩ := one_of hf (of_decide_eq_true c1)
    have e1 : nlOf [a] = decide (a.k = 0) := by simp [nlOf]
    rw [e1]
    have t1 := fits_tri m1 q1 (by simpa using c2)
    refine ⟨?_, fun n => d_3 n a, fun n => r_3 n a t1⟩
    show Gd 1 (if a.k = 0 then (.z, 0) else (tr (!decide (a = tr true)), 0))
    split
    · exact gd_z 1
    · exact gd_tr _
  by_cases h3 : s = [78, 69, 71]
  · subst h3
    obtain ⟨c1, c2, rfl⟩ := toldT_ok (show toldT _ _ _ = (t, 0) from h)
    obtain ⟨k1, a, rfl, rfl, m1, q1, o1⟩ := one_of hf (of_decide_eq_true c1)
    have e1 : nlOf [a] = decide (a.k = 0) := by simp [nlOf]
    rw [e1]
    refine ⟨?_, fun n => d_4 n a o1.2.1, fun n => r_4 n a o1.2.1⟩
    show Gd 2 (if a.k = 0 then (.z, 0) else num (rng (0 - a.n)))
    split
    · exact gd_z 2
    · exact gd_rng _
  by_cases h4 : s = [79, 82]
  · subst h4
    obtain ⟨c1, c2, rfl⟩ := toldT_ok (show toldT _ _ _ = (t, 0) from h)
    obtain ⟨k1, k2, a, b, rfl, rfl, ⟨m1, q1, o1⟩, m2, q2, o2⟩ := two_of hf (of_decide_eq_true c1)
    have e1 : nlOf [a, b] = (decide (a.k = 0) || decide (b.k = 0)) := by simp [nlOf]
    rw [e1]
    have c3 : fitsI 1 k1 = true ∧ fitsI 1 k2 = true := by simpa using c2
    exact ⟨gd_both (fits_tri m1 q1 c3.1) (fits_tri m2 q2 c3.2), fun n => d_5 n a b, fun n => r_5 n a b (fits_tri m1 q1 c3.1) (fits_tri m2 q2 c3.2) _⟩
  by_cases h5 : s = [65, 78, 68]
  · subst h5
    obtain ⟨c1, c2, rfl⟩ := toldT_ok (show toldT _ _ _ = (t, 0) from h)
    obtain ⟨k1, k2, a, b, rfl, rfl, ⟨m1, q1, o1⟩, m2, q2, o2⟩ := two_of hf (of_decide_eq_true c1)
    have e1 : nlOf [a, b] = (decide (a.k = 0) || decide (b.k = 0)) := by simp [nlOf]
    rw [e1]
    have c3 : fitsI 1 k1 = true ∧ fitsI 1 k2 = true := by simpa using c2
    exact ⟨gd_both (fits_tri m1 q1 c3.1) (fits_tri m2 q2 c3.2), fun n => d_6 n a b, fun n => r_6 n a b (fits_tri m1 q1 c3.1) (fits_tri m2 q2 c3.2) _⟩
  by_cases h6 : s = [43]
  · subst h6
    obtain ⟨c1, c2, rfl⟩ := toldT_ok (show toldT _ _ _ = (t, 0) from h)
    obtain ⟨k1, k2, a, b, rfl, rfl, ⟨m1, q1, o1⟩, m2, q2, o2⟩ := two_of hf (of_decide_eq_true c1)
    have e1 : nlOf [a, b] = (decide (a.k = 0) || decide (b.k = 0)) := by simp [nlOf]
    rw [e1]
    refine ⟨?_, fun n => d_7 n a b o1.2.1 o2.2.1, fun n => r_7 n a b o1.2.1 o2.2.1⟩
    show Gd 2 (if a.k = 0 then (.z, 0) else if b.k = 0 then (.z, 0) else num (reckN 7 a.n b.n))
    split
    · exact gd_z 2
    split
    · exact gd_z 2
    · exact gd_reck o1.2.1 o2.2.1
  by_cases h7 : s = [45]
  · subst h7
    obtain ⟨c1, c2, rfl⟩ := toldT_ok (show toldT _ _ _ = (t, 0) from h)
    obtain ⟨k1, k2, a, b, rfl, rfl, ⟨m1, q1, o1⟩, m2, q2, o2⟩ := two_of hf (of_decide_eq_true c1)
    have e1 : nlOf [a, b] = (decide (a.k = 0) || decide (b.k = 0)) := by simp [nlOf]
    rw [e1]
    refine ⟨?_, fun n => d_8 n a b o1.2.1 o2.2.1, fun n => r_8 n a b o1.2.1 o2.2.1⟩
    show Gd 2 (if a.k = 0 then (.z, 0) else if b.k = 0 then (.z, 0) else num (reckN 8 a.n b.n))
    split
    · exact gd_z 2
    split
    · exact gd_z 2
    · exact gd_reck o1.2.1 o2.2.1
  by_cases h8 : s = [42]
  · subst h8
    obtain ⟨c1, c2, rfl⟩ := toldT_ok (show toldT _ _ _ = (t, 0) from h)
    obtain ⟨k1, k2, a, b, rfl, rfl, ⟨m1, q1, o1⟩, m2, q2, o2⟩ := two_of hf (of_decide_eq_true c1)
    have e1 : nlOf [a, b] = (decide (a.k = 0) || decide (b.k = 0)) := by simp [nlOf]
    rw [e1]
    refine ⟨?_, fun n => d_9 n a b o1.2.1 o2.2.1, fun n => r_9 n a b o1.2.1 o2.2.1⟩
    show Gd 2 (if a.k = 0 then (.z, 0) else if b.k = 0 then (.z, 0) else num (reckN 9 a.n b.n))
    split
    · exact gd_z 2
    split
    · exact gd_z 2
    · exact gd_reck o1.2.1 o2.2.1
  by_cases h9 : s = [47]
  · subst h9
    obtain ⟨c1, c2, rfl⟩ := toldT_ok (show toldT _ _ _ = (t, 0) from h)
    obtain ⟨k1, k2, a, b, rfl, rfl, ⟨m1, q1, o1⟩, m2, q2, o2⟩ := two_of hf (of_decide_eq_true c1)
    have e1 : nlOf [a, b] = (decide (a.k = 0) || decide (b.k = 0)) := by simp [nlOf]
    rw [e1]
    refine ⟨?_, fun n => d_10 n a b o1.2.1 o2.2.1, fun n => r_10 n a b o1.2.1 o2.2.1⟩
    show Gd 2 (if a.k = 0 then (.z, 0) else if b.k = 0 then (.z, 0) else num (reckN 10 a.n b.n))
    split
    · exact gd_z 2
    split
    · exact gd_z 2
    · exact gd_reck o1.2.1 o2.2.1
  by_cases h10 : s = [37]
  · subst h10
    obtain ⟨c1, c2, rfl⟩ := toldT_ok (show toldT _ _ _ = (t, 0) from h)
    obtain ⟨k1, k2, a, b, rfl, rfl, ⟨m1, q1, o1⟩, m2, q2, o2⟩ := two_of hf (of_decide_eq_true c1)
    have e1 : nlOf [a, b] = (decide (a.k = 0) || decide (b.k = 0)) := by simp [nlOf]
    rw [e1]
    refine ⟨?_, fun n => d_11 n a b o1.2.1 o2.2.1, fun n => r_11 n a b o1.2.1 o2.2.1⟩
    show Gd 2 (if a.k = 0 then (.z, 0) else if b.k = 0 then (.z, 0) else num (reckN 11 a.n b.n))
    split
    · exact gd_z 2
    split
    · exact gd_z 2
    · exact gd_reck o1.2.1 o2.2.1
  by_cases h11 : s = [61]
  · subst h11
    obtain ⟨c1, c2, rfl⟩ := toldT_ok (show toldT _ _ _ = (t, 0) from h)
    obtain ⟨k1, k2, a, b, rfl, rfl, ⟨m1, q1, o1⟩, m2, q2, o2⟩ := two_of hf (of_decide_eq_true c1)
    have e1 : nlOf [a, b] = (decide (a.k = 0) || decide (b.k = 0)) := by simp [nlOf]
    rw [e1]
    refine ⟨?_, fun n => d_12 n a b, fun n => r_12 n a b⟩
    show Gd 1 (if a.k = 0 then (.z, 0) else if b.k = 0 then (.z, 0) else (tr (holdsN 12 (cmpV a b)), 0))
    split
    · exact gd_z 1
    split
    · exact gd_z 1
    · exact gd_tr _
  by_cases h12 : s = [60, 62]
  · subst h12
    obtain ⟨c1, c2, rfl⟩ := toldT_ok (show toldT _ _ _ = (t, 0) from h)
    obtain ⟨k1, k2, a, b, rfl, rfl, ⟨m1, q1, o1⟩, m2, q2, o2⟩ := two_of hf (of_decide_eq_true c1)
    have e1 : nlOf [a, b] = (decide (a.k = 0) || decide (b.k = 0)) := by simp [nlOf]
    rw [e1]
    refine ⟨?_, fun n => d_13 n a b, fun n => r_13 n a b⟩
    show Gd 1 (if a.k = 0 then (.z, 0) else if b.k = 0 then (.z, 0) else (tr (holdsN 13 (cmpV a b)), 0))
    split
    · exact gd_z 1
    split
    · exact gd_z 1
    · exact gd_tr _
  by_cases h13 : s = [60]
  · subst h13
    obtain ⟨c1, c2, rfl⟩ := toldT_ok (show toldT _ _ _ = (t, 0) from h)
    obtain ⟨k1, k2, a, b, rfl, rfl, ⟨m1, q1, o1⟩, m2, q2, o2⟩ := two_of hf (of_decide_eq_true c1)
    have e1 : nlOf [a, b] = (decide (a.k = 0) || decide (b.k = 0)) := by simp [nlOf]
    rw [e1]
    refine ⟨?_, fun n => d_14 n a b, fun n => r_14 n a b⟩
    show Gd 1 (if a.k = 0 then (.z, 0) else if b.k = 0 then (.z, 0) else (tr (holdsN 14 (cmpV a b)), 0))
    split
    · exact gd_z 1
    split
    · exact gd_z 1
    · exact gd_tr _
  by_cases h14 : s = [60, 61]
  · subst h14
    obtain ⟨c1, c2, rfl⟩ := toldT_ok (show toldT _ _ _ = (t, 0) from h)
    obtain ⟨k1, k2, a, b, rfl, rfl, ⟨m1, q1, o1⟩, m2, q2, o2⟩ := two_of hf (of_decide_eq_true c1)
    have e1 : nlOf [a, b] = (decide (a.k = 0) || decide (b.k = 0)) := by simp [nlOf]
    rw [e1]
    refine ⟨?_, fun n => d_15 n a b, fun n => r_15 n a b⟩
    show Gd 1 (if a.k = 0 then (.z, 0) else if b.k = 0 then (.z, 0) else (tr (holdsN 15 (cmpV a b)), 0))
    split
    · exact gd_z 1
    split
    · exact gd_z 1
    · exact gd_tr _
  by_cases h15 : s = [62]
  · subst h15
    obtain ⟨c1, c2, rfl⟩ := toldT_ok (show toldT _ _ _ = (t, 0) from h)
    obtain ⟨k1, k2, a, b, rfl, rfl, ⟨m1, q1, o1⟩, m2, q2, o2⟩ := two_of hf (of_decide_eq_true c1)
    have e1 : nlOf [a, b] = (decide (a.k = 0) || decide (b.k = 0)) := by simp [nlOf]
    rw [e1]
    refine ⟨?_, fun n => d_16 n a b, fun n => r_16 n a b⟩
    show Gd 1 (if a.k = 0 then (.z, 0) else if b.k = 0 then (.z, 0) else (tr (holdsN 16 (cmpV a b)), 0))
    split
    · exact gd_z 1
    split
    · exact gd_z 1
    · exact gd_tr _
  by_cases h16 : s = [62, 61]
  · subst h16
    obtain ⟨c1, c2, rfl⟩ := toldT_ok (show toldT _ _ _ = (t, 0) from h)
    obtain ⟨k1, k2, a, b, rfl, rfl, ⟨m1, q1, o1⟩, m2, q2, o2⟩ := two_of hf (of_decide_eq_true c1)
    have e1 : nlOf [a, b] = (decide (a.k = 0) || decide (b.k = 0)) := by simp [nlOf]
    rw [e1]
    refine ⟨?_, fun n => d_17 n a b, fun n => r_17 n a b⟩
    show Gd 1 (if a.k = 0 then (.z, 0) else if b.k = 0 then (.z, 0) else (tr (holdsN 17 (cmpV a b)), 0))
    split
    · exact gd_z 1
    split
    · exact gd_z 1
    · exact gd_tr _
  have e : opn s = 0 := by unfold opn; rw [if_neg h0, if_neg h1, if_neg h2, if_neg h3, if_neg h4, if_neg h5, if_neg h6, if_neg h7, if_neg h8, if_neg h9, if_neg h10, if_neg h11, if_neg h12, if_neg h13, if_neg h14, if_neg h15, if_neg h16]
  rw [e] at h
  simp [opT] at h
/-! ## values of expressions -/
def evOp (s : List UInt8) (x : List V × Int) : V × Int := if x.2 = 0 then doesN (opn s) x.1 else (.z, x.2)
mutual
def evE (row : List V) : E → V × Int
  | .mk k s v l => if k = 1 then (v, 0) else if k = 2 then (row.getD (colN s).toNat .z, 0) else evOp s (evEs row l)
def evEs (row : List V) : List E → List V × Int
  | [] => ([], 0)
  | e :: l => if (evE row e).2 = 0 then (if (evEs row l).2 = 0 then ((evE row e).1 :: (evEs row l).1, 0) else ([], (evEs row l).2)) else ([], (evE row e).2)
end
def one3 (k : Int) (v : V) : Bool := may v && (decide (v.k = k) || decide (v.k = 0))
def rowOk : List V → Bool
  | [a, b, c] => one3 2 a && (one3 1 b && one3 3 c)
  | _ => false
theorem one3_ok {k : Int} {v : V} (h : one3 k v = true) : may v = true ∧ (v.k = k ∨ v.k = 0) := by
  simpa [one3] using h
theorem row_of {row : List V} (h : rowOk row = true) (ho : ∀ v ∈ row, v.ok) : ∃ a b c, row = [a, b, c] ∧ (may a = true ∧ (a.k = 2 ∨ a.k = 0) ∧ a.ok) ∧ (may b = true ∧ (b.k = 1 ∨ b.k = 0) ∧ b.ok) ∧ (may c = true ∧ (c.k = 3 ∨ c.k = 0) ∧ c.ok) := by
  match row, h with
  | [a, b, c], h =>
    simp only [rowOk, Bool.and_eq_true] at h
    have h1 := one3_ok h.1
    have h2 := one3_ok h.2.1
    have h3 := one3_ok h.2.2
    exact ⟨a, b, c, rfl, ⟨h1.1, h1.2, ho a (by simp)⟩, ⟨h2.1, h2.2, ho b (by simp)⟩, ⟨h3.1, h3.2, ho c (by simp)⟩⟩
theorem tyEs_all : ∀ (l : List E), (tyEs l).2 = 0 → ∀ x ∈ l, (tyE x).2 = 0
  | y :: l, h, x, hx => by
    rw [tyEs] at h
    by_cases h1 : (tyE y).2 = 0
    · rw [if_pos h1] at h
      by_cases h2 : (tyEs l).2 = 0
      · rcases List.mem_cons.1 hx with rfl | hx
        · exact h1
        · exact tyEs_all l h2 x hx
      · rw [if_neg h2] at h; exact absurd h h2
    · rw [if_neg h1] at h; exact absurd h h1
theorem list_sound {row : List V} : ∀ (l : List E), (∀ x ∈ l, (tyE x).2 = 0 → Gd (tyE x).1 (evE row x)) → (tyEs l).2 = 0 → ((evEs row l).2 = 0 → F2 (tyEs l).1 (evEs row l).1) ∧ ((evEs row l).2 ≠ 0 → (evEs row l).2 = 5 ∨ (evEs row l).2 = 17)
  | [], _, _ => ⟨fun _ => trivial, fun h => absurd rfl h⟩
  | y :: l, h, ht => by
    have hy := tyEs_all (y :: l) ht y (by simp)
    have hl : (tyEs l).2 = 0 := by
      rw [tyEs, if_pos hy] at ht
      by_cases h2 : (tyEs l).2 = 0
      · exact h2
      · rw [if_neg h2] at ht; exact absurd ht h2
    obtain ⟨i1, i2⟩ := list_sound l (fun x hx => h x (List.mem_cons_of_mem _ hx)) hl
    have g := h y (by simp) hy
    rw [tyEs, if_pos hy, if_pos hl, evEs]
    by_cases h1 : (evE row y).2 = 0
    · rw [if_pos h1]
      by_cases h2 : (evEs row l).2 = 0
      · rw [if_pos h2]
        exact ⟨fun _ => ⟨g.1 h1, i1 h2⟩, fun h => absurd rfl h⟩
      · rw [if_neg h2]
        exact ⟨fun h => absurd h h2, fun _ => i2 h2⟩
    · rw [if_neg h1]
      exact ⟨fun h => absurd h h1, fun _ => (g.2 h1).2⟩
theorem tyOp_ok {s : List UInt8} {v : V} {x : List Int × Int} {t : Int} (h : tyOp s v x = (t, 0)) : x.2 = 0 ∧ v = .z ∧ opT (opn s) x.1 = (t, 0) := by
  unfold tyOp at h
  by_cases h1 : x.2 = 0
  · rw [if_pos h1] at h
    by_cases h2 : v = .z
    · rw [if_pos h2] at h; exact ⟨h1, h2, h⟩
    · rw [if_neg h2] at h; simp at h
  · rw [if_neg h1] at h; exact absurd (congrArg Prod.snd h) h1
theorem pair_eta {x : Int × Int} (h : x.2 = 0) : x = (x.1, 0) := Prod.ext rfl h
theorem sound {row : List V} (hr : rowOk row = true) (ho : ∀ v ∈ row, v.ok) (e : E) : EOk e → (tyE e).2 = 0 → Gd (tyE e).1 (evE row e) := by
  refine E.ind (P := fun e => EOk e → (tyE e).2 = 0 → Gd (tyE e).1 (evE row e)) ?_ e
  intro k s v l ih ok ht
  cases ok with
  | mk hk hs hv hl hx =>
    rw [tyE] at ht ⊢
    rw [evE]
    by_cases k1 : k = 1
    · rw [if_pos k1] at ht ⊢
      rw [if_pos k1]
      by_cases h : s = [] ∧ l.length = 0 ∧ may v = true
      · rw [if_pos h]
        exact ⟨fun _ => ⟨h.2.2, .inl rfl, hv⟩, fun h => absurd rfl h⟩
      · rw [if_neg h] at ht; exact absurd ht (by decide)
    · rw [if_neg k1] at ht ⊢
      rw [if_neg k1]
      by_cases k2 : k = 2
      · rw [if_pos k2] at ht ⊢
        rw [if_pos k2]
        by_cases h0 : colN s < 0
        · rw [if_pos h0] at ht; exact absurd ht (by decide)
        · rw [if_neg h0] at ht ⊢
          by_cases h : l.length = 0 ∧ v = .z
          · rw [if_pos h]
            obtain ⟨a, b, c, rfl, h1, h2, h3⟩ := row_of hr ho
            rcases colN_cases s with ⟨_, q1, q2⟩ | ⟨_, q1, q2⟩ | ⟨_, q1, q2⟩ | q
            · rw [q1, q2]; exact ⟨fun _ => h1, fun h => absurd rfl h⟩
            · rw [q1, q2]; exact ⟨fun _ => h2, fun h => absurd rfl h⟩
            · rw [q1, q2]; exact ⟨fun _ => h3, fun h => absurd rfl h⟩
            · omega
          · rw [if_neg h] at ht; exact absurd ht (by decide)
      · rw [if_neg k2] at ht ⊢
        rw [if_neg k2]
        by_cases k3 : k = 3
        · rw [if_pos k3] at ht ⊢
          obtain ⟨h1, h2, h3⟩ := tyOp_ok (pair_eta ht)
          obtain ⟨i1, i2⟩ := list_sound l (fun x hxl => ih x hxl (hx x hxl)) h1
          unfold evOp
          by_cases h4 : (evEs row l).2 = 0
          · rw [if_pos h4]
            exact (does_all s _ _ _ h3 (i1 h4)).1
          · rw [if_neg h4]
            exact ⟨fun h => absurd h h4, fun _ => ⟨rfl, i2 h4⟩⟩
        · rw [if_neg k3] at ht; exact absurd ht (by decide)
/-- The loops of eval and of the reference's value. -/
theorem eval_loop (n : Nat) (k : Int) (s : List UInt8) (v : V) (l : List E) (row : List V) (hl : l.length ≤ 4096) (hc : ∀ x ∈ l, C n 29 [.val tbl, .val (.sl (row.map V.g)), .val x.g] = some (vg (evE row x))) (a0 a1 a2 z : G) :
    ∀ (q p : List E) (vs : List V) (m : Nat), l = p ++ q → vs.length = p.length → q.length < m → ((evEs row q).2 = 0 → C n 38 [.val (.str s), .val (.sl ((vs ++ (evEs row q).1).map V.g))] = some (vg (doesN (opn s) (vs ++ (evEs row q).1)))) →
      L29_0 n m a0 a1 a2 (row.map V.g) (l.map E.g) l.length p.length tbl (E.mk k s v l).g z (vs.map V.g) = some (vg (if (evEs row q).2 = 0 then doesN (opn s) (vs ++ (evEs row q).1) else (.z, (evEs row q).2)))
  | [], p, vs, m + 1, hpq, hk, _, hd => by
    have hp : p = l := by simpa using hpq.symm
    subst hp
    rw [L29_0_eq, decide_eq_false (show ¬ ((p.length : Int) < p.length) by omega), g_mk]
    have e : vs ++ (evEs row []).1 = vs := by simp [evEs]
    rw [e] at hd ⊢
    rw [if_pos (show (evEs row []).2 = 0 from rfl)]
    exact bind_of (x := C n 38 [.val (.str s), .val (.sl (vs.map V.g))]) (hd rfl) rfl
  | x :: q, p, vs, m + 1, hpq, hk, hm, hd => by
    have hlen : l.length = p.length + q.length + 1 := by rw [hpq]; simp; omega
    obtain ⟨h1, h2, h3⟩ := step_at (n := n) (p := p) (x := x) (q := q) (by rw [← hpq]; unfold maxLen; omega)
    rw [← hpq] at h1
    have hx := hc x (by rw [hpq]; simp)
    have hg := mid_at p q x
    rw [← hpq] at hg
    rw [L29_0_eq, h1, h2, hg, hx, h3]
    have hlm : decide ((p.length : Int) < ((l.map E.g).length : Int)) = true := by rw [List.length_map]; exact h1
    rw [hlm]
    show cnd (!decide ((evE row x).2 = 0)) (some (vg (.z, (evE row x).2))) (cnd (decide ((vs.map V.g).length + 1 ≤ 68719476736)) (L29_0 n m a0 a1 a2 (row.map V.g) (l.map E.g) l.length (p ++ [x]).length tbl (E.mk k s v l).g z (vs.map V.g ++ [(evE row x).1.g])) none) = _
    rw [evEs] at hd ⊢
    rw [List.length_map]
    by_cases he : (evE row x).2 = 0
    · rw [if_pos he] at hd ⊢
      rw [decide_eq_true he, decide_eq_true (show vs.length + 1 ≤ 68719476736 by omega)]
      have ih := eval_loop n k s v l row hl hc a0 a1 a2 z q (p ++ [x]) (vs ++ [(evE row x).1]) m (by rw [hpq]; simp) (by simp [hk]) (by simp at hm; omega) (by
        intro hq
        rw [if_pos hq] at hd
        have := hd rfl
        rw [List.append_assoc]
        exact this)
      rw [List.map_append] at ih
      refine Eq.trans ih ?_
      by_cases hq : (evEs row q).2 = 0
      · rw [if_pos hq, if_pos hq, if_pos rfl, List.append_assoc]; rfl
      · rw [if_neg hq, if_neg hq, if_neg hq]
    · rw [decide_eq_false he, if_neg he, if_neg he]
      rfl
theorem value_loop (n : Nat) (k : Int) (s : List UInt8) (v : V) (l : List E) (row : List V) (hl : l.length ≤ 4096) (hc : ∀ x ∈ l, C n 31 [.val tbl, .val (.sl (row.map V.g)), .val x.g] = some (vg (evE row x))) (a0 a1 a2 z : G) :
    ∀ (q p : List E) (vs : List V) (m : Nat), l = p ++ q → vs.length = p.length → q.length < m → ((evEs row q).2 = 0 → refDo n s (nlOf (vs ++ (evEs row q).1)) ((vs ++ (evEs row q).1).map V.g) = some (vg (doesN (opn s) (vs ++ (evEs row q).1)))) →
      L31_0 n m a0 a1 a2 (row.map V.g) (nlOf vs) p.length tbl (E.mk k s v l).g z (vs.map V.g) = some (vg (if (evEs row q).2 = 0 then doesN (opn s) (vs ++ (evEs row q).1) else (.z, (evEs row q).2)))
  | [], p, vs, m + 1, hpq, hk, _, hd => by
    have hp : p = l := by simpa using hpq.symm
    subst hp
    have e : vs ++ (evEs row []).1 = vs := by simp [evEs]
    rw [e] at hd ⊢
    rw [if_pos (show (evEs row []).2 = 0 from rfl), ← hd rfl]
    rw [L31_0_eq, g_mk]
    have hz : decide ((p.length : Int) < ((G.fld (.tu [.int .i64 k, .str s, v.g, .sl (p.map E.g)]) 3).toList.length : Int)) = false := decide_eq_false (by
      show ¬ ((p.length : Int) < ((p.map E.g).length : Int))
      rw [List.length_map]
      omega)
    rw [hz]
    rfl
  | x :: q, p, vs, m + 1, hpq, hk, hm, hd => by
    have hlen : l.length = p.length + q.length + 1 := by rw [hpq]; simp; omega
    obtain ⟨h1, h2, h3⟩ := step_at (n := n) (p := p) (x := x) (q := q) (by rw [← hpq]; unfold maxLen; omega)
    rw [← hpq] at h1
    have hx := hc x (by rw [hpq]; simp)
    have hg := mid_at p q x
    rw [← hpq] at hg
    have hlm : decide ((p.length : Int) < ((l.map E.g).length : Int)) = true := by rw [List.length_map]; exact h1
    rw [L31_0_eq, g_mk]
    simp only [show (G.fld (.tu [.int .i64 k, .str s, v.g, .sl (l.map E.g)]) 3).toList = l.map E.g from rfl]
    rw [hlm, h2, hg, hx, h3, ← g_mk]
    show cnd (!decide ((evE row x).2 = 0)) (some (vg (.z, (evE row x).2))) (cnd (decide ((vs.map V.g).length + 1 ≤ 68719476736)) (cnd (nlOf vs) (L31_0 n m a0 a1 a2 (row.map V.g) true (p ++ [x]).length tbl (E.mk k s v l).g z (vs.map V.g ++ [(evE row x).1.g])) (L31_0 n m a0 a1 a2 (row.map V.g) (decide ((evE row x).1.k = 0)) (p ++ [x]).length tbl (E.mk k s v l).g z (vs.map V.g ++ [(evE row x).1.g]))) none) = _
    rw [evEs] at hd ⊢
    rw [List.length_map]
    by_cases he : (evE row x).2 = 0
    · rw [if_pos he] at hd ⊢
      rw [decide_eq_true he, decide_eq_true (show vs.length + 1 ≤ 68719476736 by omega)]
      have ih := value_loop n k s v l row hl hc a0 a1 a2 z q (p ++ [x]) (vs ++ [(evE row x).1]) m (by rw [hpq]; simp) (by simp [hk]) (by simp at hm; omega) (by
        intro hq
        rw [if_pos hq] at hd
        have := hd rfl
        rw [List.append_assoc]
        exact this)
      rw [List.map_append] at ih
      have hn : nlOf (vs ++ [(evE row x).1]) = (nlOf vs || decide ((evE row x).1.k = 0)) := by simp [nlOf]
      rw [hn] at ih
      have e2 : (cnd (nlOf vs) (L31_0 n m a0 a1 a2 (row.map V.g) true (p ++ [x]).length tbl (E.mk k s v l).g z (vs.map V.g ++ [(evE row x).1.g])) (L31_0 n m a0 a1 a2 (row.map V.g) (decide ((evE row x).1.k = 0)) (p ++ [x]).length tbl (E.mk k s v l).g z (vs.map V.g ++ [(evE row x).1.g]))) = L31_0 n m a0 a1 a2 (row.map V.g) (nlOf vs || decide ((evE row x).1.k = 0)) (p ++ [x]).length tbl (E.mk k s v l).g z (vs.map V.g ++ [(evE row x).1.g]) := by cases nlOf vs <;> rfl
      show (cnd (nlOf vs) _ _) = _
      rw [e2]
      refine Eq.trans ih ?_
      by_cases hq : (evEs row q).2 = 0
      · rw [if_pos hq, if_pos hq, if_pos rfl, List.append_assoc]; rfl
      · rw [if_neg hq, if_neg hq, if_neg hq]
    · rw [decide_eq_false he, if_neg he, if_neg he]
      rfl
/-- Both texts give an expression's value. -/
theorem eval_both {row : List V} (hr : rowOk row = true) (ho : ∀ v ∈ row, v.ok) (e : E) : EOk e → cntE e ≤ 4096 → (tyE e).2 = 0 → Ev fun n => C n 29 [.val tbl, .val (.sl (row.map V.g)), .val e.g] = some (vg (evE row e)) ∧ C n 31 [.val tbl, .val (.sl (row.map V.g)), .val e.g] = some (vg (evE row e)) := by
  refine E.ind (P := fun e => EOk e → cntE e ≤ 4096 → (tyE e).2 = 0 → Ev fun n => C n 29 [.val tbl, .val (.sl (row.map V.g)), .val e.g] = some (vg (evE row e)) ∧ C n 31 [.val tbl, .val (.sl (row.map V.g)), .val e.g] = some (vg (evE row e))) ?_ e
  intro k s v l ih ok hc ht
  cases ok with
  | mk hk hs hv hl hx =>
    rw [cntE] at hc
    have hlc := cntEs_len l
    rw [tyE] at ht
    by_cases k1 : k = 1
    · refine Ev.up (Ev.of fun n => ?_)
      show _ ∧ _
      rw [evE, f29_eq, f31_eq, g_mk]
      show cnd (decide (k = 1)) (some (vg (v, 0))) _ = _ ∧ cnd (decide (k = 1)) (some (vg (v, 0))) _ = _
      rw [decide_eq_true k1, if_pos k1]
      exact ⟨rfl, rfl⟩
    · rw [if_neg k1] at ht
      by_cases k2 : k = 2
      · rw [if_pos k2] at ht
        have h0 : ¬ colN s < 0 := by
          intro h; rw [if_pos h] at ht; exact absurd ht (by decide)
        refine Ev.up ⟨20, fun n hn => ?_⟩
        show _ ∧ _
        rw [evE, f29_eq, f31_eq, g_mk]
        show cnd (decide (k = 1)) (some (vg (v, 0))) (cnd (decide (k = 2)) ((C n 33 [.val tbl, .val (.str s)]).bind _) _) = _ ∧ cnd (decide (k = 1)) (some (vg (v, 0))) (cnd (decide (k = 2)) ((C n 36 [.val tbl, .val (.str s)]).bind _) _) = _
        rw [decide_eq_false k1, decide_eq_true k2, if_neg k1, if_pos k2]
        obtain ⟨a, b, c, rfl, _⟩ := row_of hr ho
        have key : ∀ j : Int, j = 0 ∨ j = 1 ∨ j = 2 → cnd (decide (0 ≤ j) && decide (j < 3)) (some (.tu [([a, b, c].map V.g).getD j.toNat default, .int .i64 0], [])) none = some (vg (([a, b, c] : List V).getD j.toNat .z, 0)) := by
          intro j hj
          rcases hj with rfl | rfl | rfl <;> rfl
        have hj : colN s = 0 ∨ colN s = 1 ∨ colN s = 2 := by
          rcases colN_cases s with ⟨_, q1, q2⟩ | ⟨_, q1, q2⟩ | ⟨_, q1, q2⟩ | q <;> omega
        exact ⟨bind_of (col_le (by omega) s) (key _ hj), bind_of (colr_le (by omega) s) (key _ hj)⟩
      · rw [if_neg k2] at ht
        have k3 : k = 3 := by
          refine Classical.byContradiction fun h => ?_
          rw [if_neg h] at ht; exact absurd ht (by decide)
        rw [if_pos k3] at ht
        obtain ⟨h1, h2, h3⟩ := tyOp_ok (pair_eta ht)
        have hs1 := tyEs_all l h1
        obtain ⟨N, hN⟩ := (Ev.all l fun x hxl => ih x hxl (hx x hxl) (by have := cntEs_mem l x hxl; omega) (hs1 x hxl)).and (Ev.ge (l.length + 20))
        obtain ⟨i1, i2⟩ := list_sound (row := row) l (fun x hxl hxt => sound hr ho x (hx x hxl) hxt) h1
        refine Ev.up ⟨N, fun n hn => ?_⟩
        obtain ⟨g1, g2⟩ := hN n hn
        show _ ∧ _
        rw [evE, f29_eq, f31_eq, g_mk]
        show cnd (decide (k = 1)) (some (vg (v, 0))) (cnd (decide (k = 2)) _ (L29_0 n n tbl (.sl (row.map V.g)) (.tu [.int .i64 k, .str s, v.g, .sl (l.map E.g)]) (row.map V.g) (l.map E.g) ((l.map E.g).length : Int) 0 tbl (.tu [.int .i64 k, .str s, v.g, .sl (l.map E.g)]) V0 [])) = _ ∧ cnd (decide (k = 1)) (some (vg (v, 0))) (cnd (decide (k = 2)) _ (L31_0 n n tbl (.sl (row.map V.g)) (.tu [.int .i64 k, .str s, v.g, .sl (l.map E.g)]) (row.map V.g) false 0 tbl (.tu [.int .i64 k, .str s, v.g, .sl (l.map E.g)]) V0 [])) = _
        rw [decide_eq_false k1, decide_eq_false k2, if_neg k1, if_neg k2, List.length_map, ← g_mk]
        constructor
        · refine Eq.trans (eval_loop n k s v l row (by omega) (fun x hx => (g1 x hx).1) tbl (.sl (row.map V.g)) (E.mk k s v l).g V0 l [] [] n rfl rfl (by omega) ?_) ?_
          · intro h4
            obtain ⟨j, rfl⟩ : ∃ j, n = j + 12 := ⟨n - 12, by omega⟩
            exact (does_all s _ _ _ h3 (i1 h4)).2.1 j
          · rfl
        · refine Eq.trans (value_loop n k s v l row (by omega) (fun x hx => (g1 x hx).2) tbl (.sl (row.map V.g)) (E.mk k s v l).g V0 l [] [] n rfl rfl (by omega) ?_) ?_
          · intro h4
            obtain ⟨j, rfl⟩ : ∃ j, n = j + 6 := ⟨n - 6, by omega⟩
            exact (does_all s _ _ _ h3 (i1 h4)).2.2 j
          · rfl
end Go.Proofs.Ytpmecpmankpcbaa.Pure
