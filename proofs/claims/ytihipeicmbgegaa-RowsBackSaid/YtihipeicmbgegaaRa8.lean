/- What is written is read again; keys stand in the order of values. No conditions. -/
import Derived.Test.YtihipeicmbgegaaRa7
namespace Go.Proofs.Ytihipeicmbgegaa.Pure
open Go Go.Proofs Go.Proofs.Ytihipeicmbgegaa.Rf
set_option linter.unusedVariables false
set_option linter.unusedSimpArgs false
/-! ## read again -/
theorem tvL_varK : ∀ (f v i acc : Nat) (rest : List UInt8), v < 128 ^ (f + 1) → i + f ≤ 9 → (i + f = 9 → v < 2 * 128 ^ f) → (v ≠ 0 ∨ i = 0) → tvL (varK f v ++ rest) i acc = (acc + v * 128 ^ i, i + (varK f v).length, 0)
  | 0, v, i, acc, rest, hv, hi, h9, h0 => by
    have hv' : v < 128 := by simpa using hv
    have hb : (byte v).toNat = v := by rw [byte_nat]; omega
    show tvL (byte v :: ([] ++ rest)) i acc = _
    rw [tvL, hb, if_neg (by
      rintro ⟨a, b⟩
      have := h9 (by omega)
      simp at this
      omega), if_neg (by omega), if_neg (by omega), Nat.mod_eq_of_lt hv']
    rfl
  | f + 1, v, i, acc, rest, hv, hi, h9, h0 => by
    by_cases h : v < 128
    · have hb : (byte v).toNat = v := by rw [byte_nat]; omega
      have e : varK (f + 1) v = [byte v] := by rw [varK, if_pos h]
      rw [e]
      show tvL (byte v :: ([] ++ rest)) i acc = _
      rw [tvL, hb, if_neg (by omega), if_neg (by omega), if_neg (by omega), Nat.mod_eq_of_lt h]
      rfl
    · have hb : (byte (v % 128 + 128)).toNat = v % 128 + 128 := by rw [byte_nat]; omega
      have e : varK (f + 1) v = byte (v % 128 + 128) :: varK f (v / 128) := by rw [varK, if_neg h]
      have hv2 : v / 128 < 128 ^ (f + 1) := by
        rw [Nat.pow_succ] at hv
        exact Nat.div_lt_of_lt_mul (by omega)
      have h92 : i + 1 + f = 9 → v / 128 < 2 * 128 ^ f := by
        intro hh
        have := h9 (by omega)
        rw [Nat.pow_succ] at this
        exact Nat.div_lt_of_lt_mul (by omega)
      rw [e]
      show tvL (byte (v % 128 + 128) :: (varK f (v / 128) ++ rest)) i acc = _
      rw [tvL, hb, if_neg (by omega), if_pos (by omega), tvL_varK f (v / 128) (i + 1) _ rest hv2 (by omega) h92 (.inl (by omega))]
      have e2 : (v % 128 + 128) % 128 = v % 128 := by omega
      rw [e2, List.length_cons]
      have e3 : acc + v % 128 * 128 ^ i + v / 128 * 128 ^ (i + 1) = acc + v * 128 ^ i := by
        rw [Nat.pow_succ, Nat.mul_comm (128 ^ i) 128, ← Nat.mul_assoc, Nat.add_assoc, ← Nat.add_mul]
        congr 2
        omega
      rw [e3]
      congr 2
      omega
theorem tv_varB (v : Nat) (hv : v < 18446744073709551616) (rest : List UInt8) : tv (varB v ++ rest) = (v, (varB v).length, 0) := by
  have := tvL_varK 9 v 0 0 rest (by omega) (by omega) (fun _ => by omega) (.inr rfl)
  unfold tv varB
  rw [this]
  simp
theorem ttL_text (s rest : List UInt8) (hs : s.length ≤ 64) : ttL (textB s ++ rest) = (s, (textB s).length, 0) := by
  have e : textB s ++ rest = varB s.length ++ (s ++ rest) := by unfold textB; simp
  have ht := tv_varB s.length (by omega) (s ++ rest)
  have hl : (varB s.length ++ (s ++ rest)).length = (varB s.length).length + s.length + rest.length := by simp; omega
  unfold ttL
  rw [e, ht, if_pos rfl, if_neg (by show ¬ 1048576 < s.length; omega), if_neg (by rw [hl]; show ¬ (varB s.length).length + s.length + rest.length - (varB s.length).length < s.length; omega)]
  show (((varB s.length ++ (s ++ rest)).drop (varB s.length).length).take s.length, (varB s.length).length + s.length, 0) = _
  rw [List.drop_left, List.take_left]
  unfold textB
  rw [List.length_append]
theorem tkL_plain (v : V) (hv : v.ok) (hm : may v = true) (rest : List UInt8) : tkL (plainB v ++ rest) = (v, (plainB v).length, 0) := by
  obtain ⟨k, n, s⟩ := v
  unfold plainB
  rw [if_pos hm]
  unfold may at hm
  by_cases h0 : k = 0
  · subst h0
    simp at hm
    obtain ⟨rfl, rfl⟩ := hm
    simp [tkL, byte, V.z]
  · by_cases h1 : k = 1
    · subst h1
      simp at hm
      obtain ⟨hn, rfl⟩ := hm
      rcases hn with rfl | rfl
      · simp [tkL, tk1, byte]
      · simp [tkL, tk1, byte]
    · by_cases h2 : k = 2
      · subst h2
        simp at hm
        subst hm
        have ht := tv_varB (zigN n) (zig_lt hv.2.1) rest
        show tkL (byte 2 :: (varB (zigN n) ++ rest)) = _
        have hb : (byte 2).toNat = 2 := by decide
        rw [tkL, hb, if_neg (by decide), if_neg (by decide), if_pos rfl, ht, if_pos rfl]
        show ((⟨2, zagN (zigN n), []⟩ : V), 1 + (varB (zigN n)).length, 0) = ((⟨2, n, []⟩ : V), (byte 2 :: varB (zigN n)).length, 0)
        rw [zag_zig, List.length_cons, Nat.add_comm]
      · by_cases h3 : k = 3
        · subst h3
          simp at hm
          obtain ⟨rfl, hs⟩ := hm
          have ht := ttL_text s rest hs
          show tkL (byte 3 :: (textB s ++ rest)) = _
          have hb : (byte 3).toNat = 3 := by decide
          rw [tkL, hb, if_neg (by decide), if_neg (by decide), if_neg (by decide), if_pos rfl, ht, if_pos rfl, if_neg (by show ¬ 64 < s.length; omega)]
          show ((⟨3, 0, s⟩ : V), 1 + (textB s).length, 0) = ((⟨3, 0, s⟩ : V), (byte 3 :: textB s).length, 0)
          rw [List.length_cons, Nat.add_comm]
        · simp [h0, h1, h2, h3] at hm
theorem rdL_back : ∀ (row acc : List V), (∀ v ∈ row, v.ok ∧ may v = true) → rdL row.length (row.flatMap plainB) acc = (acc ++ row, 0)
  | [], acc, _ => by simp [rdL]
  | v :: row, acc, h => by
    have hv := h v (by simp)
    have ht := tkL_plain v hv.1 hv.2 (row.flatMap plainB)
    show rdL (row.length + 1) (plainB v ++ row.flatMap plainB) acc = _
    rw [rdL, ht, if_pos rfl]
    show rdL row.length ((plainB v ++ row.flatMap plainB).drop (plainB v).length) (acc ++ [v]) = _
    rw [List.drop_left, rdL_back row (acc ++ [v]) fun x hx => h x (List.mem_cons_of_mem _ hx)]
    simp
theorem rowS_back {t : Int} (ht : 0 ≤ t ∧ t < 3) {row : List V} (hl : row.length = colsN t) (h : ∀ v ∈ row, v.ok ∧ may v = true) : rowS t (dataB row) = (row, 0) := by
  have hcn : colsN t ≤ 4 := by unfold colsN; split <;> (try split) <;> omega
  have e := tv_varB row.length (by omega) (row.flatMap plainB)
  unfold rowS dataB
  rw [if_pos ht, e, if_pos ⟨rfl, hl⟩]
  show rdL (colsN t) ((varB row.length ++ row.flatMap plainB).drop (varB row.length).length) [] = _
  rw [List.drop_left, ← hl, rdL_back row [] h]
  rfl
/-! ## order -/
theorem less_cons (c : UInt8) (x y : List UInt8) : Op.bytesLess (c :: x) (c :: y) = Op.bytesLess x y := by
  simp [Op.bytesLess]
theorem less_lt {c d : UInt8} (h : c.toNat < d.toNat) (x y : List UInt8) : Op.bytesLess (c :: x) (d :: y) = true := by
  have : c < d := UInt8.lt_iff_toNat_lt.2 h
  simp [Op.bytesLess, this]
theorem less_gt {c d : UInt8} (h : d.toNat < c.toNat) (x y : List UInt8) : Op.bytesLess (c :: x) (d :: y) = false := by
  have h1 : ¬ c < d := fun h2 => by have := UInt8.lt_iff_toNat_lt.1 h2; omega
  have h2 : c ≠ d := fun e => by subst e; omega
  simp [Op.bytesLess, h1, h2]
theorem beK_less : ∀ (k u v : Nat), Op.bytesLess (beK k u) (beK k v) = decide (u % 256 ^ k < v % 256 ^ k) ∧ (beK k u = beK k v ↔ u % 256 ^ k = v % 256 ^ k)
  | 0, u, v => by simp [beK, Op.bytesLess, Nat.mod_one]
  | k + 1, u, v => by
    obtain ⟨ih1, ih2⟩ := beK_less k u v
    have hB : 0 < 256 ^ k := Nat.pow_pos (by decide)
    have du : ∀ x, x % 256 ^ (k + 1) = x / 256 ^ k % 256 * 256 ^ k + x % 256 ^ k := by
      intro x
      rw [Nat.pow_succ, Nat.mod_mul, Nat.add_comm, Nat.mul_comm]
    have bu : (byte (u / 256 ^ k)).toNat = u / 256 ^ k % 256 := byte_nat _
    have bv : (byte (v / 256 ^ k)).toNat = v / 256 ^ k % 256 := byte_nat _
    rw [beK, beK, du u, du v]
    have ru : u % 256 ^ k < 256 ^ k := Nat.mod_lt _ hB
    have rv : v % 256 ^ k < 256 ^ k := Nat.mod_lt _ hB
    generalize u / 256 ^ k % 256 = a at bu ⊢
    generalize v / 256 ^ k % 256 = b at bv ⊢
    generalize u % 256 ^ k = r at ru ih1 ih2 ⊢
    generalize v % 256 ^ k = s at rv ih1 ih2 ⊢
    rcases Nat.lt_trichotomy a b with h | h | h
    · have key : (a + 1) * 256 ^ k ≤ b * 256 ^ k := Nat.mul_le_mul_right _ h
      rw [Nat.add_mul] at key
      refine ⟨?_, ?_⟩
      · rw [less_lt (by omega), decide_eq_true (by omega)]
      · constructor
        · intro e
          injection e with e1 _
          rw [e1] at bu
          omega
        · intro e; omega
    · subst h
      have e : byte (u / 256 ^ k) = byte (v / 256 ^ k) := UInt8.toNat_inj.1 (by omega)
      rw [e]
      refine ⟨?_, ?_⟩
      · rw [less_cons, ih1]
        exact decide_eq_decide.2 (by omega)
      · constructor
        · intro h
          injection h with _ h2
          rw [ih2.1 h2]
        · intro h
          rw [ih2.2 (by omega)]
    · have key : (b + 1) * 256 ^ k ≤ a * 256 ^ k := Nat.mul_le_mul_right _ h
      rw [Nat.add_mul] at key
      refine ⟨?_, ?_⟩
      · rw [less_gt (by omega), decide_eq_false (by omega)]
      · constructor
        · intro e
          injection e with e1 _
          rw [e1] at bu
          omega
        · intro e; omega
theorem esc_less : ∀ (s t : List UInt8), Op.bytesLess (esc s ++ [0, 1]) (esc t ++ [0, 1]) = Op.bytesLess s t ∧ (esc s ++ [0, 1] = esc t ++ [0, 1] ↔ s = t)
  | [], [] => by simp [esc, Op.bytesLess]
  | [], d :: t => by
    by_cases h : d.toNat = 0
    · rw [esc, esc, if_pos h]
      refine ⟨?_, ?_⟩
      · show Op.bytesLess [0, 1] (0 :: 255 :: (esc t ++ [0, 1])) = true
        rw [less_cons, less_lt (by decide)]
      · simp
    · rw [esc, esc, if_neg h]
      refine ⟨?_, ?_⟩
      · show Op.bytesLess [0, 1] (d :: (esc t ++ [0, 1])) = true
        rw [less_lt (by show 0 < d.toNat; omega)]
      · constructor
        · intro e
          have e2 : ([0, 1] : List UInt8) = d :: (esc t ++ [0, 1]) := e
          injection e2 with e1 _
          rw [← e1] at h
          exact absurd rfl h
        · intro e; cases e
  | c :: s, [] => by
    by_cases h : c.toNat = 0
    · rw [esc, esc, if_pos h]
      refine ⟨?_, ?_⟩
      · show Op.bytesLess (0 :: 255 :: (esc s ++ [0, 1])) [0, 1] = false
        rw [less_cons, less_gt (by decide)]
      · simp
    · rw [esc, esc, if_neg h]
      refine ⟨?_, ?_⟩
      · show Op.bytesLess (c :: (esc s ++ [0, 1])) [0, 1] = false
        rw [less_gt (by show 0 < c.toNat; omega)]
      · constructor
        · intro e
          have e2 : c :: (esc s ++ [0, 1]) = ([0, 1] : List UInt8) := e
          injection e2 with e1 _
          rw [e1] at h
          exact absurd rfl h
        · intro e; cases e
  | c :: s, d :: t => by
    obtain ⟨ih1, ih2⟩ := esc_less s t
    by_cases hc : c.toNat = 0
    · have hc0 : c = 0 := UInt8.toNat_inj.1 hc
      subst hc0
      by_cases hd : d.toNat = 0
      · have hd0 : d = 0 := UInt8.toNat_inj.1 hd
        subst hd0
        rw [esc, esc, if_pos hc, if_pos hd, less_cons]
        refine ⟨?_, ?_⟩
        · show Op.bytesLess (0 :: 255 :: (esc s ++ [0, 1])) (0 :: 255 :: (esc t ++ [0, 1])) = _
          rw [less_cons, less_cons, ih1]
        · show (0 :: 255 :: (esc s ++ [0, 1]) = 0 :: 255 :: (esc t ++ [0, 1])) ↔ _
          simp only [List.cons.injEq, true_and]
          exact ih2
      · rw [esc, esc, if_pos hc, if_neg hd]
        have hlt : (0 : UInt8).toNat < d.toNat := by show 0 < d.toNat; omega
        refine ⟨?_, ?_⟩
        · show Op.bytesLess (0 :: 255 :: (esc s ++ [0, 1])) (d :: (esc t ++ [0, 1])) = _
          rw [less_lt hlt, less_lt hlt]
        · show (0 :: 255 :: (esc s ++ [0, 1]) = d :: (esc t ++ [0, 1])) ↔ _
          constructor
          · intro e
            injection e with e1 _
            rw [← e1] at hd
            exact absurd rfl hd
          · intro e
            injection e with e1 _
            rw [← e1] at hd
            exact absurd rfl hd
    · by_cases hd : d.toNat = 0
      · have hd0 : d = 0 := UInt8.toNat_inj.1 hd
        subst hd0
        have hlt : (0 : UInt8).toNat < c.toNat := by show 0 < c.toNat; omega
        rw [esc, esc, if_neg hc, if_pos hd]
        refine ⟨?_, ?_⟩
        · show Op.bytesLess (c :: (esc s ++ [0, 1])) (0 :: 255 :: (esc t ++ [0, 1])) = _
          rw [less_gt hlt, less_gt hlt]
        · show (c :: (esc s ++ [0, 1]) = 0 :: 255 :: (esc t ++ [0, 1])) ↔ _
          constructor
          · intro e
            injection e with e1 _
            rw [e1] at hc
            exact absurd rfl hc
          · intro e
            injection e with e1 _
            rw [e1] at hc
            exact absurd rfl hc
      · rw [esc, esc, if_neg hc, if_neg hd]
        refine ⟨?_, ?_⟩
        · show Op.bytesLess (c :: (esc s ++ [0, 1])) (d :: (esc t ++ [0, 1])) = _
          rcases Nat.lt_trichotomy c.toNat d.toNat with h | h | h
          · rw [less_lt h, less_lt h]
          · have e := UInt8.toNat_inj.1 h
            subst e
            rw [less_cons, less_cons, ih1]
          · rw [less_gt h, less_gt h]
        · show (c :: (esc s ++ [0, 1]) = d :: (esc t ++ [0, 1])) ↔ _
          simp only [List.cons.injEq]
          rw [ih2]
end Go.Proofs.Ytihipeicmbgegaa.Pure
