/- Key, Bound, All, Compare over the laws' schema; the order of keys. No conditions. -/
import Derived.Test.YtihipeicmbgegaaRa9
namespace Go.Proofs.Ytihipeicmbgegaa.Pure
open Go Go.Proofs Go.Proofs.Ytihipeicmbgegaa.Rf
set_option linter.unusedVariables false
set_option linter.unusedSimpArgs false
attribute [local irreducible] C
theorem sgn_le {n : Nat} (hn : 1 ≤ n) (b : Bool) : C n 43 [.val (.bool b)] = some (.int .i64 (if b = true then -1 else 1), []) := at_le (p := fun n => C n 43 [.val (.bool b)] = some (.int .i64 (if b = true then -1 else 1), [])) hn fun m => by
  show C (m + 1) 43 _ = _
  rw [f43_eq]
  cases b <;> rfl
def cmpV (a b : V) : Int := if a.k = b.k then (if a.n = b.n then (if a.s = b.s then 0 else if Op.bytesLess a.s b.s = true then -1 else 1) else if a.n < b.n then -1 else 1) else if a.k < b.k then -1 else 1
theorem cmp_le {n : Nat} (hn : 3 ≤ n) (a b : V) : C n 23 [.val a.g, .val b.g] = some (.int .i64 (cmpV a b), []) := by
  obtain ⟨m, rfl⟩ : ∃ m, n = m + 1 := ⟨n - 1, by omega⟩
  rw [f23_eq]
  show cnd (!decide (a.k = b.k)) ((C m 43 [.val (.bool (decide (a.k < b.k)))]).bind fun r0 => some ((G.int .i64 r0.1.toInt), [])) (cnd (!decide (a.n = b.n)) ((C m 43 [.val (.bool (decide (a.n < b.n)))]).bind fun r1 => some ((G.int .i64 r1.1.toInt), [])) (cnd (!decide (a.s = b.s)) ((C m 43 [.val (.bool (Op.bytesLess a.s b.s))]).bind fun r2 => some ((G.int .i64 r2.1.toInt), [])) (some ((G.int .i64 0), [])))) = _
  unfold cmpV
  by_cases h0 : a.k = b.k
  · refine grd_f (by rw [decide_eq_true h0]; rfl) ?_
    rw [if_pos h0]
    by_cases h1 : a.n = b.n
    · refine grd_f (by rw [decide_eq_true h1]; rfl) ?_
      rw [if_pos h1]
      by_cases h2 : a.s = b.s
      · refine grd_f (by rw [decide_eq_true h2]; rfl) ?_
        rw [if_pos h2]
      · refine grd_t (by rw [decide_eq_false h2]; rfl) (bind_of (sgn_le (by omega) _) ?_)
        rw [if_neg h2]; rfl
    · refine grd_t (by rw [decide_eq_false h1]; rfl) (bind_of (sgn_le (by omega) _) ?_)
      rw [if_neg h1]
      by_cases h3 : a.n < b.n
      · rw [if_pos h3, decide_eq_true h3]; rfl
      · rw [if_neg h3, decide_eq_false h3]; rfl
  · refine grd_t (by rw [decide_eq_false h0]; rfl) (bind_of (sgn_le (by omega) _) ?_)
    rw [if_neg h0]
    by_cases h3 : a.k < b.k
    · rw [if_pos h3, decide_eq_true h3]; rfl
    · rw [if_neg h3, decide_eq_false h3]; rfl
theorem less_self : ∀ s : List UInt8, Op.bytesLess s s = false
  | [] => rfl
  | c :: s => by rw [less_cons]; exact less_self s
theorem less_nil (s : List UInt8) : Op.bytesLess s [] = false := by cases s <;> rfl
theorem key_ord {a b : V} (oa : a.ok) (ob : b.ok) (ma : may a = true) (mb : may b = true) (hk : a.k = b.k) (h13 : a.k = 1 ∨ a.k = 2 ∨ a.k = 3) : Op.bytesLess (keyB a) (keyB b) = decide (cmpV a b < 0) ∧ (keyB a = keyB b ↔ cmpV a b = 0) := by
  have keep : ∀ x y : List UInt8, Op.bytesLess (byte a.k.toNat :: x) (byte a.k.toNat :: y) = Op.bytesLess x y ∧ (byte a.k.toNat :: x = byte a.k.toNat :: y ↔ x = y) := fun x y => ⟨less_cons _ _ _, by simp⟩
  have ka : keyB a = byte a.k.toNat :: (if a.k = 1 then [byte a.n.toNat] else if a.k = 2 then beK 8 (ordN a.n) else if a.k = 3 then esc a.s ++ [0, 1] else []) := by rw [keyB, if_pos ma]
  have kb : keyB b = byte a.k.toNat :: (if a.k = 1 then [byte b.n.toNat] else if a.k = 2 then beK 8 (ordN b.n) else if a.k = 3 then esc b.s ++ [0, 1] else []) := by rw [keyB, if_pos mb, hk]
  rw [ka, kb, (keep _ _).1, (keep _ _).2]
  rw [cmpV, if_pos hk]
  rcases h13 with h | h | h
  · have hb : b.k = 1 := by omega
    simp [may, h] at ma
    simp [may, hb] at mb
    rw [if_pos h, if_pos h, ma.2, mb.2]
    rcases ma.1 with e1 | e1 <;> rcases mb.1 with e2 | e2 <;> rw [e1, e2] <;> decide
  · have hb : b.k = 2 := by omega
    simp [may, h] at ma
    simp [may, hb] at mb
    have l1 := ord_lt oa.2.1
    have l2 := ord_lt ob.2.1
    have b1 := oa.2.1
    have b2 := ob.2.1
    have hp : (256 : Nat) ^ 8 = 18446744073709551616 := by decide
    obtain ⟨q1, q2⟩ := beK_less 8 (ordN a.n) (ordN b.n)
    rw [hp, Nat.mod_eq_of_lt l1, Nat.mod_eq_of_lt l2] at q1 q2
    have n1 : ¬ a.k = 1 := by omega
    rw [if_neg n1, if_pos h, if_neg n1, if_pos h, q1, q2, ma, mb, if_pos rfl]
    unfold I64 at b1 b2
    unfold ordN
    by_cases e : a.n = b.n
    · rw [if_pos e, e]; simp
    · rw [if_neg e]
      by_cases e2 : a.n < b.n
      · rw [if_pos e2]
        refine ⟨decide_eq_decide.2 (by omega), by omega⟩
      · rw [if_neg e2]
        refine ⟨decide_eq_decide.2 (by omega), by omega⟩
  · have hb : b.k = 3 := by omega
    simp [may, h] at ma
    simp [may, hb] at mb
    obtain ⟨q1, q2⟩ := esc_less a.s b.s
    have n1 : ¬ a.k = 1 := by omega
    have n2 : ¬ a.k = 2 := by omega
    rw [if_neg n1, if_neg n2, if_pos h, if_neg n1, if_neg n2, if_pos h, q1, q2, ma.1, mb.1, if_pos rfl]
    by_cases e : a.s = b.s
    · rw [if_pos e, e, less_self]; simp
    · rw [if_neg e]
      cases hl : Op.bytesLess a.s b.s with
      | true => simp [e]
      | false => simp [e]
/-! ## the schema's tables -/
def Tt (t : Int) : G := (G.fld Sc 1).toList.getD t.toNat default
def kcol (t : Int) : Nat := if t = 0 then 1 else 0
def kkind (t : Int) : Int := if t = 0 then 2 else if t = 1 then 3 else 1
theorem tt_facts {t : Int} (ht : 0 ≤ t ∧ t < 3) : (G.fld (Tt t) 1).toList.length = colsN t ∧ (G.fld (Tt t) 2).toInt = kcol t ∧ (G.fld ((G.fld (Tt t) 1).toList.getD (kcol t) default) 2).toBool = false ∧ (G.fld ((G.fld (Tt t) 1).toList.getD (kcol t) default) 1).toInt = kkind t ∧ kcol t < colsN t ∧ 0 < colsN t := by
  have : t = 0 ∨ t = 1 ∨ t = 2 := by omega
  rcases this with rfl | rfl | rfl <;> exact ⟨rfl, rfl, rfl, rfl, by decide, by decide⟩
theorem may_facts {t : Int} (ht : 0 ≤ t ∧ t < 3) {row : List V} (h : mayT (Tt t) row = 0) : row.length = colsN t ∧ (∀ v ∈ row, may v = true) ∧ (row.getD (kcol t) V.z).k = kkind t ∧ (t = 0 → (row.getD 0 V.z).k = 2) := by
  obtain ⟨h1, h2, h3, h4, h5, h6⟩ := tt_facts ht
  unfold mayT at h
  split at h
  · rename_i hl
    obtain ⟨a, b⟩ := mayQ_zero _ _ hl.symm h
    refine ⟨by omega, a, ?_, ?_⟩
    · rcases b (kcol t) (by omega) with ⟨_, hn⟩ | hk
      · rw [h3] at hn; cases hn
      · rw [hk, h4]
    · rintro rfl
      rcases b 0 (by omega) with ⟨_, hn⟩ | hk
      · exact absurd hn (by decide)
      · exact hk
  · simp at h
theorem rng0_le {n : Nat} (hn : 40 ≤ n) {r : Int} (hr : -1 ≤ r ∧ r ≤ 4) : C n 27 [.val Sc, .val (.int .i64 0), .val (.int .i64 r)] = some (.tu [.int .i64 (if r = 1 then 1 else 0), .int .i64 (if r = 0 ∨ r = 1 then 0 else 19)], []) := by
  have : r = -1 ∨ r = 0 ∨ r = 1 ∨ r = 2 ∨ r = 3 ∨ r = 4 := by omega
  rcases this with rfl | rfl | rfl | rfl | rfl | rfl
  · exact at_le (p := fun n => C n 27 [.val Sc, .val (.int .i64 0), .val (.int .i64 (-1))] = some (.tu [.int .i64 0, .int .i64 19], [])) hn rng0_m
  · exact at_le (p := fun n => C n 27 [.val Sc, .val (.int .i64 0), .val (.int .i64 0)] = some (.tu [.int .i64 0, .int .i64 0], [])) hn rng0_0
  · exact at_le (p := fun n => C n 27 [.val Sc, .val (.int .i64 0), .val (.int .i64 1)] = some (.tu [.int .i64 1, .int .i64 0], [])) hn rng0_1
  · exact at_le (p := fun n => C n 27 [.val Sc, .val (.int .i64 0), .val (.int .i64 2)] = some (.tu [.int .i64 0, .int .i64 19], [])) hn rng0_2
  · exact at_le (p := fun n => C n 27 [.val Sc, .val (.int .i64 0), .val (.int .i64 3)] = some (.tu [.int .i64 0, .int .i64 19], [])) hn rng0_3
  · exact at_le (p := fun n => C n 27 [.val Sc, .val (.int .i64 0), .val (.int .i64 4)] = some (.tu [.int .i64 0, .int .i64 19], [])) hn rng0_4
theorem has_le {n : Nat} (hn : 1 ≤ n) {t : Int} (ht : 0 ≤ t ∧ t < 3) : C n 26 [.val Sc, .val (.int .i64 t)] = some (.bool true, []) := at_le (p := fun n => C n 26 [.val Sc, .val (.int .i64 t)] = some (.bool true, [])) hn fun m => by
  have hs3 : ((G.fld Sc 1).toList.length : Int) = 3 := rfl
  show C (m + 1) 26 _ = _
  rw [f26_eq, hs3]
  refine grd_t (decide_eq_true (show (0 : Int) ≤ t by omega)) ?_
  show some (G.bool (decide (t < 3)), _) = _
  rw [decide_eq_true (by omega)]
theorem bound_le {n : Nat} (hn : 300 ≤ n) {t : Int} (ht : 0 ≤ t ∧ t < 3) {v : V} (hv : v.ok) : C n 13 [.val Sc, .val (.int .i64 t), .val v.g] = some (.str (byte (t + 1).toNat :: keyB v), []) := by
  obtain ⟨m, rfl⟩ : ∃ m, n = m + 1 := ⟨n - 1, by omega⟩
  rw [f13_eq]
  refine bind_of (has_le (by omega) ht) (grd_f rfl ?_)
  have e : [G.int .u8 (IntKind.wrap .u8 (IntKind.wrap .i64 ((G.int .i64 t).toInt + 1)))] = gB [byte (t + 1).toNat] := by
    show [G.int .u8 (IntKind.wrap .u8 (IntKind.wrap .i64 (t + 1)))] = _
    rw [wr (by omega) (by omega), gB_one _ (by omega)]
  rw [e]
  refine bind_of (key_le (by omega) [byte (t + 1).toNat] v hv (by simp)).1 ?_
  show some (G.str ((gB ([byte (t + 1).toNat] ++ keyB v)).map fun g => UInt8.ofNat g.toInt.toNat), ([] : List G)) = _
  rw [gB_back]; rfl
theorem all_le {n : Nat} (hn : 3 ≤ n) {t : Int} (ht : 0 ≤ t ∧ t < 3) : C n 11 [.val Sc, .val (.int .i64 t)] = some (.tu [.str [byte (t + 1).toNat], .str [byte (t + 2).toNat]], []) := by
  obtain ⟨m, rfl⟩ : ∃ m, n = m + 1 := ⟨n - 1, by omega⟩
  rw [f11_eq]
  refine bind_of (has_le (by omega) ht) (grd_f rfl ?_)
  have : t = 0 ∨ t = 1 ∨ t = 2 := by omega
  rcases this with rfl | rfl | rfl <;> rfl
end Go.Proofs.Ytihipeicmbgegaa.Pure
