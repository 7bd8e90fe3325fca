/- May, Range, Key over the laws' schema. No conditions. -/
import Derived.Test.YtihipeicmbgegaaRa8
namespace Go.Proofs.Ytihipeicmbgegaa.Pure
open Go Go.Proofs Go.Proofs.Ytihipeicmbgegaa.Rf
set_option linter.unusedVariables false
set_option linter.unusedSimpArgs false
attribute [local irreducible] C L15_0 J15_1
def mayQ : List G → List V → Int
  | c :: cs, v :: vs => if may v = true then (if v.k = 0 then (if (G.fld c 2).toBool = true then mayQ cs vs else 16) else if v.k = (G.fld c 1).toInt then mayQ cs vs else 15) else 9
  | _, _ => 0
def mayT (T : G) (row : List V) : Int := if row.length = (G.fld T 1).toList.length then mayQ (G.fld T 1).toList row else 9
theorem mid_col (p q : List G) (x : G) (i : Nat) (hi : i = p.length) : ((p ++ x :: q).getD ((i : Int)).toNat default) = x := by
  subst hi
  simp [List.getD]
theorem may_loop (n : Nat) (hn : 1 ≤ n) (a0 a1 : G) (row : List V) (hr : row.length ≤ 1000) (hl : row.length = (G.fld a0 1).toList.length) : ∀ (q p : List V) (cq cp : List G) (m : Nat), row = p ++ q → (G.fld a0 1).toList = cp ++ cq → cp.length = p.length → q.length < m →
    L15_0 n m a0 a1 (row.map V.g) row.length p.length a0 = some (.int .i64 (mayQ cq q), [])
  | [], p, cq, cp, m + 1, hpq, hc, hcp, _ => by
    have hp : p = row := by simpa using hpq.symm
    subst hp
    rw [L15_0_eq]
    refine grd_f (decide_eq_false (by omega)) ?_
    cases cq <;> rfl
  | v :: q, p, cq, cp, m + 1, hpq, hc, hcp, hm => by
    have hlen : row.length = p.length + q.length + 1 := by rw [hpq]; simp; omega
    have hlc : (G.fld a0 1).toList.length = cp.length + cq.length := by rw [hc]; simp
    obtain ⟨c, cs, rfl⟩ : ∃ c cs, cq = c :: cs := by
      cases cq with
      | nil => simp at hlc; omega
      | cons c cs => exact ⟨c, cs, rfl⟩
    have hv : (row.map V.g).getD ((p.length : Int)).toNat default = v.g := by rw [hpq]; exact mid_at p q v
    have hcv : (G.fld a0 1).toList.getD ((p.length : Int)).toNat default = c := by rw [hc]; exact mid_col cp cs c _ hcp.symm
    have hw : IntKind.wrap .i64 ((p.length : Int) + 1) = ((p ++ [v]).length : Int) := by rw [wr (by omega) (by omega)]; simp
    have ih := may_loop n hn a0 a1 row hr hl q (p ++ [v]) cs (cp ++ [c]) m (by rw [hpq]; simp) (by rw [hc]; simp) (by simp [hcp]) (by simp at hm; omega)
    have d1 : (decide ((0 : Int) ≤ (p.length : Int)) && decide ((p.length : Int) < ((row.map V.g).length : Int))) = true := by rw [List.length_map, decide_eq_true (by omega), decide_eq_true (by omega)]; rfl
    have d2 : (decide ((0 : Int) ≤ (p.length : Int)) && decide ((p.length : Int) < ((G.fld a0 1).toList.length : Int))) = true := by rw [decide_eq_true (by omega), decide_eq_true (by omega)]; rfl
    have hk : (G.fld v.g 0).toInt = v.k := rfl
    rw [L15_0_eq, hv, hcv]
    refine grd_t (decide_eq_true (by omega)) (grd_t d1 (bind_of (may_le hn v) ?_))
    cases hm : may v with
    | false =>
      refine grd_t rfl ?_
      rw [mayQ, hm]; rfl
    | true =>
      refine grd_f rfl ?_
      rw [hk]
      by_cases h0 : v.k = 0
      · refine grd_t (decide_eq_true h0) (grd_t d2 ?_)
        rw [J15_1_eq, hk, hw, ih]
        cases hz : (G.fld c 2).toBool with
        | false =>
          refine grd_t rfl ?_
          simp [mayQ, hm, h0, hz]
        | true =>
          refine grd_f rfl (grd_f (by rw [decide_eq_true h0]; rfl) ?_)
          simp [mayQ, hm, h0, hz]
      · refine grd_f (decide_eq_false h0) ?_
        rw [J15_1_eq, hk, hw, ih, hcv]
        refine grd_f rfl (grd_t (by rw [decide_eq_false h0]; rfl) (grd_t d2 ?_))
        by_cases h1 : v.k = (G.fld c 1).toInt
        · refine grd_f (by rw [decide_eq_true h1]; rfl) ?_
          rw [mayQ, if_pos hm, if_neg h0, if_pos h1]
        · refine grd_t (by rw [decide_eq_false h1]; rfl) ?_
          rw [mayQ, if_pos hm, if_neg h0, if_neg h1]
theorem mayT_le {n : Nat} (T : G) (row : List V) (hr : row.length ≤ 1000) (hn : row.length + 10 ≤ n) : C n 15 [.val T, .val (.sl (row.map V.g))] = some (.int .i64 (mayT T row), []) := by
  obtain ⟨m, rfl⟩ : ∃ m, n = m + 1 := ⟨n - 1, by omega⟩
  have hlm : (G.sl (row.map V.g)).toList.length = row.length := by rw [show (G.sl (row.map V.g)).toList = row.map V.g from rfl, List.length_map]
  rw [f15_eq, hlm]
  by_cases h : row.length = (G.fld T 1).toList.length
  · refine grd_f (by rw [decide_eq_true (by omega)]; rfl) ?_
    have := may_loop m (by omega) T (.sl (row.map V.g)) row hr h row [] (G.fld T 1).toList [] m rfl rfl rfl (by omega)
    rw [mayT, if_pos h]
    exact this
  · refine grd_t (by rw [decide_eq_false (by omega)]; rfl) ?_
    rw [mayT, if_neg h]
/-- what a row that may be is, value by value -/
theorem mayQ_zero : ∀ (cs : List G) (vs : List V), cs.length = vs.length → mayQ cs vs = 0 → (∀ v ∈ vs, may v = true) ∧ ∀ i, i < vs.length → ((vs.getD i V.z).k = 0 ∧ (G.fld (cs.getD i default) 2).toBool = true) ∨ (vs.getD i V.z).k = (G.fld (cs.getD i default) 1).toInt
  | [], [], _, _ => ⟨by simp, by simp⟩
  | [], _ :: _, h, _ => by simp at h
  | _ :: _, [], h, _ => by simp at h
  | c :: cs, v :: vs, hl, h => by
    have hl' : cs.length = vs.length := by simpa using hl
    rw [mayQ] at h
    split at h
    case isFalse => simp at h
    rename_i hm
    have key : mayQ cs vs = 0 ∧ ((v.k = 0 ∧ (G.fld c 2).toBool = true) ∨ v.k = (G.fld c 1).toInt) := by
      split at h
      · rename_i h0
        split at h
        · exact ⟨h, .inl ⟨h0, ‹_›⟩⟩
        · simp at h
      · split at h
        · exact ⟨h, .inr ‹_›⟩
        · simp at h
    obtain ⟨a, b⟩ := mayQ_zero cs vs hl' key.1
    refine ⟨fun w hw => ?_, fun i hi => ?_⟩
    · rcases List.mem_cons.1 hw with rfl | hw
      · exact hm
      · exact a w hw
    · cases i with
      | zero => exact key.2
      | succ i => exact b i (by simpa using hi)
/-! ## Range -/
theorem rng0_0 (n : Nat) : C (n + 40) 27 [.val Sc, .val (.int .i64 0), .val (.int .i64 0)] = some (.tu [.int .i64 0, .int .i64 0], []) := by kernel_rfl
theorem rng0_1 (n : Nat) : C (n + 40) 27 [.val Sc, .val (.int .i64 0), .val (.int .i64 1)] = some (.tu [.int .i64 1, .int .i64 0], []) := by kernel_rfl
theorem rng0_2 (n : Nat) : C (n + 40) 27 [.val Sc, .val (.int .i64 0), .val (.int .i64 2)] = some (.tu [.int .i64 0, .int .i64 19], []) := by kernel_rfl
theorem rng0_3 (n : Nat) : C (n + 40) 27 [.val Sc, .val (.int .i64 0), .val (.int .i64 3)] = some (.tu [.int .i64 0, .int .i64 19], []) := by kernel_rfl
theorem rng0_4 (n : Nat) : C (n + 40) 27 [.val Sc, .val (.int .i64 0), .val (.int .i64 4)] = some (.tu [.int .i64 0, .int .i64 19], []) := by kernel_rfl
theorem rng0_m (n : Nat) : C (n + 40) 27 [.val Sc, .val (.int .i64 0), .val (.int .i64 (-1))] = some (.tu [.int .i64 0, .int .i64 19], []) := by kernel_rfl
theorem rng1 (n : Nat) : C (n + 40) 27 [.val Sc, .val (.int .i64 1), .val (.int .i64 0)] = some (.tu [.int .i64 2, .int .i64 0], []) := by kernel_rfl
theorem rng2 (n : Nat) : C (n + 40) 27 [.val Sc, .val (.int .i64 2), .val (.int .i64 0)] = some (.tu [.int .i64 3, .int .i64 0], []) := by kernel_rfl
end Go.Proofs.Ytihipeicmbgegaa.Pure
