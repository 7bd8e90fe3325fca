/- The law RowsReads over plain data. No conditions. -/
import Derived.Test.YtihipeicmbgegaaRa5
namespace Go.Proofs.Ytihipeicmbgegaa.Pure
open Go Go.Proofs Go.Proofs.Ytihipeicmbgegaa.Rf
set_option linter.unusedVariables false
set_option linter.unusedSimpArgs false
attribute [local irreducible] C J4_0 L8_0
theorem v_of {g : G} (h : WG tab 28 g) : ∃ v : V, v.ok ∧ g = v.g := by
  cases h with
  | tu h1 h2 h3 =>
    rename_i ts gs
    have : ts = [3, 2, 9] := by
      have h4 : ty tab 28 = .tu [3, 2, 9] := by rfl
      rw [h4] at h1
      cases h1; rfl
    subst this
    match gs, h2 with
    | [g0, g1, g2], _ =>
      have w0 : WG tab 3 g0 := h3 0 (by simp) (by simp)
      have w1 : WG tab 2 g1 := h3 1 (by simp) (by simp)
      have w2 : WG tab 9 g2 := h3 2 (by simp) (by simp)
      have e0 : ty tab 3 = .int .i64 := rfl
      have e1 : ty tab 9 = .str := rfl
      have e2 : ty tab 2 = .int .i64 := rfl
      cases w0 with
      | int a b =>
        rw [e0] at a; cases a
        cases w1 with
        | int c d =>
          rw [e2] at c; cases c
          cases w2 with
          | str f g => exact ⟨⟨_, _, _⟩, ⟨i64_of b, i64_of d, g⟩, rfl⟩
          | int a _ => rw [e1] at a; cases a
          | bool a => rw [e1] at a; cases a
          | tu a _ _ => rw [e1] at a; cases a
          | arr a _ _ => rw [e1] at a; cases a
          | sl a _ _ => rw [e1] at a; cases a
        | bool a => rw [e2] at a; cases a
        | str a _ => rw [e2] at a; cases a
        | tu a _ _ => rw [e2] at a; cases a
        | arr a _ _ => rw [e2] at a; cases a
        | sl a _ _ => rw [e2] at a; cases a
      | bool a => rw [e0] at a; cases a
      | str a _ => rw [e0] at a; cases a
      | tu a _ _ => rw [e0] at a; cases a
      | arr a _ _ => rw [e0] at a; cases a
      | sl a _ _ => rw [e0] at a; cases a
  | int a _ => cases a
  | bool a => cases a
  | str a _ => cases a
  | arr a _ _ => cases a
  | sl a _ _ => cases a
theorem vs_of {t : TypeId} {g : G} (ht : ty tab t = .sl 28) (h : WG tab t g) : ∃ vs : List V, (∀ v ∈ vs, v.ok) ∧ vs.length ≤ maxLen ∧ g = .sl (vs.map V.g) := by
  cases h with
  | sl h1 h2 h3 =>
    rw [ht] at h1; cases h1
    rename_i es
    have key : ∀ es : List G, (∀ g ∈ es, WG tab 28 g) → ∃ vs : List V, (∀ v ∈ vs, v.ok) ∧ es = vs.map V.g := by
      intro es
      induction es with
      | nil => intro _; exact ⟨[], by simp, rfl⟩
      | cons a l ih =>
        intro h
        obtain ⟨v, h1, rfl⟩ := v_of (h a (by simp))
        obtain ⟨vs, h2, rfl⟩ := ih fun g hg => h g (List.mem_cons_of_mem _ hg)
        refine ⟨v :: vs, fun x hx => ?_, rfl⟩
        rcases List.mem_cons.1 hx with rfl | hx
        · exact h1
        · exact h2 x hx
    obtain ⟨vs, h4, rfl⟩ := key es h3
    exact ⟨vs, h4, by simpa using h2, rfl⟩
  | int a _ => rw [ht] at a; cases a
  | bool a => rw [ht] at a; cases a
  | str a _ => rw [ht] at a; cases a
  | arr a _ _ => rw [ht] at a; cases a
  | tu a _ _ => rw [ht] at a; cases a
theorem rdL_len : ∀ (c : Nat) (l : List UInt8) (acc : List V), (rdL c l acc).1.length ≤ acc.length + c
  | 0, l, acc => by unfold rdL; split <;> simp
  | c + 1, l, acc => by
    unfold rdL
    split
    · have := rdL_len c (l.drop (tkL l).2.1) (acc ++ [(tkL l).1])
      simp only [List.length_append, List.length_cons, List.length_nil] at this
      omega
    · simp
theorem rowS_len (t : Int) (D : List UInt8) : (rowS t D).1.length ≤ 4 := by
  unfold rowS
  have hcn : colsN t ≤ 4 := by unfold colsN; split <;> (try split) <;> omega
  split
  · split
    · have := rdL_len (colsN t) (D.drop (tv D).2.1) []
      simp only [List.length_nil] at this
      omega
    · simp
  · simp
theorem light_loop (n : Nat) (a0 : G) (row : List V) (hr : row.length ≤ 20) : ∀ (q p : List V) (m : Nat), row = p ++ q → q.length < m → ∃ b, L8_0 n m a0 (row.map V.g) p.length = some (.bool b, [])
  | [], p, m + 1, hpq, _ => by
    have hp : p = row := by simpa using hpq.symm
    subst hp
    rw [L8_0_eq]
    exact ⟨true, grd_f (decide_eq_false (by rw [List.length_map]; omega)) rfl⟩
  | x :: q, p, m + 1, hpq, hm => by
    have hlen : row.length = p.length + q.length + 1 := by rw [hpq]; simp; omega
    have hw : IntKind.wrap .i64 ((p.length : Int) + 1) = ((p ++ [x]).length : Int) := by rw [wr (by omega) (by omega)]; simp
    obtain ⟨b, hb⟩ := light_loop n a0 row hr q (p ++ [x]) m (by rw [hpq]; simp) (by simp at hm; omega)
    have d : (decide ((0 : Int) ≤ (p.length : Int)) && decide ((p.length : Int) < ((row.map V.g).length : Int))) = true := by rw [List.length_map, decide_eq_true (by omega), decide_eq_true (by omega)]; rfl
    rw [L8_0_eq, hw]
    cases hc : decide (500 < ((G.fld ((row.map V.g).getD ((p.length : Int)).toNat default) 2).toStr.length : Int)) with
    | true => exact ⟨false, grd_t (decide_eq_true (by rw [List.length_map]; omega)) (grd_t d (grd_t rfl rfl))⟩
    | false => exact ⟨b, grd_t (decide_eq_true (by rw [List.length_map]; omega)) (grd_t d (grd_f rfl hb))⟩
theorem light_le {n : Nat} (row : List V) (hn : 30 ≤ n) : ∃ b, C n 8 [.val (.sl (row.map V.g))] = some (.bool b, []) ∧ (b = true → row.length ≤ 20) := by
  obtain ⟨m, rfl⟩ : ∃ m, n = m + 1 := ⟨n - 1, by omega⟩
  have e2 : ((G.sl (row.map V.g)).toList.length : Int) = (row.length : Int) := by
    show ((row.map V.g).length : Int) = _
    rw [List.length_map]
  rw [f8_eq, e2]
  by_cases h : 20 < row.length
  · exact ⟨false, grd_t (decide_eq_true (by omega)) rfl, fun h => by cases h⟩
  · obtain ⟨b, hb⟩ := light_loop m (.sl (row.map V.g)) row (by omega) row [] m rfl (by omega)
    exact ⟨b, grd_f (decide_eq_false (by omega)) hb, fun _ => by omega⟩
theorem reads_true {n : Nat} (hn : 4000 ≤ n) (t : Int) (row : List V) (ho : ∀ v ∈ row, v.ok) (D : List UInt8) (h6 : C n 6 [] = some (.bool true, [])) : C (n + 1) 4 [.val (.int .i64 t), .val (.sl (row.map V.g)), .val (.str D)] = some (.bool true, []) := by
  rw [f4_eq]
  refine bind_of h6 (grd_f rfl ?_)
  obtain ⟨b, hb, hb2⟩ := light_le (n := n) row (by omega)
  refine bind_of (show C n 8 [.val (.sl (G.sl (row.map V.g)).toList)] = some (.bool b, []) from hb) ?_
  cases b with
  | false => exact grd_t rfl rfl
  | true =>
    have hr := hb2 rfl
    refine grd_f rfl (grd fun hD => ?_)
    have hD' : ¬ 1024 < (D.length : Int) := of_decide_eq_false hD
    obtain ⟨r1, r2⟩ := row_le (n := n) t D (by omega) (by omega)
    obtain ⟨d1, d2⟩ := data_le (n := n) row ho (by omega) (by omega)
    have hl := rowS_len t D
    have hs := same_le (n := n) ((rowS t D).1.map V.g) (by rw [List.length_map]; omega) (by rw [List.length_map]; omega)
    rw [J4_0_eq]
    refine bind_of (sc_le (by omega)) (bind_of r1 (bind_of (sc_le (by omega)) (bind_of r2 (bind_of d1 (bind_of d2 (grd_t (decide_eq_true rfl) (grd_t (decide_eq_true rfl) (bind_of hs rfl))))))))
theorem RowsReads (xs : List G) (h : WGs tab Try.f4.params.toList xs) : ∃ n, C n 4 (xs.map A.val) = some (.bool true, []) := by
  rw [show Try.f4.params.toList = [3, 26, 9] by kernel_rfl] at h
  match xs, h with
  | [t, r, d], ⟨wt, wr, wd, _⟩ =>
    obtain ⟨row, ho, _, rfl⟩ := vs_of (show ty tab 26 = .sl 28 from rfl) wr
    have e0 : ty tab 3 = .int .i64 := rfl
    have e1 : ty tab 9 = .str := rfl
    obtain ⟨t, rfl⟩ : ∃ x : Int, t = .int .i64 x := by
      cases wt with
      | int h1 h2 => rw [e0] at h1; cases h1; exact ⟨_, rfl⟩
      | bool a => rw [e0] at a; cases a
      | str a _ => rw [e0] at a; cases a
      | tu a _ _ => rw [e0] at a; cases a
      | arr a _ _ => rw [e0] at a; cases a
      | sl a _ _ => rw [e0] at a; cases a
    obtain ⟨D, rfl⟩ : ∃ x : List UInt8, d = .str x := by
      cases wd with
      | str h1 h2 => exact ⟨_, rfl⟩
      | int a _ => rw [e1] at a; cases a
      | bool a => rw [e1] at a; cases a
      | tu a _ _ => rw [e1] at a; cases a
      | arr a _ _ => rw [e1] at a; cases a
      | sl a _ _ => rw [e1] at a; cases a
    obtain ⟨n, h6, hn⟩ := (begun_ev.and (Ev.ge 4000)).ex
    exact ⟨n + 1, reads_true hn t row ho D h6⟩
end Go.Proofs.Ytihipeicmbgegaa.Pure
