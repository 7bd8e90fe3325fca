/- The law ExprTypes over plain data. No conditions. -/
import Derived.Test.YtpmecpmankpcbaaPJa
namespace Go.Proofs.Ytpmecpmankpcbaa.Pure
open Go Go.Proofs Go.Proofs.Ytpmecpmankpcbaa.Rf
set_option linter.unusedVariables false
set_option linter.unusedSimpArgs false
theorem light_loop (n : Nat) (a0 a1 e : G) (hl : (argsE e).length ≤ maxLen) (hc : ∀ x ∈ argsE e, ∀ l : Int, ∃ r : Int, C n 11 [.val x, .val (.int .i64 l)] = some (.int .i64 r, [])) : ∀ (j m i : Nat) (l : Int), i + j = (argsE e).length → j < m → ∃ r : Int, L11_0 n m a0 a1 l i e = some (.int .i64 r, [])
  | 0, m + 1, i, l, hij, _ => by
    rw [L11_0_eq, decide_eq_false (show ¬ ((i : Int) < (argsE e).length) by omega)]
    exact ⟨l, rfl⟩
  | j + 1, m + 1, i, l, hij, hj => by
    have hlt : i < (argsE e).length := by omega
    have hm := maxLen_le
    have hw1 : IntKind.wrap .i64 ((i : Int) + 1) = ((i + 1 : Nat) : Int) := by rw [wr (by omega) (by omega)]; simp
    have hg : (argsE e).getD ((i : Int)).toNat default = (argsE e)[i] := by simp [List.getD, hlt]
    obtain ⟨r, hr⟩ := hc _ (List.getElem_mem hlt) l
    rw [L11_0_eq, decide_eq_true (show ((i : Int) < (argsE e).length) by omega), decide_eq_true (show (0 : Int) ≤ i by omega), hw1, hg, hr]
    simp only [cnd, Bool.and_self, Option.bind_some]
    cases decide (0 < l) with
    | false => exact ⟨l, rfl⟩
    | true => exact light_loop n a0 a1 e hl hc j m (i + 1) r (by omega) (by omega)
theorem light_some : ∀ (w : Nat) (e : G), WG tab 26 e → wt e ≤ w → ∀ n, 2 * w + 5 ≤ n → ∀ l : Int, ∃ r : Int, C n 11 [.val e, .val (.int .i64 l)] = some (.int .i64 r, [])
  | 0, e, he, hw, _, _, _ => by
    obtain ⟨k, s, v, es, rfl, _⟩ := expr_parts he
    simp [wt] at hw
  | w + 1, e, he, hw, n, hn, l => by
    obtain ⟨kk, s, v, es, rfl, _, _, hl, hes⟩ := expr_parts he
    obtain ⟨k, rfl⟩ : ∃ k, n = k + 1 := ⟨n - 1, by omega⟩
    have hws : wts es + 2 ≤ w + 1 := by simp [wt, wts] at hw; omega
    have hwl := wts_len es
    have hc : ∀ x ∈ argsE (.tu [.int .i64 kk, .str s, v, .sl es]), ∀ l : Int, ∃ r : Int, C k 11 [.val x, .val (.int .i64 l)] = some (.int .i64 r, []) := by
      intro x hx l
      have hx : x ∈ es := hx
      obtain ⟨i, hi, rfl⟩ := List.getElem_of_mem hx
      have h5 := wts_get es i hi
      exact light_some w es[i] (hes _ (List.getElem_mem hi)) (by omega) k (by omega) l
    rw [f11_eq]
    obtain ⟨r, hr⟩ := light_loop k (.tu [.int .i64 kk, .str s, v, .sl es]) (.int .i64 l) (.tu [.int .i64 kk, .str s, v, .sl es]) hl hc es.length k 0 (IntKind.wrap .i64 (l - 1)) (Nat.zero_add _) (by omega)
    have hr' : L11_0 k k (.tu [.int .i64 kk, .str s, v, .sl es]) (.int .i64 l) (IntKind.wrap .i64 ((G.int .i64 l).toInt - 1)) 0 (.tu [.int .i64 kk, .str s, v, .sl es]) = some (.int .i64 r, []) := hr
    rw [hr']
    unfold cnd
    repeat' split
    all_goals exact ⟨_, rfl⟩
theorem types_same (e t : G) (he : WG tab 26 e) (hcol : (cols t).length ≤ maxLen) (n : Nat) (hn : 3 * wt e + (cols t).length + 5005 ≤ n) : ∃ a b : Int, C (n + 1) 13 [.val t, .val e] = some (knd a b) ∧ C (n + 1) 14 [.val t, .val e] = some (knd a b) := by
  obtain ⟨k, rfl⟩ : ∃ k, n = k + 1 := ⟨n - 1, by omega⟩
  rw [f13_eq, f14_eq]
  rcases alike (wt e) e he (Nat.le_refl _) k (by omega) 1 0 (by omega) (by omega) (by omega) (by omega) with ⟨p', h1, h2⟩ | ⟨hle, h1, h2⟩
  · have h2' : C (k + 1) 26 [.val e, .val (.int .i64 1), .val (.int .i64 4096)] = some (.tu [.int .i64 0, .bool true], []) := h2
    rw [h1, h2']
    exact ⟨0, 3, rfl, rfl⟩
  · have h2' : C (k + 1) 26 [.val e, .val (.int .i64 1), .val (.int .i64 4096)] = some (.tu [.int .i64 (4096 - (0 + cnt e)), .bool false], []) := h2
    rw [h1, h2']
    obtain ⟨a, b, h3, h4⟩ := typ (wt e) e t he (Nat.le_refl _) (by omega) hcol (k + 1) (k + 1) (by omega) (by omega)
    refine ⟨a, b, ?_, ?_⟩
    · show (C (k + 1) 25 [.val t, .val e]).bind _ = _
      rw [h3]; simp only [Option.bind_some]; congr 1
    · show (C (k + 1) 27 [.val t, .val e]).bind _ = _
      rw [h4]; simp only [Option.bind_some]; congr 1
theorem ExprTypes (xs : List G) (h : WGs tab Try.f3.params.toList xs) : ∃ n, C n 3 (xs.map A.val) = some (.bool true, []) := by
  rw [show Try.f3.params.toList = [26, 4, 32] by kernel_rfl] at h
  match xs, h with
  | [e, o, t], ⟨he, _, _, _⟩ =>
    refine ⟨(3 * wt e + (cols t).length + 6000) + 40 + 1, ?_⟩
    show C _ 3 [.val e, .val o, .val t] = _
    rw [f3_eq, begun]
    obtain ⟨r, hr⟩ := light_some (wt e) e he (Nat.le_refl _) (3 * wt e + (cols t).length + 6000 + 40) (by omega) 500
    show (C _ 11 [.val e, .val (.int .i64 500)]).bind _ = _
    rw [hr]
    show cnd (decide (r = 0)) _ (cnd (decide (12 < ((cols t).length : Int))) _ (cnd (!o.toBool) _ _)) = _
    cases decide (r = 0) with
    | true => rfl
    | false =>
      by_cases h12 : 12 < ((cols t).length : Int)
      · rw [decide_eq_true h12]; rfl
      · rw [decide_eq_false h12]
        simp only [cnd]
        have hcol : (cols t).length ≤ maxLen := by unfold maxLen; omega
        cases o.toBool with
        | true =>
          obtain ⟨a, b, h1, h2⟩ := types_same e t he hcol (3 * wt e + (cols t).length + 6000 + 39) (by omega)
          show (C (3 * wt e + (cols t).length + 6000 + 39 + 1) 13 [.val t, .val e]).bind _ = _
          rw [h1]
          simp only [Option.bind_some]
          rw [h2]
          simp only [Option.bind_some, decide_true, cnd]
        | false =>
          simp only [Bool.not_false]
          rw [f12_eq (3 * wt e + (cols t).length + 6000 + 39)]
          simp only [Option.bind_some]
          generalize hT : (G.tu _) = T
          have hc3 : (cols T).length = 3 := by rw [← hT]; rfl
          obtain ⟨a, b, h1, h2⟩ := types_same e T he (by unfold maxLen; omega) (3 * wt e + (cols t).length + 6000 + 39) (by omega)
          rw [h1]
          simp only [Option.bind_some]
          rw [h2]
          simp only [Option.bind_some, decide_true, cnd]
end Go.Proofs.Ytpmecpmankpcbaa.Pure
