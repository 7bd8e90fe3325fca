/- Expressions as plain data, and what an operator makes of values. No conditions. -/
import Derived.Test.YtpmecpmankpcbaaVa1
namespace Go.Proofs.Ytpmecpmankpcbaa.Pure
open Go Go.Proofs Go.Proofs.Ytpmecpmankpcbaa.Rf
set_option linter.unusedVariables false
set_option linter.unusedSimpArgs false
inductive E where
  | mk (k : Int) (s : List UInt8) (v : V) (l : List E)
mutual
def E.g : E → G
  | .mk k s v l => .tu [.int .i64 k, .str s, v.g, .sl (gs l)]
def gs : List E → List G
  | [] => []
  | e :: l => e.g :: gs l
end
mutual
theorem E.ind {P : E → Prop} (h : ∀ k s v l, (∀ x ∈ l, P x) → P (.mk k s v l)) : ∀ e, P e
  | .mk k s v l => h k s v l (E.inds h l)
theorem E.inds {P : E → Prop} (h : ∀ k s v l, (∀ x ∈ l, P x) → P (.mk k s v l)) : ∀ l : List E, ∀ x ∈ l, P x
  | [], x, hx => by cases hx
  | e :: l, x, hx => by
    rcases List.mem_cons.1 hx with h1 | hx
    · exact h1 ▸ E.ind h e
    · exact E.inds h l x hx
end
theorem gs_map : ∀ (l : List E), gs l = l.map E.g
  | [] => rfl
  | e :: l => by rw [gs, gs_map l]; rfl
theorem g_mk (k : Int) (s : List UInt8) (v : V) (l : List E) : (E.mk k s v l).g = .tu [.int .i64 k, .str s, v.g, .sl (l.map E.g)] := by rw [E.g, gs_map]
inductive EOk : E → Prop
  | mk {k s v l} : I64 k → s.length ≤ maxLen → v.ok → l.length ≤ maxLen → (∀ x ∈ l, EOk x) → EOk (.mk k s v l)
theorem v_of {g : G} (h : WG tab 23 g) : ∃ v : V, v.ok ∧ g = v.g := by
  cases h with
  | tu h1 h2 h3 =>
    rename_i ts gs
    have : ts = [3, 2, 9] := by
      have h4 : ty tab 23 = .tu [3, 2, 9] := by rfl
      rw [h4] at h1
      cases h1; rfl
    subst this
    match gs, h2 with
    | [g0, g1, g2], _ =>
      have w0 : WG tab 3 g0 := h3 0 (by simp) (by simp)
      have w1 : WG tab 2 g1 := h3 1 (by simp) (by simp)
      have w2 : WG tab 9 g2 := h3 2 (by simp) (by simp)
      have e0 : ty tab 3 = .int .i64 := rfl
      have e1 : ty tab 9 = .str := rfl
      have e2 : ty tab 2 = .int .i64 := rfl
      cases w0 with
      | int a b =>
        rw [e0] at a; cases a
        cases w1 with
        | int c d =>
          rw [e2] at c; cases c
          cases w2 with
          | str f g => exact ⟨⟨_, _, _⟩, ⟨i64_of b, i64_of d, g⟩, rfl⟩
          | int a _ => rw [e1] at a; cases a
          | bool a => rw [e1] at a; cases a
          | tu a _ _ => rw [e1] at a; cases a
          | arr a _ _ => rw [e1] at a; cases a
          | sl a _ _ => rw [e1] at a; cases a
        | bool a => rw [e2] at a; cases a
        | str a _ => rw [e2] at a; cases a
        | tu a _ _ => rw [e2] at a; cases a
        | arr a _ _ => rw [e2] at a; cases a
        | sl a _ _ => rw [e2] at a; cases a
      | bool a => rw [e0] at a; cases a
      | str a _ => rw [e0] at a; cases a
      | tu a _ _ => rw [e0] at a; cases a
      | arr a _ _ => rw [e0] at a; cases a
      | sl a _ _ => rw [e0] at a; cases a
  | int a _ => cases a
  | bool a => cases a
  | str a _ => cases a
  | arr a _ _ => cases a
  | sl a _ _ => cases a
theorem vs_of {t : TypeId} {g : G} (ht : ty tab t = .sl 23) (h : WG tab t g) : ∃ vs : List V, (∀ v ∈ vs, v.ok) ∧ vs.length ≤ maxLen ∧ g = .sl (vs.map V.g) := by
  cases h with
  | sl h1 h2 h3 =>
    rw [ht] at h1; cases h1
    rename_i es
    have key : ∀ es : List G, (∀ g ∈ es, WG tab 23 g) → ∃ vs : List V, (∀ v ∈ vs, v.ok) ∧ es = vs.map V.g := by
      intro es
      induction es with
      | nil => intro _; exact ⟨[], by simp, rfl⟩
      | cons a l ih =>
        intro h
        obtain ⟨v, h1, rfl⟩ := v_of (h a (by simp))
        obtain ⟨vs, h2, rfl⟩ := ih fun g hg => h g (List.mem_cons_of_mem _ hg)
        refine ⟨v :: vs, fun x hx => ?_, rfl⟩
        rcases List.mem_cons.1 hx with rfl | hx
        · exact h1
        · exact h2 x hx
    obtain ⟨vs, h4, rfl⟩ := key es h3
    exact ⟨vs, h4, by simpa using h2, rfl⟩
  | int a _ => rw [ht] at a; cases a
  | bool a => rw [ht] at a; cases a
  | str a _ => rw [ht] at a; cases a
  | arr a _ _ => rw [ht] at a; cases a
  | tu a _ _ => rw [ht] at a; cases a
theorem e_of : ∀ (w : Nat) {g : G}, wt g ≤ w → WG tab 26 g → ∃ e : E, EOk e ∧ g = e.g
  | 0, g, hw, h => by
    obtain ⟨k, s, v, es, rfl, _⟩ := expr_parts h
    simp [wt] at hw
  | w + 1, g, hw, h => by
    obtain ⟨k, s, v, es, rfl, hk, hv, hl, hes⟩ := expr_parts h
    have hs : s.length ≤ maxLen := by
      cases h with
      | tu h1 h2 h3 =>
        rename_i ts
        have h4 : ty tab 26 = .tu [3, 9, 23, 24] := by rfl
        rw [h4] at h1
        cases h1
        have w1 : WG tab 9 (.str s) := h3 1 (by simp) (by simp)
        cases w1 with
        | str _ h => exact h
      | arr a _ _ => cases a
    obtain ⟨v, hv', rfl⟩ := v_of hv
    have hws : wts es + 2 ≤ w + 1 := by simp [wt, wts] at hw; omega
    have key : ∀ es : List G, wts es ≤ w → (∀ g ∈ es, WG tab 26 g) → ∃ l : List E, (∀ x ∈ l, EOk x) ∧ es = l.map E.g := by
      intro es
      induction es with
      | nil => intro _ _; exact ⟨[], by simp, rfl⟩
      | cons a l ih =>
        intro hw h
        simp only [wts] at hw
        obtain ⟨e, h1, rfl⟩ := e_of w (show wt a ≤ w by omega) (h a (by simp))
        obtain ⟨vs, h2, rfl⟩ := ih (by omega) fun g hg => h g (List.mem_cons_of_mem _ hg)
        refine ⟨e :: vs, fun x hx => ?_, rfl⟩
        rcases List.mem_cons.1 hx with rfl | hx
        · exact h1
        · exact h2 x hx
    obtain ⟨l, h1, rfl⟩ := key es (by omega) hes
    exact ⟨.mk k s v l, .mk (i64_of hk) hs hv' (by simpa using hl) h1, (g_mk k s v l).symm⟩
theorem expr_of {g : G} (h : WG tab 26 g) : ∃ e : E, EOk e ∧ g = e.g := e_of (wt g) (Nat.le_refl _) h
/-! ## comparing values -/
def cmpI (a b : Int) : Int := if a < b then -1 else if b < a then 1 else 0
def cmpB (a b : List UInt8) : Int := Lib.compareBytes a b
def cmpV (v w : V) : Int := if cmpI v.k w.k ≠ 0 then cmpI v.k w.k else if cmpI v.n w.n ≠ 0 then cmpI v.n w.n else cmpB v.s w.s
theorem cmpI_eq (n : Nat) (a b : Int) : C (n + 2) 63 [.val (.int .i64 a), .val (.int .i64 b)] = some (.int .i64 (cmpI a b), []) := by
  rw [f63_eq, f68_eq, f68_eq]
  show cnd (!decide (a = a)) _ (cnd (!decide (b = b)) _ (cnd (decide (a < b)) _ (cnd (decide (b < a)) _ _))) = _
  rw [show decide (a = a) = true from decide_eq_true rfl, show decide (b = b) = true from decide_eq_true rfl]
  unfold cmpI
  by_cases h : a < b
  · rw [decide_eq_true h, if_pos h]; rfl
  · rw [decide_eq_false h, if_neg h]
    by_cases h2 : b < a
    · rw [decide_eq_true h2, if_pos h2]; rfl
    · rw [decide_eq_false h2, if_neg h2]; rfl
theorem cmpI_eq' (n : Nat) (a b : Int) : C (n + 2) 64 [.val (.int .i64 a), .val (.int .i64 b)] = some (.int .i64 (cmpI a b), []) := by
  rw [f64_eq, f69_eq, f69_eq]
  show cnd (!decide (a = a)) _ (cnd (!decide (b = b)) _ (cnd (decide (a < b)) _ (cnd (decide (b < a)) _ _))) = _
  rw [show decide (a = a) = true from decide_eq_true rfl, show decide (b = b) = true from decide_eq_true rfl]
  unfold cmpI
  by_cases h : a < b
  · rw [decide_eq_true h, if_pos h]; rfl
  · rw [decide_eq_false h, if_neg h]
    by_cases h2 : b < a
    · rw [decide_eq_true h2, if_pos h2]; rfl
    · rw [decide_eq_false h2, if_neg h2]; rfl
theorem or_eq (n : Nat) (a b c : Int) : C (n + 6) 62 [.val (.sl [.int .i64 a, .int .i64 b, .int .i64 c])] = some (.int .i64 (if a ≠ 0 then a else if b ≠ 0 then b else c), []) := by
  rw [f62_eq]
  show L62_0 (n + 5) (n + 4 + 1) _ 0 [.int .i64 a, .int .i64 b, .int .i64 c] 3 0 = _
  rw [L62_0_eq]
  show cnd (!decide (a = 0)) _ _ = _
  by_cases ha : a = 0
  · rw [decide_eq_true ha, if_neg (by simpa using ha)]
    show L62_0 (n + 5) (n + 3 + 1) _ 0 [.int .i64 a, .int .i64 b, .int .i64 c] 3 1 = _
    rw [L62_0_eq]
    show cnd (!decide (b = 0)) _ _ = _
    by_cases hb : b = 0
    · rw [decide_eq_true hb, if_neg (by simpa using hb)]
      show L62_0 (n + 5) (n + 2 + 1) _ 0 [.int .i64 a, .int .i64 b, .int .i64 c] 3 2 = _
      rw [L62_0_eq]
      show cnd (!decide (c = 0)) _ _ = _
      by_cases hc : c = 0
      · rw [decide_eq_true hc]
        show L62_0 (n + 5) (n + 1 + 1) _ 0 [.int .i64 a, .int .i64 b, .int .i64 c] 3 3 = _
        rw [L62_0_eq, hc]
        rfl
      · rw [decide_eq_false hc]; rfl
    · rw [decide_eq_false hb, if_pos hb]; rfl
  · rw [decide_eq_false ha, if_pos ha]; rfl
theorem at_le {p : Nat → Prop} {k n : Nat} (hn : k ≤ n) (h : ∀ m, p (m + k)) : p n := by
  obtain ⟨m, rfl⟩ : ∃ m, n = m + k := ⟨n - k, by omega⟩
  exact h m
theorem cmpI_le {n : Nat} (hn : 2 ≤ n) (a b : Int) : C n 63 [.val (.int .i64 a), .val (.int .i64 b)] = some (.int .i64 (cmpI a b), []) := at_le (p := fun n => C n 63 [.val (.int .i64 a), .val (.int .i64 b)] = some (.int .i64 (cmpI a b), [])) hn fun m => cmpI_eq m a b
theorem cmpI_le' {n : Nat} (hn : 2 ≤ n) (a b : Int) : C n 64 [.val (.int .i64 a), .val (.int .i64 b)] = some (.int .i64 (cmpI a b), []) := at_le (p := fun n => C n 64 [.val (.int .i64 a), .val (.int .i64 b)] = some (.int .i64 (cmpI a b), [])) hn fun m => cmpI_eq' m a b
theorem cmpB_le {n : Nat} (hn : 2 ≤ n) (a b : List UInt8) : C n 65 [.val (.str a), .val (.str b)] = some (.int .i64 (cmpB a b), []) := at_le (p := fun n => C n 65 [.val (.str a), .val (.str b)] = some (.int .i64 (cmpB a b), [])) hn fun m => by rw [f65_eq, f70_eq]; rfl
theorem or_le {n : Nat} (hn : 6 ≤ n) (a b c : Int) : C n 62 [.val (.sl [.int .i64 a, .int .i64 b, .int .i64 c])] = some (.int .i64 (if a ≠ 0 then a else if b ≠ 0 then b else c), []) := at_le (p := fun n => C n 62 [.val (.sl [.int .i64 a, .int .i64 b, .int .i64 c])] = some (.int .i64 (if a ≠ 0 then a else if b ≠ 0 then b else c), [])) hn fun m => or_eq m a b c
theorem bind_of {x : Option R} {r : R} {K : R → Option R} {y : Option R} (h : x = some r) (hk : K r = y) : x.bind K = y := by rw [h]; exact hk
theorem cmp_le {n : Nat} (hn : 7 ≤ n) (v w : V) : C n 56 [.val v.g, .val w.g] = some (.int .i64 (cmpV v w), []) := by
  obtain ⟨m, rfl⟩ : ∃ m, n = m + 1 := ⟨n - 1, by omega⟩
  rw [f56_eq]
  refine bind_of (cmpI_le (by omega) v.k w.k) ?_
  refine bind_of (cmpI_le' (by omega) v.n w.n) ?_
  refine bind_of (cmpB_le (by omega) v.s w.s) ?_
  refine bind_of (or_le (by omega) (cmpI v.k w.k) (cmpI v.n w.n) (cmpB v.s w.s)) ?_
  unfold cmpV
  rfl
/-- bytesLess and compareBytes say the same. -/
theorem cmpB_tri : ∀ (a b : List UInt8), cmpB a b = if a = b then 0 else if Op.bytesLess a b then -1 else 1
  | [], [] => rfl
  | [], _ :: _ => by simp [cmpB, Lib.compareBytes, Op.bytesLess]
  | _ :: _, [] => by simp [cmpB, Lib.compareBytes, Op.bytesLess]
  | x :: a, y :: b => by
    have ih := cmpB_tri a b
    unfold cmpB at ih ⊢
    simp only [Lib.compareBytes, Op.bytesLess, List.cons.injEq]
    by_cases h1 : x < y
    · have hne : x ≠ y := by intro e; subst e; exact absurd h1 (by simp)
      simp [h1, hne]
    · by_cases h2 : y < x
      · have hne : x ≠ y := by intro e; subst e; exact absurd h2 (by simp)
        simp [h1, h2, hne]
      · have he : x = y := UInt8.le_antisymm (UInt8.not_lt.1 h2) (UInt8.not_lt.1 h1)
        subst he
        simp [h1, ih]
end Go.Proofs.Ytpmecpmankpcbaa.Pure
