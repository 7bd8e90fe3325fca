/- The law ExprKinds: what it computes is true, in lists and trees alone. No conditions. -/
import Derived.Test.YtpmecpmankpcbaaEK5
import Derived.Test.YtpmecpmankpcbaaPKx18
namespace Go.Proofs.Ytpmecpmankpcbaa.EK
open Go.RowKit Go.Proofs.YtpmecpmankpcbaaW.PrintWords Go.Proofs.YtpmecpmankpcbaaW.PrintLast Go.Proofs.Ytpmecpmankpcbaa.PK
set_option linter.unusedVariables false
set_option linter.unusedSimpArgs false

theorem tell_err (m s : Bool) (k : Int) (h : (expr_operator.tell m s k).2 ≠ 0) : (expr_operator.tell m s k).1 = 0 := by
  unfold expr_operator.tell at h ⊢
  cases m <;> cases s <;> simp_all
theorem operator_err (s : List UInt8) (l : List Int) (h : (expr_operator.kind s l).2 ≠ 0) : (expr_operator.kind s l).1 = 0 := by
  unfold expr_operator.kind at h ⊢
  repeat' split
  all_goals (simp only [*, if_true, if_false] at h)
  all_goals first | exact tell_err _ _ _ h | rfl
theorem kind_err (cols : List S57) : ∀ e : S26, (kind expr_operator.kind cols e).2 ≠ 0 → (kind expr_operator.kind cols e).1 = 0
  | ⟨k0, s, v, args⟩, h => by
    revert h
    simp only [kind]
    repeat' split
    all_goals first
      | exact fun _ => rfl
      | exact fun h => absurd rfl h
      | exact operator_err _ _
theorem typeOf_err (cols : List S57) (e : S26) (h : (typeOf cols e).2 ≠ 0) : (typeOf cols e).1 = 0 := by
  unfold typeOf at h ⊢
  by_cases hs : (small e 1 0).1 = true
  · rw [if_pos hs] at h ⊢
    exact kind_err cols e h
  · rw [if_neg hs]

/-! ## light -/
mutual
theorem light_ev : ∀ (e : S26), W26 e → ∀ left : Int, -1 ≤ left → left ≤ 1000 → Ev (fun k => antipodelaw19_Light.f k e.f0 e.f1 e.f2.f0 e.f2.f1 e.f2.f2 e.f3 left) (light e left) ∧ 0 ≤ light e left ∧ light e left ≤ 1000
  | ⟨k0, s, v, args⟩, hW, left, h0, h1 => by
    have hl := (W26.h3 hW)
    simp only [light]
    by_cases c : left ≤ 0 ∨ (s.size : Int) > 100 ∨ (v.f2.size : Int) > 200
    · rw [if_pos c]
      refine ⟨Ev.succ ?_, by omega, by omega⟩
      simp only [antipodelaw19_Light.f]
      by_cases c0 : left ≤ 0
      · refine Ev.pos c0 (Ev.succ ?_)
        simp only [antipodelaw19_Light.j0]
        exact Ev.pos trivial (Ev.now _)
      · refine Ev.neg c0 ?_
        by_cases c1 : (s.size : Int) > 100
        · refine Ev.pos c1 (Ev.succ ?_)
          simp only [antipodelaw19_Light.j0]
          exact Ev.pos trivial (Ev.now _)
        · refine Ev.neg c1 (Ev.succ ?_)
          simp only [antipodelaw19_Light.j0]
          exact Ev.pos (by simp only [decide_eq_true_eq]; omega) (Ev.now _)
    · rw [if_neg c]
      have ih := lightL_ev args [] hl.2 (by simpa using hl.1) (left - 1) (by omega) (by omega) k0 s v
      refine ⟨Ev.succ ?_, ih.2⟩
      simp only [antipodelaw19_Light.f]
      refine Ev.neg (by omega) (Ev.neg (by omega) (Ev.succ ?_))
      simp only [antipodelaw19_Light.j0]
      refine Ev.neg (by simp only [decide_eq_true_eq]; omega) ?_
      rw [wrap_in (by omega) (by omega)]
      exact ih.1
theorem lightL_ev : ∀ (l pre : List S26), (∀ x ∈ l, W26 x) → (pre ++ l).length ≤ maxLen → ∀ left : Int, 0 ≤ left → left ≤ 1000 → ∀ (k0 : Int) (s : ByteArray) (v : S23), Ev (fun k => antipodelaw19_Light.l0 k left (pre.length : Int) k0 s v.f0 v.f1 v.f2 (pre ++ l)) (lightL l left) ∧ 0 ≤ lightL l left ∧ lightL l left ≤ 1000
  | [], pre, _, hl, left, h0, h1, k0, s, v => by
    refine ⟨Ev.succ ?_, by simp only [lightL]; omega, by simp only [lightL]; omega⟩
    simp only [antipodelaw19_Light.l0, lightL, List.append_nil]
    exact Ev.neg (by omega) (Ev.now _)
  | a :: l, pre, hW, hl, left, h0, h1, k0, s, v => by
    have hlen : pre.length < (pre ++ a :: l).length := by simp
    have hmax : (pre ++ a :: l).length ≤ 9223372036854775807 := by unfold maxLen at hl; omega
    have hwi : wrap64 ((pre.length : Int) + 1) = ((pre ++ [a]).length : Int) := by rw [wrap_in (by omega) (by omega)]; simp
    have ha := light_ev a (hW a (by simp)) left (by omega) h1
    by_cases c : left > 0
    · have ih := lightL_ev l (pre ++ [a]) (fun x hx => hW x (by simp [hx])) (by simpa using hl) (light a left) ha.2.1 ha.2.2 k0 s v
      simp only [lightL]
      rw [if_pos c]
      refine ⟨Ev.succ ?_, ih.2⟩
      simp only [antipodelaw19_Light.l0, hwi, rd_mid]
      refine Ev.pos (by omega) (Ev.pos c (Ev.pos (by omega) (Ev.bind ha.1 ?_)))
      have e : (pre ++ [a]) ++ l = pre ++ a :: l := by simp
      rw [e] at ih
      exact ih.1
    · simp only [lightL]
      rw [if_neg c]
      refine ⟨Ev.succ ?_, h0, h1⟩
      simp only [antipodelaw19_Light.l0]
      exact Ev.pos (by omega) (Ev.neg c (Ev.now _))
end
end Go.Proofs.Ytpmecpmankpcbaa.EK
