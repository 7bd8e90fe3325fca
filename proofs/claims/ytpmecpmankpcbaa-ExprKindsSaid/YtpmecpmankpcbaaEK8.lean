/- The law ExprKinds: what it computes is true, in lists and trees alone. No conditions. -/
import Derived.Test.YtpmecpmankpcbaaEK7
import Derived.Test.YtpmecpmankpcbaaPKdExprKinds
namespace Go.Proofs.Ytpmecpmankpcbaa.EK
open Go.RowKit Go.Proofs.YtpmecpmankpcbaaW.PrintWords Go.Proofs.YtpmecpmankpcbaaW.PrintLast Go.Proofs.Ytpmecpmankpcbaa.PK
set_option linter.unusedVariables false
set_option linter.unusedSimpArgs false

theorem hole_ok (cols : List S57) (row : List S23) (e : S26) (hW : W26 e) (hV : ∀ v ∈ row, W23 v) : antipodelaw19_ExprKinds.hole (typeOf cols e).1 (typeOf cols e).2 (evalOf cols row e).1.f0 (evalOf cols row e).1.f1 (evalOf cols row e).1.f2 (evalOf cols row e).2 = true := by
  unfold antipodelaw19_ExprKinds.hole
  rcases eval_told cols row e hW hV with ⟨h, he⟩ | ⟨h, he | ⟨h5, _, h6, _⟩ | ⟨h5, h6⟩⟩
  · rw [if_neg h, he, typeOf_err cols e h]
    simp [null]
  · rw [if_pos h, he]
    simp [null]
  · rw [if_pos h, h5]
    simp only [Bool.or_eq_true, Bool.and_eq_true, decide_eq_true_eq]
    exact .inl ⟨trivial, h6⟩
  · rw [if_pos h, h5]
    rcases h6 with h6 | h6 <;> rw [h6] <;> simp [null]
theorem exprKinds : antipodelaw19_ExprKinds.Pure := by
  intro e row hW hV
  refine Ev.rounds ?_
  have hL := light_ev e hW 500 (by omega) (by omega)
  have hE := eval_ev tname tcols 0 0 0 [] [] [] 0 0 0 row e hW hV.2 hV.1
  have hT := type_ev tname tcols 0 0 0 [] [] [] 0 0 0 e hW
  have hj : ∀ b, Ev (fun k => antipodelaw19_ExprKinds.j0 k row b e.f0 e.f1 e.f2.f0 e.f2.f1 e.f2.f2 e.f3) true := by
    intro b
    refine Ev.succ ?_
    simp only [antipodelaw19_ExprKinds.j0]
    cases b with
    | true => exact Ev.pos rfl (Ev.now _)
    | false =>
      refine Ev.neg (by decide) ?_
      simp only [tname, tcols] at hE hT
      unfold antipodelaw19_Table.f
      simp only [Option.bind_some]
      exact Ev.bind hT (Ev.bind hE (Ev.pos (hole_ok _ row e hW hV.2) (Ev.now _)))
  simp only [antipodelaw19_ExprKinds.f]
  refine Ev.bind begun_ev (Ev.pos rfl (Ev.bind hL.1 ?_))
  by_cases h0 : light e 500 = 0
  · exact Ev.pos h0 (hj _)
  · exact Ev.neg h0 (hj _)
end Go.Proofs.Ytpmecpmankpcbaa.EK
