/- The law ExprLogic over plain data. No conditions. -/
import Derived.Test.YtpmecpmankpcbaaVa8
namespace Go.Proofs.Ytpmecpmankpcbaa.Pure
open Go Go.Proofs Go.Proofs.Ytpmecpmankpcbaa.Rf
set_option linter.unusedVariables false
set_option linter.unusedSimpArgs false
attribute [local irreducible] C
/-- What ExprLogic asks of the values. -/
def logicTail (x y z v p q l : R) : Option R := cnd (((G.fld x.1 1).toBool == (G.fld y.1 1).toBool)) (cnd ((decide ((G.fld (G.fld x.1 0) 0).toInt = (G.fld (G.fld y.1 0) 0).toInt) && (decide ((G.fld (G.fld x.1 0) 1).toInt = (G.fld (G.fld y.1 0) 1).toInt) && decide ((G.fld (G.fld x.1 0) 2).toStr = (G.fld (G.fld y.1 0) 2).toStr)))) (cnd (((G.fld z.1 1).toBool == (G.fld l.1 1).toBool)) (cnd ((!(G.fld z.1 1).toBool)) (cnd (((G.fld p.1 1).toBool == (G.fld q.1 1).toBool)) (some ((.bool ((decide ((G.fld (G.fld p.1 0) 0).toInt = (G.fld (G.fld q.1 0) 0).toInt) && (decide ((G.fld (G.fld p.1 0) 1).toInt = (G.fld (G.fld q.1 0) 1).toInt) && decide ((G.fld (G.fld p.1 0) 2).toStr = (G.fld (G.fld q.1 0) 2).toStr))))), [])) (some ((.bool (false)), []))) (cnd ((!(G.fld v.1 1).toBool)) (cnd (((G.fld p.1 1).toBool == (G.fld q.1 1).toBool)) (some ((.bool ((decide ((G.fld (G.fld p.1 0) 0).toInt = (G.fld (G.fld q.1 0) 0).toInt) && (decide ((G.fld (G.fld p.1 0) 1).toInt = (G.fld (G.fld q.1 0) 1).toInt) && decide ((G.fld (G.fld p.1 0) 2).toStr = (G.fld (G.fld q.1 0) 2).toStr))))), [])) (some ((.bool (false)), []))) (cnd ((!decide ((G.fld (G.fld v.1 0) 0).toInt = 1))) (cnd ((!decide ((G.fld (G.fld v.1 0) 0).toInt = 0))) (cnd (((G.fld p.1 1).toBool == (G.fld q.1 1).toBool)) (some ((.bool ((decide ((G.fld (G.fld p.1 0) 0).toInt = (G.fld (G.fld q.1 0) 0).toInt) && (decide ((G.fld (G.fld p.1 0) 1).toInt = (G.fld (G.fld q.1 0) 1).toInt) && decide ((G.fld (G.fld p.1 0) 2).toStr = (G.fld (G.fld q.1 0) 2).toStr))))), [])) (some ((.bool (false)), []))) (cnd ((decide ((G.fld (G.fld z.1 0) 0).toInt = (G.fld (G.fld v.1 0) 0).toInt) && (decide ((G.fld (G.fld z.1 0) 1).toInt = (G.fld (G.fld v.1 0) 1).toInt) && decide ((G.fld (G.fld z.1 0) 2).toStr = (G.fld (G.fld v.1 0) 2).toStr)))) (cnd (((G.fld p.1 1).toBool == (G.fld q.1 1).toBool)) (some ((.bool ((decide ((G.fld (G.fld p.1 0) 0).toInt = (G.fld (G.fld q.1 0) 0).toInt) && (decide ((G.fld (G.fld p.1 0) 1).toInt = (G.fld (G.fld q.1 0) 1).toInt) && decide ((G.fld (G.fld p.1 0) 2).toStr = (G.fld (G.fld q.1 0) 2).toStr))))), [])) (some ((.bool (false)), []))) (some ((.bool (false)), [])))) (cnd ((decide ((G.fld (G.fld z.1 0) 0).toInt = (G.fld (G.fld v.1 0) 0).toInt) && (decide ((G.fld (G.fld z.1 0) 1).toInt = (G.fld (G.fld v.1 0) 1).toInt) && decide ((G.fld (G.fld z.1 0) 2).toStr = (G.fld (G.fld v.1 0) 2).toStr)))) (cnd (((G.fld p.1 1).toBool == (G.fld q.1 1).toBool)) (some ((.bool ((decide ((G.fld (G.fld p.1 0) 0).toInt = (G.fld (G.fld q.1 0) 0).toInt) && (decide ((G.fld (G.fld p.1 0) 1).toInt = (G.fld (G.fld q.1 0) 1).toInt) && decide ((G.fld (G.fld p.1 0) 2).toStr = (G.fld (G.fld q.1 0) 2).toStr))))), [])) (some ((.bool (false)), []))) (some ((.bool (false)), [])))))) (some ((.bool (false)), []))) (some ((.bool (false)), []))) (some ((.bool (false)), []))
theorem logic_tail (a b c : Option V) (ta tb tc : Bool) (ha : ta = true → a = none ∨ a = some .z ∨ a = some (tr false) ∨ a = some (tr true)) (hb : tb = true → b = none ∨ b = some .z ∨ b = some (tr false) ∨ b = some (tr true)) (hc : tc = true → c = none ∨ c = some .z ∨ c = some (tr false) ∨ c = some (tr true)) :
    logicTail (ov (if (ta && tb) = true then (if (ta && tb) = true then a.bind fun u => b.map fun v => bothS 0 u v else none).map nt else none))
      (ov (if (ta && tb) = true then (if ta = true then a.map nt else none).bind fun u => (if tb = true then b.map nt else none).map fun v => bothS 1 u v else none))
      (ov (if ta = true then (if ta = true then a.map nt else none).map nt else none)) (ov a)
      (ov (if (ta && (tb && tc)) = true then a.bind fun u => (if (tb && tc) = true then b.bind fun u => c.map fun v => bothS 1 u v else none).map fun v => bothS 0 u v else none))
      (ov (if ((ta && tb) && (ta && tc)) = true then (if (ta && tb) = true then a.bind fun u => b.map fun v => bothS 0 u v else none).bind fun u => (if (ta && tc) = true then a.bind fun u => c.map fun v => bothS 0 u v else none).map fun v => bothS 1 u v else none))
      (ov (if ta = true then a.map nt else none)) = some (.bool true, []) := by
  cases ta with
  | false =>
    cases tb <;> cases tc <;> cases a <;> rfl
  | true =>
    cases tb with
    | false =>
      rcases ha rfl with rfl | rfl | rfl | rfl <;> cases tc <;> rfl
    | true =>
      cases tc with
      | false => rcases ha rfl with rfl | rfl | rfl | rfl <;> rcases hb rfl with rfl | rfl | rfl | rfl <;> rfl
      | true => rcases ha rfl with rfl | rfl | rfl | rfl <;> rcases hb rfl with rfl | rfl | rfl | rfl <;> rcases hc rfl with rfl | rfl | rfl | rfl <;> rfl
def small1 (a : E) : Prop := cntE a ≤ 100 ∧ dep a ≤ 50
theorem logic_true {n : Nat} (hn : 2 ≤ n) {a b c : E} (ha : EOk a) (hb : EOk b) (hc : EOk c) {row : List V} (ho : ∀ v ∈ row, v.ok) (h10 : C n 10 [] = some (.bool true, []))
    (l1 : ∃ r : Int, C n 11 [.val a.g, .val (.int .i64 100)] = some (.int .i64 r, []) ∧ 0 ≤ r ∧ (r ≠ 0 → cntE a + r ≤ 100)) (l2 : ∃ r : Int, C n 11 [.val b.g, .val (.int .i64 100)] = some (.int .i64 r, []) ∧ 0 ≤ r ∧ (r ≠ 0 → cntE b + r ≤ 100)) (l3 : ∃ r : Int, C n 11 [.val c.g, .val (.int .i64 100)] = some (.int .i64 r, []) ∧ 0 ≤ r ∧ (r ≠ 0 → cntE c + r ≤ 100))
    (d1 : cntE a ≤ 100 → C n 19 [.val a.g] = some (.int .i64 (dep a), [])) (d2 : cntE b ≤ 100 → C n 19 [.val b.g] = some (.int .i64 (dep b), [])) (d3 : cntE c ≤ 100 → C n 19 [.val c.g] = some (.int .i64 (dep c), []))
    (hv : small1 a ∧ small1 b ∧ small1 c → ∀ x ∈ [opE sNot [opE sAnd [a, b]], opE sOr [opE sNot [a], opE sNot [b]], opE sNot [opE sNot [a]], a, opE sAnd [a, opE sOr [b, c]], opE sOr [opE sAnd [a, b], opE sAnd [a, c]], opE sNot [a]], C n 20 [.val x.g, .val (.sl (row.map V.g))] = some (ov (Rv row x))) :
    C (n + 1) 5 [.val a.g, .val b.g, .val c.g, .val (.sl (row.map V.g))] = some (.bool true, []) := by
  rw [f5_eq]
  refine bind_of h10 ?_
  refine grd_f rfl ?_
  obtain ⟨q1, e1, _, c1⟩ := l1
  obtain ⟨q2, e2, _, c2⟩ := l2
  obtain ⟨q3, e3, _, c3⟩ := l3
  refine bind_of e1 ?_
  refine grd fun g1 => ?_
  refine bind_of e2 ?_
  refine grd fun g2 => ?_
  refine bind_of e3 ?_
  refine grd fun g3 => ?_
  refine grd fun _ => ?_
  have k1 := c1 (show ¬ q1 = 0 from of_decide_eq_false g1)
  have k2 := c2 (show ¬ q2 = 0 from of_decide_eq_false g2)
  have k3 := c3 (show ¬ q3 = 0 from of_decide_eq_false g3)
  refine bind_of (d1 (by omega)) ?_
  refine grd fun g4 => ?_
  refine bind_of (d2 (by omega)) ?_
  refine grd fun g5 => ?_
  refine bind_of (d3 (by omega)) ?_
  refine grd fun g6 => ?_
  have m1 : ¬ 50 < (dep a : Int) := of_decide_eq_false g4
  have m2 : ¬ 50 < (dep b : Int) := of_decide_eq_false g5
  have m3 : ¬ 50 < (dep c : Int) := of_decide_eq_false g6
  have hv := hv ⟨⟨by omega, by omega⟩, ⟨by omega, by omega⟩, by omega, by omega⟩
  refine bind_of (op2_le (by omega) sAnd a b) ?_
  refine bind_of (op1_le (by omega) sNot _) ?_
  refine bind_of (hv _ (by simp)) ?_
  refine bind_of (op1_le (by omega) sNot a) ?_
  refine bind_of (op1_le (by omega) sNot b) ?_
  refine bind_of (op2_le (by omega) sOr _ _) ?_
  refine bind_of (hv _ (by simp)) ?_
  refine bind_of (op1_le (by omega) sNot a) ?_
  refine bind_of (op1_le (by omega) sNot _) ?_
  refine bind_of (hv _ (by simp)) ?_
  refine bind_of (hv a (by simp)) ?_
  refine bind_of (op2_le (by omega) sOr b c) ?_
  refine bind_of (op2_le (by omega) sAnd a _) ?_
  refine bind_of (hv _ (by simp)) ?_
  refine bind_of (op2_le (by omega) sAnd a b) ?_
  refine bind_of (op2_le (by omega) sAnd a c) ?_
  refine bind_of (op2_le (by omega) sOr _ _) ?_
  refine bind_of (hv _ (by simp)) ?_
  refine bind_of (op1_le (by omega) sNot a) ?_
  refine bind_of (hv _ (by simp)) ?_
  have o5 : (opn sOr = 5 ∧ (1 : Int) = 1) ∨ (opn sOr = 6 ∧ (1 : Int) = 0) := .inl ⟨rfl, rfl⟩
  have o6 : (opn sAnd = 5 ∧ (0 : Int) = 1) ∨ (opn sAnd = 6 ∧ (0 : Int) = 0) := .inr ⟨rfl, rfl⟩
  have := logic_tail (Rv row a) (Rv row b) (Rv row c) (Bt a) (Bt b) (Bt c) (R_tri ho ha) (R_tri ho hb) (R_tri ho hc)
  rw [← R_two row sAnd 0 o6 a b, ← R_not row a, ← R_not row b, ← R_two row sOr 1 o5 b c, ← R_two row sAnd 0 o6 a c, ← Bt_two sAnd (.inr rfl) a b, ← Bt_two sAnd (.inr rfl) a c, ← Bt_two sOr (.inl rfl) b c, ← R_not, ← R_two row sAnd 0 o6 a (opE sOr [b, c]), ← R_two row sOr 1 o5 (opE sAnd [a, b]) (opE sAnd [a, c])] at this
  rw [Bt_two sAnd (.inr rfl) a b, ← Bt_not a, ← Bt_not b, ← R_two row sOr 1 o5 (opE sNot [a]) (opE sNot [b]), ← R_not] at this
  exact this
theorem ExprLogic (xs : List G) (h : WGs tab Try.f5.params.toList xs) : ∃ n, C n 5 (xs.map A.val) = some (.bool true, []) := by
  rw [show Try.f5.params.toList = [26, 26, 26, 40] by kernel_rfl] at h
  match xs, h with
  | [a, b, c, r], ⟨wa, wb, wc, hr, _⟩ =>
    obtain ⟨a, ha, rfl⟩ := expr_of wa
    obtain ⟨b, hb, rfl⟩ := expr_of wb
    obtain ⟨c, hc, rfl⟩ := expr_of wc
    obtain ⟨row, ho, hlen, rfl⟩ := vs_of (show ty tab 40 = .sl 23 from rfl) hr
    have hv : Ev fun n => small1 a ∧ small1 b ∧ small1 c → ∀ x ∈ [opE sNot [opE sAnd [a, b]], opE sOr [opE sNot [a], opE sNot [b]], opE sNot [opE sNot [a]], a, opE sAnd [a, opE sOr [b, c]], opE sOr [opE sAnd [a, b], opE sAnd [a, c]], opE sNot [a]], C n 20 [.val x.g, .val (.sl (row.map V.g))] = some (ov (Rv row x)) := by
      refine Ev.imp fun hs => Ev.all _ fun x hx => ?_
      obtain ⟨⟨s1, s2⟩, ⟨s3, s4⟩, s5, s6⟩ := hs
      have n1 : sNot.length ≤ 100 := by decide
      have n2 : sAnd.length ≤ 100 := by decide
      have n3 : sOr.length ≤ 100 := by decide
      simp only [List.mem_cons, List.not_mem_nil, or_false] at hx
      rcases hx with rfl | rfl | rfl | rfl | rfl | rfl | rfl
      · exact value_eq (ok_op1 n1 (ok_op2 n2 ha hb)) (by simp only [dep, deps]; omega) (by simp only [cntE, cntEs]; omega) row ho
      · exact value_eq (ok_op2 n3 (ok_op1 n1 ha) (ok_op1 n1 hb)) (by simp only [dep, deps]; omega) (by simp only [cntE, cntEs]; omega) row ho
      · exact value_eq (ok_op1 n1 (ok_op1 n1 ha)) (by simp only [dep, deps]; omega) (by simp only [cntE, cntEs]; omega) row ho
      · exact value_eq ha (by omega) (by omega) row ho
      · exact value_eq (ok_op2 n2 ha (ok_op2 n3 hb hc)) (by simp only [dep, deps]; omega) (by simp only [cntE, cntEs]; omega) row ho
      · exact value_eq (ok_op2 n3 (ok_op2 n2 ha hb) (ok_op2 n2 ha hc)) (by simp only [dep, deps]; omega) (by simp only [cntE, cntEs]; omega) row ho
      · exact value_eq (ok_op1 n1 ha) (by simp only [dep, deps]; omega) (by simp only [cntE, cntEs]; omega) row ho
    have hd : ∀ x : E, EOk x → Ev fun n => cntE x ≤ 100 → C n 19 [.val x.g] = some (.int .i64 (dep x), []) := fun x hx => Ev.imp fun h => deep_eq x hx (by omega)
    obtain ⟨n, ⟨⟨⟨⟨h1, h2⟩, h3⟩, h4⟩, h5, h6⟩, ⟨h7, h8⟩, h9⟩ := ((((((light_eq a ha).and (light_eq b hb)).and (light_eq c hc)).and hv).and ((hd a ha).and (hd b hb)))).and (((hd c hc).and begun_ev).and (Ev.ge 10)) |>.ex
    exact ⟨n + 1, logic_true (by omega) ha hb hc ho h8 (h1 100 (by omega) (by omega)) (h2 100 (by omega) (by omega)) (h3 100 (by omega) (by omega)) h5 h6 h7 h4⟩
end Go.Proofs.Ytpmecpmankpcbaa.Pure
