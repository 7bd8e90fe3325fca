/- The law ExprNull over plain data. No conditions. -/
import Derived.Test.YtpmecpmankpcbaaVa8
namespace Go.Proofs.Ytpmecpmankpcbaa.Pure
open Go Go.Proofs Go.Proofs.Ytpmecpmankpcbaa.Rf
set_option linter.unusedVariables false
set_option linter.unusedSimpArgs false
attribute [local irreducible] C
/-- What ExprNull asks of the values. -/
def nullTail (t : G → Option R) (r6 r9 r13 r15 r18 r21 : R) : Option R := cnd ((!decide ((G.fld r6.1 1).toInt = (G.fld r9.1 1).toInt))) (some ((.bool (false)), [])) (cnd ((!decide ((G.fld r6.1 1).toInt = (G.fld r13.1 1).toInt))) (some ((.bool (false)), [])) (cnd ((!decide ((G.fld r15.1 1).toInt = (G.fld r18.1 1).toInt))) (some ((.bool (false)), [])) (cnd ((!decide ((G.fld r15.1 1).toInt = (G.fld r21.1 1).toInt))) (some ((.bool (false)), [])) (cnd (decide ((G.fld r6.1 1).toInt = 0)) (cnd ((!(decide ((G.fld (G.fld r6.1 0) 0).toInt = (G.fld (.tu [(.int .i64 0), (.int .i64 0), (.str [])]) 0).toInt) && (decide ((G.fld (G.fld r6.1 0) 1).toInt = (G.fld (.tu [(.int .i64 0), (.int .i64 0), (.str [])]) 1).toInt) && decide ((G.fld (G.fld r6.1 0) 2).toStr = (G.fld (.tu [(.int .i64 0), (.int .i64 0), (.str [])]) 2).toStr))))) (some ((.bool (false)), [])) (cnd ((!(decide ((G.fld (G.fld r9.1 0) 0).toInt = (G.fld (.tu [(.int .i64 0), (.int .i64 0), (.str [])]) 0).toInt) && (decide ((G.fld (G.fld r9.1 0) 1).toInt = (G.fld (.tu [(.int .i64 0), (.int .i64 0), (.str [])]) 1).toInt) && decide ((G.fld (G.fld r9.1 0) 2).toStr = (G.fld (.tu [(.int .i64 0), (.int .i64 0), (.str [])]) 2).toStr))))) (some ((.bool (false)), [])) ((t (G.fld r13.1 0)).bind fun r22 => cnd ((!r22.1.toBool)) (some ((.bool (false)), [])) (cnd ((!decide ((G.fld r15.1 1).toInt = 0))) (some ((.bool (true)), [])) ((t (G.fld r18.1 0)).bind fun r23 => cnd ((r23.1.toBool == decide ((G.fld (G.fld r15.1 0) 0).toInt = 0))) ((t (G.fld r21.1 0)).bind fun r24 => (t (G.fld r18.1 0)).bind fun r25 => some ((.bool ((!(r24.1.toBool == r25.1.toBool)))), [])) (some ((.bool (false)), []))))))) (cnd ((!decide ((G.fld r15.1 1).toInt = 0))) (some ((.bool (true)), [])) ((t (G.fld r18.1 0)).bind fun r26 => cnd ((r26.1.toBool == decide ((G.fld (G.fld r15.1 0) 0).toInt = 0))) ((t (G.fld r21.1 0)).bind fun r27 => (t (G.fld r18.1 0)).bind fun r28 => some ((.bool ((!(r27.1.toBool == r28.1.toBool)))), [])) (some ((.bool (false)), []))))))))
theorem null_tail (t : G → Option R) (ht : ∀ k n s, t (.tu [.int .i64 k, .int .i64 n, .str s]) = some (.bool (decide (k = 1 ∧ n = 1 ∧ s = [])), [])) (e1 ea : Int) (va : V) :
    nullTail t (vg (.z, e1)) (vg (.z, e1)) (vg (if e1 = 0 then (tr true, 0) else (.z, e1))) (vg (va, ea)) (vg (if ea = 0 then (tr (decide (va.k = 0)), 0) else (.z, ea))) (vg (if ea = 0 then (tr (!decide (va.k = 0)), 0) else (.z, ea))) = some (.bool true, []) := by
  by_cases h1 : e1 = 0 <;> by_cases h2 : ea = 0 <;> by_cases h3 : va.k = 0 <;> simp [nullTail, vg, V.g, V.z, tr, G.fld, G.parts, G.toInt, G.toStr, G.toBool, h1, h2, h3, ht, cnd]
def nullE : E := litE .z
theorem ty_null : tyE nullE = (0, 0) := by unfold nullE; rw [tyE, if_pos rfl, if_pos ⟨rfl, rfl, rfl⟩]; rfl
theorem ev_null (row : List V) : evE row nullE = (.z, 0) := by unfold nullE; rw [evE, if_pos rfl]
theorem opT_comm {k : Nat} (hk : 7 ≤ k) (x : Int) : opT k [x, 0] = opT k [0, x] := by
  unfold opT
  have a1 : ¬ k = 0 := by omega
  have a2 : ¬ k ≤ 2 := by omega
  have a3 : ¬ k = 3 := by omega
  have a4 : ¬ k = 4 := by omega
  have a5 : ¬ k ≤ 6 := by omega
  simp only [a1, a2, a3, a4, a5, if_false]
  by_cases h : k ≤ 11
  · rw [if_pos h, if_pos h]
    have : [x, 0].all (fitsI 2) = [0, x].all (fitsI 2) := by
      simp only [List.all_cons, List.all_nil]
      cases fitsI 2 x <;> rfl
    rw [this]
    rfl
  · rw [if_neg h, if_neg h]
    have : alikeI [x, 0] = alikeI [0, x] := by
      simp [alikeI]
    rw [this]
    rfl
theorem does_null {k : Nat} (hk : 7 ≤ k) (v : V) : doesN k [v, .z] = (.z, 0) ∧ doesN k [.z, v] = (.z, 0) := by
  match k, hk with
  | k + 7, _ =>
    constructor
    · show (if v.k = 0 then (V.z, 0) else if (V.z).k = 0 then (.z, 0) else _) = ((.z, 0) : V × Int)
      split
      · rfl
      · rfl
    · rfl
theorem op_null (row : List V) {s : List UInt8} (hs : 7 ≤ opn s) (a : E) : (evalS row (opE s [a, nullE])).1 = .z ∧ evalS row (opE s [nullE, a]) = evalS row (opE s [a, nullE]) := by
  have t1 : tyE (opE s [a, nullE]) = if (tyE a).2 = 0 then opT (opn s) [(tyE a).1, 0] else (0, (tyE a).2) := by rw [ty_op2, ty_null]; rfl
  have t2 : tyE (opE s [nullE, a]) = if (tyE a).2 = 0 then opT (opn s) [(tyE a).1, 0] else (0, (tyE a).2) := by rw [ty_op2, ty_null, opT_comm hs]; rfl
  have e1 : evE row (opE s [a, nullE]) = (.z, (evE row a).2) := by
    rw [ev_op2, ev_null]
    by_cases h : (evE row a).2 = 0
    · rw [if_pos h, if_pos rfl, (does_null hs _).1, h]
    · rw [if_neg h]
  have e2 : evE row (opE s [nullE, a]) = (.z, (evE row a).2) := by
    rw [ev_op2, ev_null]
    by_cases h : (evE row a).2 = 0
    · rw [if_pos rfl, if_pos h, (does_null hs _).2, h]
    · rw [if_pos rfl, if_neg h]
  unfold evalS
  rw [t1, t2, e1, e2]
  refine ⟨?_, rfl⟩
  repeat' split
  all_goals rfl
theorem op_is (row : List V) {s : List UInt8} {b : Bool} (hs : (s = [73, 83, 78, 85, 76, 76] ∧ b = false) ∨ (s = [78, 79, 84, 78, 85, 76, 76] ∧ b = true)) (a : E) : evalS row (opE s [a]) = if (evalS row a).2 = 0 then (tr (b != decide ((evalS row a).1.k = 0)), 0) else (.z, (evalS row a).2) := by
  have ho : ∀ k, opT (opn s) [k] = (1, 0) := by intro k; rcases hs with ⟨rfl, _⟩ | ⟨rfl, _⟩ <;> rfl
  have hd : ∀ v, doesN (opn s) [v] = (tr (b != decide (v.k = 0)), 0) := by
    intro v
    rcases hs with ⟨rfl, rfl⟩ | ⟨rfl, rfl⟩
    · show (tr (decide (v.k = 0)), (0 : Int)) = _
      simp
    · show (tr (!decide (v.k = 0)), (0 : Int)) = _
      simp
  unfold evalS
  rw [ty_op1, ev_op1, ho]
  by_cases h1 : (tyE a).2 = 0 <;> by_cases h2 : rowOk row = true <;> by_cases h3 : (evE row a).2 = 0 <;> simp [h1, h2, h3, hd]
abbrev sIs : List UInt8 := [73, 83, 78, 85, 76, 76]
abbrev sNn : List UInt8 := [78, 79, 84, 78, 85, 76, 76]
abbrev opsG : G := (.tu [(.str [43]), (.str [45]), (.str [42]), (.str [47]), (.str [37]), (.str [61]), (.str [60, 62]), (.str [60]), (.str [60, 61]), (.str [62]), (.str [62, 61])])
theorem ops_at : ∀ n : Nat, n < 11 → 7 ≤ opn (G.fld opsG n).toStr ∧ (G.fld opsG n).toStr.length ≤ 100 := by
  intro n hn
  match n, hn with
  | 0, _ => exact ⟨by decide, by decide⟩
  | 1, _ => exact ⟨by decide, by decide⟩
  | 2, _ => exact ⟨by decide, by decide⟩
  | 3, _ => exact ⟨by decide, by decide⟩
  | 4, _ => exact ⟨by decide, by decide⟩
  | 5, _ => exact ⟨by decide, by decide⟩
  | 6, _ => exact ⟨by decide, by decide⟩
  | 7, _ => exact ⟨by decide, by decide⟩
  | 8, _ => exact ⟨by decide, by decide⟩
  | 9, _ => exact ⟨by decide, by decide⟩
  | 10, _ => exact ⟨by decide, by decide⟩
  | n + 11, h => omega
theorem ix_ok (w : Int) : 0 ≤ Int.tmod (IntKind.wrap .i64 (Int.tmod w 11 + 11)) 11 ∧ Int.tmod (IntKind.wrap .i64 (Int.tmod w 11 + 11)) 11 < 11 := by
  have h : (w.tmod 11).natAbs = w.natAbs % 11 := Int.natAbs_tmod w 11
  have h2 : w.natAbs % 11 < 11 := Nat.mod_lt _ (by decide)
  rw [wr (by omega) (by omega)]
  exact ⟨Int.tmod_nonneg _ (by omega), Int.tmod_lt_of_pos _ (by decide)⟩
theorem null_true {n : Nat} (hn : 2 ≤ n) {a : E} (ha : EOk a) (w : G) {row : List V} (ho : ∀ v ∈ row, v.ok) (h10 : C n 10 [] = some (.bool true, []))
    (l1 : ∃ r : Int, C n 11 [.val a.g, .val (.int .i64 100)] = some (.int .i64 r, []) ∧ 0 ≤ r ∧ (r ≠ 0 → cntE a + r ≤ 100)) (d1 : cntE a ≤ 100 → C n 19 [.val a.g] = some (.int .i64 (dep a), []))
    (hv : cntE a ≤ 100 ∧ dep a ≤ 50 → ∀ s, 7 ≤ opn s → s.length ≤ 100 → s = (G.fld opsG (Int.tmod (IntKind.wrap .i64 (Int.tmod w.toInt 11 + 11)) 11).toNat).toStr → ∀ x ∈ [opE s [a, nullE], opE s [nullE, a], opE sIs [opE s [a, nullE]], a, opE sIs [a], opE sNn [a]], C n 15 [.val tbl, .val (.sl (row.map V.g)), .val x.g] = some (vg (evalS row x))) :
    C (n + 1) 8 [.val a.g, .val w, .val (.sl (row.map V.g))] = some (.bool true, []) := by
  rw [f8_eq]
  refine bind_of h10 ?_
  refine grd_f rfl ?_
  obtain ⟨q1, e1, _, c1⟩ := l1
  refine bind_of e1 ?_
  refine grd fun g1 => ?_
  have k1 := c1 (show ¬ q1 = 0 from of_decide_eq_false g1)
  refine bind_of (d1 (by omega)) ?_
  refine grd fun g4 => ?_
  have m1 : ¬ 50 < (dep a : Int) := of_decide_eq_false g4
  refine grd fun _ => ?_
  obtain ⟨x0, x1⟩ := ix_ok w.toInt
  refine grd_t (by rw [decide_eq_true x0, decide_eq_true x1]; rfl) ?_
  obtain ⟨o1, o2⟩ := ops_at (Int.tmod (IntKind.wrap .i64 (Int.tmod w.toInt 11 + 11)) 11).toNat (by omega)
  have hv := hv ⟨by omega, by omega⟩ _ o1 o2 rfl
  generalize (G.fld opsG (Int.tmod (IntKind.wrap .i64 (Int.tmod w.toInt 11 + 11)) 11).toNat).toStr = s at hv o1 o2 ⊢
  refine bind_of (lit_le (by omega) .z) ?_
  refine bind_of (table_le (by omega)) ?_
  refine bind_of (op2_le (by omega) s a nullE) ?_
  refine bind_of (hv _ (by simp)) ?_
  refine bind_of (table_le (by omega)) ?_
  refine bind_of (op2_le (by omega) s nullE a) ?_
  refine bind_of (hv _ (by simp)) ?_
  refine bind_of (table_le (by omega)) ?_
  refine bind_of (op2_le (by omega) s a nullE) ?_
  refine bind_of (op1_le (by omega) sIs _) ?_
  refine bind_of (hv _ (by simp)) ?_
  refine bind_of (table_le (by omega)) ?_
  refine bind_of (hv a (by simp)) ?_
  refine bind_of (table_le (by omega)) ?_
  refine bind_of (op1_le (by omega) sIs a) ?_
  refine bind_of (hv _ (by simp)) ?_
  refine bind_of (table_le (by omega)) ?_
  refine bind_of (op1_le (by omega) sNn a) ?_
  refine bind_of (hv _ (by simp)) ?_
  have ht : ∀ k m z, (fun g => C n 17 [.val g]) (.tu [.int .i64 k, .int .i64 m, .str z]) = some (.bool (decide (k = 1 ∧ m = 1 ∧ z = [])), []) := by
    intro k m z
    have := true_le hn ⟨k, m, z⟩
    refine Eq.trans this ?_
    have e : (⟨k, m, z⟩ : V) = tr true ↔ k = 1 ∧ m = 1 ∧ z = [] := by simp [tr]
    rw [decide_eq_decide.2 e]
  have key := null_tail (fun g => C n 17 [.val g]) ht (evalS row (opE s [a, nullE])).2 (evalS row a).2 (evalS row a).1
  obtain ⟨z1, z2⟩ := op_null row o1 a
  have i1 := op_is row (s := sIs) (.inl ⟨rfl, rfl⟩) (opE s [a, nullE])
  have i2 := op_is row (s := sIs) (.inl ⟨rfl, rfl⟩) a
  have i3 := op_is row (s := sNn) (.inr ⟨rfl, rfl⟩) a
  have y1 : evalS row (opE s [a, nullE]) = (.z, (evalS row (opE s [a, nullE])).2) := Prod.ext z1 rfl
  have i1' : evalS row (opE sIs [opE s [a, nullE]]) = if (evalS row (opE s [a, nullE])).2 = 0 then (tr true, 0) else (.z, (evalS row (opE s [a, nullE])).2) := by rw [i1, z1]; rfl
  simp only [Bool.false_bne] at i2
  simp only [Bool.true_bne] at i3
  have key' : nullTail (fun g => C n 17 [.val g]) (vg (evalS row (opE s [a, nullE]))) (vg (evalS row (opE s [nullE, a]))) (vg (evalS row (opE sIs [opE s [a, nullE]]))) (vg (evalS row a)) (vg (evalS row (opE sIs [a]))) (vg (evalS row (opE sNn [a]))) = some (.bool true, []) := by
    rw [i1', i2, i3, z2]
    have y2 : vg (evalS row (opE s [a, nullE])) = vg (.z, (evalS row (opE s [a, nullE])).2) := congrArg vg y1
    rw [y2]
    exact key
  exact key'
theorem ExprNull (xs : List G) (h : WGs tab Try.f8.params.toList xs) : ∃ n, C n 8 (xs.map A.val) = some (.bool true, []) := by
  rw [show Try.f8.params.toList = [26, 3, 40] by kernel_rfl] at h
  match xs, h with
  | [a, w, r], ⟨wa, _, hr, _⟩ =>
    obtain ⟨a, ha, rfl⟩ := expr_of wa
    obtain ⟨row, ho, hlen, rfl⟩ := vs_of (show ty tab 40 = .sl 23 from rfl) hr
    have ok0 : EOk nullE := ok_lit z_ok
    have hv : Ev fun n => cntE a ≤ 100 ∧ dep a ≤ 50 → ∀ s, 7 ≤ opn s → s.length ≤ 100 → s = (G.fld opsG (Int.tmod (IntKind.wrap .i64 (Int.tmod w.toInt 11 + 11)) 11).toNat).toStr → ∀ x ∈ [opE s [a, nullE], opE s [nullE, a], opE sIs [opE s [a, nullE]], a, opE sIs [a], opE sNn [a]], C n 15 [.val tbl, .val (.sl (row.map V.g)), .val x.g] = some (vg (evalS row x)) := by
      refine Ev.imp fun ⟨s1, s2⟩ => ?_
      have key : ∀ s, s.length ≤ 100 → Ev fun n => ∀ x ∈ [opE s [a, nullE], opE s [nullE, a], opE sIs [opE s [a, nullE]], a, opE sIs [a], opE sNn [a]], C n 15 [.val tbl, .val (.sl (row.map V.g)), .val x.g] = some (vg (evalS row x)) := by
        intro s o2
        refine Ev.all _ fun x hx => ?_
        have n1 : sIs.length ≤ 100 := by decide
        have n2 : sNn.length ≤ 100 := by decide
        simp only [List.mem_cons, List.not_mem_nil, or_false] at hx
        rcases hx with rfl | rfl | rfl | rfl | rfl | rfl
        · exact eval_eq (ok_op2 o2 ha ok0) (by simp only [dep, deps, nullE]; omega) (by simp only [cntE, cntEs, nullE]; omega) row ho
        · exact eval_eq (ok_op2 o2 ok0 ha) (by simp only [dep, deps, nullE]; omega) (by simp only [cntE, cntEs, nullE]; omega) row ho
        · exact eval_eq (ok_op1 n1 (ok_op2 o2 ha ok0)) (by simp only [dep, deps, nullE]; omega) (by simp only [cntE, cntEs, nullE]; omega) row ho
        · exact eval_eq ha (by omega) (by omega) row ho
        · exact eval_eq (ok_op1 n1 ha) (by simp only [dep, deps]; omega) (by simp only [cntE, cntEs]; omega) row ho
        · exact eval_eq (ok_op1 n2 ha) (by simp only [dep, deps]; omega) (by simp only [cntE, cntEs]; omega) row ho
      obtain ⟨o1, o2⟩ := ops_at (Int.tmod (IntKind.wrap .i64 (Int.tmod w.toInt 11 + 11)) 11).toNat (by have := ix_ok w.toInt; omega)
      exact (key _ o2).mono fun n h s _ _ hs => by subst hs; exact h
    obtain ⟨n, ⟨⟨h1, h2⟩, h3⟩, h4, h5⟩ := ((((light_eq a ha).and (Ev.imp fun (h : cntE a ≤ 100) => deep_eq a ha (by omega))).and hv).and (begun_ev.and (Ev.ge 10))).ex
    exact ⟨n + 1, null_true (by omega) ha w ho h4 (h1 100 (by omega) (by omega)) h2 h3⟩
end Go.Proofs.Ytpmecpmankpcbaa.Pure
