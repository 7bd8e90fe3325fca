/- The law ExprOrder over plain data. No conditions. -/
import Derived.Test.YtpmecpmankpcbaaVa8
namespace Go.Proofs.Ytpmecpmankpcbaa.Pure
open Go Go.Proofs Go.Proofs.Ytpmecpmankpcbaa.Rf
set_option linter.unusedVariables false
set_option linter.unusedSimpArgs false
attribute [local irreducible] C
/-- What ExprOrder asks of the values. -/
def orderTail (t : G → Option R) (na nb eq : Bool) (r4 r8 r12 r16 r20 : R) : Option R := cnd ((!((G.fld r4.1 1).toBool == (G.fld r8.1 1).toBool))) (some ((.bool (false)), [])) (cnd ((!((G.fld r4.1 1).toBool == (G.fld r12.1 1).toBool))) (some ((.bool (false)), [])) (cnd ((!((G.fld r4.1 1).toBool == (G.fld r16.1 1).toBool))) (some ((.bool (false)), [])) (cnd ((!((G.fld r4.1 1).toBool == (G.fld r20.1 1).toBool))) (some ((.bool (false)), [])) (cnd ((!(G.fld r4.1 1).toBool)) (cnd ((decide ((G.fld (G.fld r4.1 0) 0).toInt = (G.fld (.tu [(.int .i64 0), (.int .i64 0), (.str [])]) 0).toInt) && (decide ((G.fld (G.fld r4.1 0) 1).toInt = (G.fld (.tu [(.int .i64 0), (.int .i64 0), (.str [])]) 1).toInt) && decide ((G.fld (G.fld r4.1 0) 2).toStr = (G.fld (.tu [(.int .i64 0), (.int .i64 0), (.str [])]) 2).toStr)))) (cnd ((decide ((G.fld (G.fld r12.1 0) 0).toInt = (G.fld (.tu [(.int .i64 0), (.int .i64 0), (.str [])]) 0).toInt) && (decide ((G.fld (G.fld r12.1 0) 1).toInt = (G.fld (.tu [(.int .i64 0), (.int .i64 0), (.str [])]) 1).toInt) && decide ((G.fld (G.fld r12.1 0) 2).toStr = (G.fld (.tu [(.int .i64 0), (.int .i64 0), (.str [])]) 2).toStr)))) (some ((.bool ((decide ((G.fld (G.fld r16.1 0) 0).toInt = (G.fld (.tu [(.int .i64 0), (.int .i64 0), (.str [])]) 0).toInt) && (decide ((G.fld (G.fld r16.1 0) 1).toInt = (G.fld (.tu [(.int .i64 0), (.int .i64 0), (.str [])]) 1).toInt) && decide ((G.fld (G.fld r16.1 0) 2).toStr = (G.fld (.tu [(.int .i64 0), (.int .i64 0), (.str [])]) 2).toStr))))), [])) (some ((.bool (false)), []))) (some ((.bool (false)), []))) (cnd (na) (cnd ((decide ((G.fld (G.fld r4.1 0) 0).toInt = (G.fld (.tu [(.int .i64 0), (.int .i64 0), (.str [])]) 0).toInt) && (decide ((G.fld (G.fld r4.1 0) 1).toInt = (G.fld (.tu [(.int .i64 0), (.int .i64 0), (.str [])]) 1).toInt) && decide ((G.fld (G.fld r4.1 0) 2).toStr = (G.fld (.tu [(.int .i64 0), (.int .i64 0), (.str [])]) 2).toStr)))) (cnd ((decide ((G.fld (G.fld r12.1 0) 0).toInt = (G.fld (.tu [(.int .i64 0), (.int .i64 0), (.str [])]) 0).toInt) && (decide ((G.fld (G.fld r12.1 0) 1).toInt = (G.fld (.tu [(.int .i64 0), (.int .i64 0), (.str [])]) 1).toInt) && decide ((G.fld (G.fld r12.1 0) 2).toStr = (G.fld (.tu [(.int .i64 0), (.int .i64 0), (.str [])]) 2).toStr)))) (some ((.bool ((decide ((G.fld (G.fld r16.1 0) 0).toInt = (G.fld (.tu [(.int .i64 0), (.int .i64 0), (.str [])]) 0).toInt) && (decide ((G.fld (G.fld r16.1 0) 1).toInt = (G.fld (.tu [(.int .i64 0), (.int .i64 0), (.str [])]) 1).toInt) && decide ((G.fld (G.fld r16.1 0) 2).toStr = (G.fld (.tu [(.int .i64 0), (.int .i64 0), (.str [])]) 2).toStr))))), [])) (some ((.bool (false)), []))) (some ((.bool (false)), []))) (cnd (nb) (cnd ((decide ((G.fld (G.fld r4.1 0) 0).toInt = (G.fld (.tu [(.int .i64 0), (.int .i64 0), (.str [])]) 0).toInt) && (decide ((G.fld (G.fld r4.1 0) 1).toInt = (G.fld (.tu [(.int .i64 0), (.int .i64 0), (.str [])]) 1).toInt) && decide ((G.fld (G.fld r4.1 0) 2).toStr = (G.fld (.tu [(.int .i64 0), (.int .i64 0), (.str [])]) 2).toStr)))) (cnd ((decide ((G.fld (G.fld r12.1 0) 0).toInt = (G.fld (.tu [(.int .i64 0), (.int .i64 0), (.str [])]) 0).toInt) && (decide ((G.fld (G.fld r12.1 0) 1).toInt = (G.fld (.tu [(.int .i64 0), (.int .i64 0), (.str [])]) 1).toInt) && decide ((G.fld (G.fld r12.1 0) 2).toStr = (G.fld (.tu [(.int .i64 0), (.int .i64 0), (.str [])]) 2).toStr)))) (some ((.bool ((decide ((G.fld (G.fld r16.1 0) 0).toInt = (G.fld (.tu [(.int .i64 0), (.int .i64 0), (.str [])]) 0).toInt) && (decide ((G.fld (G.fld r16.1 0) 1).toInt = (G.fld (.tu [(.int .i64 0), (.int .i64 0), (.str [])]) 1).toInt) && decide ((G.fld (G.fld r16.1 0) 2).toStr = (G.fld (.tu [(.int .i64 0), (.int .i64 0), (.str [])]) 2).toStr))))), [])) (some ((.bool (false)), []))) (some ((.bool (false)), []))) (cnd ((decide ((G.fld (G.fld r4.1 0) 0).toInt = (G.fld (G.fld r8.1 0) 0).toInt) && (decide ((G.fld (G.fld r4.1 0) 1).toInt = (G.fld (G.fld r8.1 0) 1).toInt) && decide ((G.fld (G.fld r4.1 0) 2).toStr = (G.fld (G.fld r8.1 0) 2).toStr)))) ((t (G.fld r12.1 0)).bind fun r21 => (t (G.fld r16.1 0)).bind fun r22 => cnd ((!(r21.1.toBool == r22.1.toBool))) ((t (G.fld r20.1 0)).bind fun r23 => (t (G.fld r4.1 0)).bind fun r24 => cnd (r24.1.toBool) (cnd ((r23.1.toBool == true)) ((t (G.fld r4.1 0)).bind fun r25 => cnd (r25.1.toBool) ((t (G.fld r12.1 0)).bind fun r26 => cnd ((!r26.1.toBool)) ((t (G.fld r12.1 0)).bind fun r27 => some ((.bool ((r27.1.toBool == eq))), [])) (some ((.bool (false)), []))) ((t (G.fld r12.1 0)).bind fun r28 => some ((.bool ((r28.1.toBool == eq))), []))) (some ((.bool (false)), []))) ((t (G.fld r12.1 0)).bind fun r29 => cnd ((r23.1.toBool == r29.1.toBool)) ((t (G.fld r4.1 0)).bind fun r30 => cnd (r30.1.toBool) ((t (G.fld r12.1 0)).bind fun r31 => cnd ((!r31.1.toBool)) ((t (G.fld r12.1 0)).bind fun r32 => some ((.bool ((r32.1.toBool == eq))), [])) (some ((.bool (false)), []))) ((t (G.fld r12.1 0)).bind fun r33 => some ((.bool ((r33.1.toBool == eq))), []))) (some ((.bool (false)), [])))) (some ((.bool (false)), []))) (some ((.bool (false)), [])))))))))
theorem order_tail (t : G → Option R) (ht : ∀ k n s, t (.tu [.int .i64 k, .int .i64 n, .str s]) = some (.bool (decide (k = 1 ∧ n = 1 ∧ s = [])), [])) (ok na nb p q : Bool) (hpq : (p && q) = false) :
    orderTail t na nb q (ov (if ok = true then some (if (na || nb) = true then .z else tr p) else none)) (ov (if ok = true then some (if (na || nb) = true then .z else tr p) else none)) (ov (if ok = true then some (if (na || nb) = true then .z else tr q) else none)) (ov (if ok = true then some (if (na || nb) = true then .z else tr (!q)) else none)) (ov (if ok = true then some (if (na || nb) = true then .z else tr (p || q)) else none)) = some (.bool true, []) := by
  cases ok <;> cases na <;> cases nb <;> cases p <;> cases q <;> first | (exact absurd hpq (by decide)) | simp [orderTail, ov, V.g, V.z, tr, G.fld, G.parts, G.toInt, G.toStr, G.toBool, ht, cnd]
theorem cmpI_neg (a b : Int) : cmpI b a = -cmpI a b := by
  unfold cmpI
  by_cases h : a < b
  · rw [if_pos h, if_neg (by omega), if_pos h]; rfl
  · rw [if_neg h]
    by_cases h2 : b < a
    · rw [if_pos h2, if_neg h, if_pos h2]
    · rw [if_neg h2, if_neg h, if_neg h2]; rfl
theorem cmpI_zero {a b : Int} : cmpI a b = 0 ↔ a = b := by
  unfold cmpI
  by_cases h : a < b
  · rw [if_pos h]; constructor <;> intro e <;> omega
  · rw [if_neg h]
    by_cases h2 : b < a
    · rw [if_pos h2]; constructor <;> intro e <;> omega
    · rw [if_neg h2]; constructor <;> intro e <;> omega
theorem cmpB_neg : ∀ (a b : List UInt8), cmpB b a = -cmpB a b
  | [], [] => rfl
  | [], _ :: _ => rfl
  | _ :: _, [] => rfl
  | x :: a, y :: b => by
    have ih := cmpB_neg a b
    unfold cmpB at ih ⊢
    simp only [Lib.compareBytes]
    by_cases h1 : x < y
    · have h2 : ¬ y < x := fun h => absurd (UInt8.lt_trans h1 h) (by simp)
      rw [if_neg h2, if_pos h1, if_pos h1]; rfl
    · by_cases h2 : y < x
      · rw [if_pos h2, if_neg h1, if_pos h2]
      · rw [if_neg h2, if_neg h1, if_neg h1, if_neg h2, ih]
theorem cmpB_zero (a b : List UInt8) : cmpB a b = 0 ↔ a = b := by
  rw [cmpB_tri]
  by_cases h : a = b
  · simp [h]
  · rw [if_neg h]
    cases Op.bytesLess a b <;> simp [h]
theorem cmpV_neg (a b : V) : cmpV b a = -cmpV a b := by
  unfold cmpV
  rw [cmpI_neg a.k b.k, cmpI_neg a.n b.n, cmpB_neg a.s b.s]
  by_cases h : cmpI a.k b.k = 0 <;> by_cases h2 : cmpI a.n b.n = 0 <;> simp [h, h2]
theorem cmpV_zero (a b : V) : cmpV a b = 0 ↔ (a.k = b.k ∧ a.n = b.n ∧ a.s = b.s) := by
  unfold cmpV
  by_cases h : cmpI a.k b.k = 0
  · rw [if_neg (by rw [h]; simp)]
    have h' := cmpI_zero.1 h
    by_cases h2 : cmpI a.n b.n = 0
    · rw [if_neg (by rw [h2]; simp), cmpB_zero]
      have h2' := cmpI_zero.1 h2
      exact ⟨fun e => ⟨h', h2', e⟩, fun e => e.2.2⟩
    · rw [if_pos h2]
      exact ⟨fun e => absurd e h2, fun e => absurd (cmpI_zero.2 e.2.1) h2⟩
  · rw [if_pos h]
    exact ⟨fun e => absurd e h, fun e => absurd (cmpI_zero.2 e.1) h⟩
def okAB (a b : V) : Bool := may a && may b && alikeI [a.k, b.k]
theorem okAB_comm (a b : V) : okAB b a = okAB a b := by
  unfold okAB
  have : alikeI [b.k, a.k] = alikeI [a.k, b.k] := by
    simp only [alikeI, List.getD_cons_zero, List.getD_cons_succ]
    rw [show decide (b.k = a.k) = decide (a.k = b.k) from decide_eq_decide.2 ⟨Eq.symm, Eq.symm⟩, Bool.or_comm (decide (b.k = 0))]
  rw [this, Bool.and_comm (may b)]
theorem ty_lit (a : V) : tyE (litE a) = if may a = true then (a.k, 0) else (0, 9) := by
  rw [tyE, if_pos rfl]
  cases h : may a
  · rw [if_neg (by simp), if_neg (by simp)]
  · rw [if_pos ⟨rfl, rfl, rfl⟩, if_pos rfl]
theorem ev_lit (row : List V) (a : V) : evE row (litE a) = (a, 0) := by rw [evE, if_pos rfl]
theorem R_cmp (s : List UInt8) (hs : 12 ≤ opn s) (a b : V) : Rv [.z, .z, .z] (opE s [litE a, litE b]) = if okAB a b = true then some (if (decide (a.k = 0) || decide (b.k = 0)) = true then .z else tr (holdsN (opn s) (cmpV a b))) else none := by
  have ho : ∀ x y, opT (opn s) [x, y] = toldT true (alikeI [x, y]) 1 := by
    intro x y
    unfold opT
    have a1 : ¬ opn s = 0 := by omega
    have a2 : ¬ opn s ≤ 2 := by omega
    have a3 : ¬ opn s = 3 := by omega
    have a4 : ¬ opn s = 4 := by omega
    have a5 : ¬ opn s ≤ 6 := by omega
    have a6 : ¬ opn s ≤ 11 := by omega
    simp only [a1, a2, a3, a4, a5, a6, if_false]
    rfl
  have hd : doesN (opn s) [a, b] = (if (decide (a.k = 0) || decide (b.k = 0)) = true then .z else tr (holdsN (opn s) (cmpV a b)), 0) := by
    generalize opn s = k at hs ⊢
    match k, hs with
    | k + 12, _ =>
      show (if a.k = 0 then (V.z, (0 : Int)) else if b.k = 0 then (V.z, 0) else if k + 12 < 12 then num (reckN (k + 12) a.n b.n) else (tr (holdsN (k + 12) (cmpV a b)), 0)) = _
      rw [if_neg (show ¬ k + 12 < 12 by omega)]
      by_cases h1 : a.k = 0 <;> by_cases h2 : b.k = 0 <;> simp [h1, h2]
  have hr : rowOk [.z, .z, .z] = true := rfl
  rw [Rv_of, ty_op2, ty_lit, ty_lit, ev_op2, ev_lit, ev_lit]
  unfold okAB
  cases h1 : may a <;> cases h2 : may b <;> cases h3 : alikeI [a.k, b.k] <;> simp [hr, ho, toldT, h3, hd]
theorem order_true {n : Nat} (hn : 2 ≤ n) {a b : V} (r : G) (h10 : C n 10 [] = some (.bool true, []))
    (hv : ∀ x ∈ [opE [60] [litE a, litE b], opE [62] [litE b, litE a], opE [61] [litE a, litE b], opE [60, 62] [litE a, litE b], opE [60, 61] [litE a, litE b]], C n 20 [.val x.g, .val (.sl ([V.z, V.z, V.z].map V.g))] = some (ov (Rv [V.z, V.z, V.z] x))) :
    C (n + 1) 6 [.val a.g, .val b.g, .val r] = some (.bool true, []) := by
  rw [f6_eq]
  refine bind_of h10 ?_
  refine grd_f rfl ?_
  refine bind_of (lit_le (by omega) a) ?_
  refine bind_of (lit_le (by omega) b) ?_
  refine bind_of (op2_le (by omega) [60] (litE a) (litE b)) ?_
  refine bind_of (hv _ (by simp)) ?_
  refine bind_of (lit_le (by omega) b) ?_
  refine bind_of (lit_le (by omega) a) ?_
  refine bind_of (op2_le (by omega) [62] (litE b) (litE a)) ?_
  refine bind_of (hv _ (by simp)) ?_
  refine bind_of (lit_le (by omega) a) ?_
  refine bind_of (lit_le (by omega) b) ?_
  refine bind_of (op2_le (by omega) [61] (litE a) (litE b)) ?_
  refine bind_of (hv _ (by simp)) ?_
  refine bind_of (lit_le (by omega) a) ?_
  refine bind_of (lit_le (by omega) b) ?_
  refine bind_of (op2_le (by omega) [60, 62] (litE a) (litE b)) ?_
  refine bind_of (hv _ (by simp)) ?_
  refine bind_of (lit_le (by omega) a) ?_
  refine bind_of (lit_le (by omega) b) ?_
  refine bind_of (op2_le (by omega) [60, 61] (litE a) (litE b)) ?_
  refine bind_of (hv _ (by simp)) ?_
  have ht : ∀ k m z, (fun g => C n 17 [.val g]) (.tu [.int .i64 k, .int .i64 m, .str z]) = some (.bool (decide (k = 1 ∧ m = 1 ∧ z = [])), []) := by
    intro k m z
    have := true_le hn ⟨k, m, z⟩
    refine Eq.trans this ?_
    have e : (⟨k, m, z⟩ : V) = tr true ↔ k = 1 ∧ m = 1 ∧ z = [] := by simp [tr]
    rw [decide_eq_decide.2 e]
  have key := order_tail (fun g => C n 17 [.val g]) ht (okAB a b) (decide (a.k = 0)) (decide (b.k = 0)) (decide (cmpV a b < 0)) (decide (cmpV a b = 0)) (by
    by_cases h : cmpV a b = 0
    · rw [decide_eq_false (show ¬ cmpV a b < 0 by omega)]; rfl
    · rw [decide_eq_false h]; simp)
  have x4 := R_cmp [60] (by decide) a b
  have x8 := R_cmp [62] (by decide) b a
  have x12 := R_cmp [61] (by decide) a b
  have x16 := R_cmp [60, 62] (by decide) a b
  have x20 := R_cmp [60, 61] (by decide) a b
  rw [okAB_comm a b, Bool.or_comm (decide (b.k = 0)), show holdsN (opn [62]) (cmpV b a) = decide (cmpV a b < 0) by
    show decide (0 < cmpV b a) = _
    rw [cmpV_neg a b]
    exact decide_eq_decide.2 (by omega)] at x8
  rw [show holdsN (opn [60, 61]) (cmpV a b) = (decide (cmpV a b < 0) || decide (cmpV a b = 0)) by
    show decide (cmpV a b ≤ 0) = _
    rw [← Bool.decide_or]
    exact decide_eq_decide.2 (by omega)] at x20
  have key' : orderTail (fun g => C n 17 [.val g]) (decide (a.k = 0)) (decide (b.k = 0)) (decide (a.k = b.k) && (decide (a.n = b.n) && decide (a.s = b.s))) (ov (Rv [V.z, V.z, V.z] (opE [60] [litE a, litE b]))) (ov (Rv [V.z, V.z, V.z] (opE [62] [litE b, litE a]))) (ov (Rv [V.z, V.z, V.z] (opE [61] [litE a, litE b]))) (ov (Rv [V.z, V.z, V.z] (opE [60, 62] [litE a, litE b]))) (ov (Rv [V.z, V.z, V.z] (opE [60, 61] [litE a, litE b]))) = some (.bool true, []) := by
    rw [x4, x8, x12, x16, x20, ← Bool.decide_and, ← Bool.decide_and, ← decide_eq_decide.2 (cmpV_zero a b)]
    exact key
  exact key'
theorem ExprOrder (xs : List G) (h : WGs tab Try.f6.params.toList xs) : ∃ n, C n 6 (xs.map A.val) = some (.bool true, []) := by
  rw [show Try.f6.params.toList = [23, 23, 40] by kernel_rfl] at h
  match xs, h with
  | [a, b, r], ⟨wa, wb, _, _⟩ =>
    obtain ⟨a, ha, rfl⟩ := v_of wa
    obtain ⟨b, hb, rfl⟩ := v_of wb
    have ho : ∀ v ∈ [V.z, V.z, V.z], v.ok := by
      intro v hv
      simp only [List.mem_cons, List.not_mem_nil, or_false] at hv
      rcases hv with rfl | rfl | rfl <;> exact z_ok
    have hv : Ev fun n => ∀ x ∈ [opE [60] [litE a, litE b], opE [62] [litE b, litE a], opE [61] [litE a, litE b], opE [60, 62] [litE a, litE b], opE [60, 61] [litE a, litE b]], C n 20 [.val x.g, .val (.sl ([V.z, V.z, V.z].map V.g))] = some (ov (Rv [V.z, V.z, V.z] x)) := by
      refine Ev.all _ fun x hx => ?_
      have key : ∀ s, s.length ≤ 100 → ∀ u v : V, u.ok → v.ok → Ev fun n => C n 20 [.val (opE s [litE u, litE v]).g, .val (.sl ([V.z, V.z, V.z].map V.g))] = some (ov (Rv [V.z, V.z, V.z] (opE s [litE u, litE v]))) := fun s hs u v hu hv =>
        value_eq (ok_op2 hs (ok_lit hu) (ok_lit hv)) (by simp only [dep, deps]; omega) (by simp only [cntE, cntEs]; omega) _ ho
      simp only [List.mem_cons, List.not_mem_nil, or_false] at hx
      rcases hx with rfl | rfl | rfl | rfl | rfl
      · exact key _ (by decide) _ _ ha hb
      · exact key _ (by decide) _ _ hb ha
      · exact key _ (by decide) _ _ ha hb
      · exact key _ (by decide) _ _ ha hb
      · exact key _ (by decide) _ _ ha hb
    obtain ⟨n, ⟨h1, h2⟩, h3⟩ := ((hv.and begun_ev).and (Ev.ge 10)).ex
    exact ⟨n + 1, order_true (by omega) r h2 h1⟩
end Go.Proofs.Ytpmecpmankpcbaa.Pure
