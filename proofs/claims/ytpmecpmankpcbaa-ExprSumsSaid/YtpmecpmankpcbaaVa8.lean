/- Values of expressions, with what is no value left out; the laws of three-valued logic. No conditions. -/
import Derived.Test.YtpmecpmankpcbaaVa7
namespace Go.Proofs.Ytpmecpmankpcbaa.Pure
open Go Go.Proofs Go.Proofs.Ytpmecpmankpcbaa.Rf
set_option linter.unusedVariables false
set_option linter.unusedSimpArgs false
attribute [local irreducible] C
theorem Ev.imp {P : Prop} {q : Nat → Prop} (h : P → Ev q) : Ev fun n => P → q n := by
  by_cases hp : P
  · obtain ⟨N, hN⟩ := h hp
    exact ⟨N, fun n hn _ => hN n hn⟩
  · exact ⟨0, fun n _ h => absurd h hp⟩
theorem grd {b : Bool} {x y : Option R} (h : b = false → x = y) : cnd b y x = y := by cases b with
  | true => rfl
  | false => exact h rfl
theorem grd_f {b : Bool} {x y z : Option R} (hb : b = false) (h : x = z) : cnd b y x = z := by subst hb; exact h
theorem grd_t {b : Bool} {x y z : Option R} (hb : b = true) (h : y = z) : cnd b y x = z := by subst hb; exact h
theorem begun_ev : Ev fun n => C n 10 [] = some (.bool true, []) := Ev.ups 40 (p := fun n => C n 10 [] = some (.bool true, [])) (Ev.of fun n => begun n)
abbrev opE (s : List UInt8) (l : List E) : E := .mk 3 s .z l
abbrev litE (v : V) : E := .mk 1 [] v []
theorem op_le {n : Nat} (hn : 1 ≤ n) (s : List UInt8) (l : List E) : C n 21 [.val (.str s), .val (.sl (l.map E.g))] = some ((opE s l).g, []) := at_le (p := fun n => C n 21 [.val (.str s), .val (.sl (l.map E.g))] = some ((opE s l).g, [])) hn fun m => by rw [f21_eq, g_mk]; rfl
theorem op1_le {n : Nat} (hn : 1 ≤ n) (s : List UInt8) (a : E) : C n 21 [.val (.str s), .val (.sl [a.g])] = some ((opE s [a]).g, []) := op_le hn s [a]
theorem op2_le {n : Nat} (hn : 1 ≤ n) (s : List UInt8) (a b : E) : C n 21 [.val (.str s), .val (.sl [a.g, b.g])] = some ((opE s [a, b]).g, []) := op_le hn s [a, b]
theorem lit_le {n : Nat} (hn : 1 ≤ n) (v : V) : C n 22 [.val v.g] = some ((litE v).g, []) := at_le (p := fun n => C n 22 [.val v.g] = some ((litE v).g, [])) hn fun m => by rw [f22_eq, g_mk]; rfl
theorem ok_op {s : List UInt8} {l : List E} (hs : s.length ≤ 100) (hl : l.length ≤ 100) (h : ∀ x ∈ l, EOk x) : EOk (opE s l) := .mk (by decide) (by unfold maxLen; omega) z_ok (by unfold maxLen; omega) h
theorem ok_op1 {s : List UInt8} {a : E} (hs : s.length ≤ 100) (h : EOk a) : EOk (opE s [a]) := ok_op hs (by simp) fun x hx => by
  rcases List.mem_cons.1 hx with rfl | hx
  · exact h
  · cases hx
theorem ok_op2 {s : List UInt8} {a b : E} (hs : s.length ≤ 100) (h : EOk a) (g : EOk b) : EOk (opE s [a, b]) := ok_op hs (by simp) fun x hx => by
  rcases List.mem_cons.1 hx with rfl | hx
  · exact h
  · rcases List.mem_cons.1 hx with rfl | hx
    · exact g
    · cases hx
theorem ok_lit {v : V} (hv : v.ok) : EOk (litE v) := .mk (by decide) (Nat.zero_le _) hv (Nat.zero_le _) fun x hx => by cases hx
/-- An expression's value; none, if it has none. -/
def Rv (row : List V) (e : E) : Option V := if (evalS row e).2 = 0 then some (evalS row e).1 else none
def ov : Option V → R
  | none => (.tu [V.z.g, .bool false], [])
  | some v => (.tu [v.g, .bool true], [])
theorem evalS_err {row : List V} (ho : ∀ v ∈ row, v.ok) {e : E} (he : EOk e) (h : (evalS row e).2 ≠ 0) : (evalS row e).1 = .z := by
  unfold evalS at h ⊢
  by_cases h1 : (tyE e).2 = 0
  · rw [if_pos h1] at h ⊢
    by_cases h2 : rowOk row = true
    · rw [if_pos h2] at h ⊢
      exact ((sound h2 ho e he h1).2 h).1
    · rw [if_neg h2]
  · rw [if_neg h1]
theorem value_eq {e : E} (he : EOk e) (hd : dep e ≤ 64) (hc : cntE e ≤ 4096) (row : List V) (ho : ∀ v ∈ row, v.ok) : Ev fun n => C n 20 [.val e.g, .val (.sl (row.map V.g))] = some (ov (Rv row e)) := by
  obtain ⟨N, hN⟩ := eval_eq he hd hc row ho
  refine Ev.up ⟨N + 1, fun n hn => ?_⟩
  show C (n + 1) 20 [.val e.g, .val (.sl (row.map V.g))] = some (ov (Rv row e))
  rw [f20_eq]
  refine bind_of (table_le (by omega)) ?_
  refine bind_of (hN n (by omega)) ?_
  show some (G.tu [(evalS row e).1.g, .bool (decide ((evalS row e).2 = 0))], ([] : List G)) = _
  unfold Rv
  by_cases h : (evalS row e).2 = 0
  · rw [if_pos h, decide_eq_true h]; rfl
  · rw [if_neg h, decide_eq_false h, evalS_err ho he h]; rfl
/-! ## logic -/
def Bt (e : E) : Bool := decide ((tyE e).2 = 0) && fitsI 1 (tyE e).1
def nt (v : V) : V := if v.k = 0 then .z else tr (!decide (v = tr true))
abbrev sNot : List UInt8 := [78, 79, 84]
abbrev sAnd : List UInt8 := [65, 78, 68]
abbrev sOr : List UInt8 := [79, 82]
theorem ty_op1 (s : List UInt8) (a : E) : tyE (opE s [a]) = if (tyE a).2 = 0 then opT (opn s) [(tyE a).1] else (0, (tyE a).2) := by
  have e : tyEs [a] = if (tyE a).2 = 0 then ([(tyE a).1], 0) else ([], (tyE a).2) := by
    rw [tyEs, tyEs]; rfl
  rw [tyE, e]
  by_cases h : (tyE a).2 = 0
  · rw [if_pos h, if_pos h]; rfl
  · rw [if_neg h, if_neg h, if_neg (by decide), if_neg (by decide), if_pos rfl]
    unfold tyOp
    rw [if_neg h]
theorem ty_op2 (s : List UInt8) (a b : E) : tyE (opE s [a, b]) = if (tyE a).2 = 0 then (if (tyE b).2 = 0 then opT (opn s) [(tyE a).1, (tyE b).1] else (0, (tyE b).2)) else (0, (tyE a).2) := by
  have e : tyEs [a, b] = if (tyE a).2 = 0 then (if (tyE b).2 = 0 then ([(tyE a).1, (tyE b).1], 0) else ([], (tyE b).2)) else ([], (tyE a).2) := by
    rw [tyEs, tyEs, tyEs]
    by_cases g : (tyE a).2 = 0 <;> by_cases h : (tyE b).2 = 0 <;> simp [g, h]
  rw [tyE, e, if_neg (by decide), if_neg (by decide), if_pos rfl]
  unfold tyOp
  by_cases h : (tyE a).2 = 0
  · rw [if_pos h, if_pos h]
    by_cases g : (tyE b).2 = 0
    · rw [if_pos g, if_pos g, if_pos rfl, if_pos rfl]
    · rw [if_neg g, if_neg g, if_neg g]
  · rw [if_neg h, if_neg h, if_neg h]
theorem ev_op1 (row : List V) (s : List UInt8) (a : E) : evE row (opE s [a]) = if (evE row a).2 = 0 then doesN (opn s) [(evE row a).1] else (.z, (evE row a).2) := by
  have e : evEs row [a] = if (evE row a).2 = 0 then ([(evE row a).1], 0) else ([], (evE row a).2) := by
    rw [evEs, evEs]; rfl
  rw [evE, e, if_neg (by decide), if_neg (by decide)]
  unfold evOp
  by_cases h : (evE row a).2 = 0
  · rw [if_pos h, if_pos h, if_pos rfl]
  · rw [if_neg h, if_neg h, if_neg h]
theorem ev_op2 (row : List V) (s : List UInt8) (a b : E) : evE row (opE s [a, b]) = if (evE row a).2 = 0 then (if (evE row b).2 = 0 then doesN (opn s) [(evE row a).1, (evE row b).1] else (.z, (evE row b).2)) else (.z, (evE row a).2) := by
  have e : evEs row [a, b] = if (evE row a).2 = 0 then (if (evE row b).2 = 0 then ([(evE row a).1, (evE row b).1], 0) else ([], (evE row b).2)) else ([], (evE row a).2) := by
    rw [evEs, evEs, evEs]
    by_cases g : (evE row a).2 = 0 <;> by_cases h : (evE row b).2 = 0 <;> simp [g, h]
  rw [evE, e, if_neg (by decide), if_neg (by decide)]
  unfold evOp
  by_cases h : (evE row a).2 = 0
  · rw [if_pos h, if_pos h]
    by_cases g : (evE row b).2 = 0
    · rw [if_pos g, if_pos g, if_pos rfl]
    · rw [if_neg g, if_neg g, if_neg g]
  · rw [if_neg h, if_neg h, if_neg h]
theorem Rv_of (row : List V) (e : E) : Rv row e = if (tyE e).2 = 0 ∧ rowOk row = true ∧ (evE row e).2 = 0 then some (evE row e).1 else none := by
  unfold Rv evalS
  by_cases h1 : (tyE e).2 = 0
  · rw [if_pos h1]
    by_cases h2 : rowOk row = true
    · rw [if_pos h2]
      by_cases h3 : (evE row e).2 = 0
      · rw [if_pos h3, if_pos ⟨h1, h2, h3⟩]
      · rw [if_neg h3, if_neg (by simp [h3])]
    · rw [if_neg h2, if_neg (by decide), if_neg (by simp [h2])]
  · rw [if_neg h1, if_neg h1, if_neg (by simp [h1])]
theorem Bt_iff (e : E) : Bt e = true ↔ (tyE e).2 = 0 ∧ fitsI 1 (tyE e).1 = true := by simp [Bt]
theorem ty_not (a : E) : (Bt a = true ∧ tyE (opE sNot [a]) = (1, 0)) ∨ (Bt a = false ∧ (tyE (opE sNot [a])).2 ≠ 0) := by
  rw [ty_op1]
  have ho : ∀ k, opT (opn sNot) [k] = toldT true (fitsI 1 k && true) 1 := fun k => rfl
  rw [ho]
  unfold Bt
  by_cases h : (tyE a).2 = 0
  · rw [if_pos h, decide_eq_true h]
    cases hf : fitsI 1 (tyE a).1 with
    | true => exact .inl ⟨rfl, by simp [toldT]⟩
    | false => exact .inr ⟨rfl, by simp [toldT]⟩
  · rw [if_neg h, decide_eq_false h]
    exact .inr ⟨rfl, h⟩
theorem ty_two (s : List UInt8) (hs : opn s = 5 ∨ opn s = 6) (a b : E) : (Bt a = true ∧ Bt b = true ∧ tyE (opE s [a, b]) = (1, 0)) ∨ ((Bt a && Bt b) = false ∧ (tyE (opE s [a, b])).2 ≠ 0) := by
  rw [ty_op2]
  have ho : ∀ ks, opT (opn s) ks = toldT (decide (ks.length = 2)) (ks.all (fitsI 1)) 1 := by
    intro ks
    rcases hs with h | h <;> rw [h] <;> rfl
  unfold Bt
  by_cases h : (tyE a).2 = 0
  · rw [if_pos h, decide_eq_true h]
    by_cases g : (tyE b).2 = 0
    · rw [if_pos g, decide_eq_true g, ho]
      cases hf : fitsI 1 (tyE a).1 <;> cases hg : fitsI 1 (tyE b).1
      · exact .inr ⟨rfl, by simp [toldT, hf, hg]⟩
      · exact .inr ⟨rfl, by simp [toldT, hf, hg]⟩
      · exact .inr ⟨rfl, by simp [toldT, hf, hg]⟩
      · exact .inl ⟨rfl, rfl, by simp [toldT, hf, hg]⟩
    · rw [if_neg g, decide_eq_false g]
      exact .inr ⟨by simp, g⟩
  · rw [if_neg h, decide_eq_false h]
    exact .inr ⟨by simp, h⟩
theorem Bt_of_ty {e : E} (h : tyE e = (1, 0)) : Bt e = true := by rw [Bt_iff, h]; exact ⟨rfl, rfl⟩
theorem Bt_not (a : E) : Bt (opE sNot [a]) = Bt a := by
  rcases ty_not a with ⟨h, h1⟩ | ⟨h, h1⟩
  · rw [h, Bt_of_ty h1]
  · rw [h]; unfold Bt; rw [decide_eq_false h1]; rfl
theorem Bt_two (s : List UInt8) (hs : opn s = 5 ∨ opn s = 6) (a b : E) : Bt (opE s [a, b]) = (Bt a && Bt b) := by
  rcases ty_two s hs a b with ⟨h, h2, h1⟩ | ⟨h, h1⟩
  · rw [h, h2, Bt_of_ty h1]; rfl
  · rw [h]; unfold Bt; rw [decide_eq_false h1]; rfl
theorem R_not (row : List V) (a : E) : Rv row (opE sNot [a]) = if Bt a = true then (Rv row a).map nt else none := by
  rw [Rv_of, Rv_of row a, ev_op1]
  rcases ty_not a with ⟨h, h1⟩ | ⟨h, h1⟩
  · have h2 := ((Bt_iff a).1 h).1
    rw [if_pos h, h1]
    have ev : ∀ v, doesN (opn sNot) [v] = (nt v, 0) := by
      intro v
      show (if v.k = 0 then (.z, 0) else (tr (!decide (v = tr true)), 0)) = _
      unfold nt
      split <;> rfl
    by_cases h4 : rowOk row = true <;> by_cases h5 : (evE row a).2 = 0 <;> simp [h2, h4, h5, ev]
  · rw [if_neg (by simp [h1]), if_neg (by simp [h])]
theorem R_two (row : List V) (s : List UInt8) (w : Int) (hs : (opn s = 5 ∧ w = 1) ∨ (opn s = 6 ∧ w = 0)) (a b : E) : Rv row (opE s [a, b]) = if (Bt a && Bt b) = true then (Rv row a).bind fun u => (Rv row b).map fun v => bothS w u v else none := by
  have hs' : opn s = 5 ∨ opn s = 6 := by rcases hs with h | h <;> simp [h.1]
  rw [Rv_of, Rv_of row a, Rv_of row b, ev_op2]
  rcases ty_two s hs' a b with ⟨ha, hb, h1⟩ | ⟨h, h1⟩
  · have h2 := ((Bt_iff a).1 ha).1
    have h3 := ((Bt_iff b).1 hb).1
    rw [h1, if_pos (show (Bt a && Bt b) = true by simp [ha, hb])]
    have ev : ∀ u v, doesN (opn s) [u, v] = (bothS w u v, 0) := by
      intro u v
      rcases hs with ⟨h, rfl⟩ | ⟨h, rfl⟩ <;> rw [h] <;> rfl
    by_cases h4 : rowOk row = true <;> by_cases h5 : (evE row a).2 = 0 <;> by_cases h6 : (evE row b).2 = 0 <;> simp [h2, h3, h4, h5, h6, ev]
  · rw [if_neg (by simp [h1]), if_neg (by rw [h]; simp)]
theorem R_tri {row : List V} (ho : ∀ v ∈ row, v.ok) {a : E} (ha : EOk a) (hb : Bt a = true) : Rv row a = none ∨ Rv row a = some .z ∨ Rv row a = some (tr false) ∨ Rv row a = some (tr true) := by
  rw [Rv_of]
  by_cases h : (tyE a).2 = 0 ∧ rowOk row = true ∧ (evE row a).2 = 0
  · rw [if_pos h]
    have hs := (sound h.2.1 ho a ha h.1).1 h.2.2
    rcases fits_tri hs.1 hs.2.1 ((Bt_iff a).1 hb).2 with e | e | e
    · rw [e]; exact .inr (.inl rfl)
    · rw [e]; exact .inr (.inr (.inl rfl))
    · rw [e]; exact .inr (.inr (.inr rfl))
  · rw [if_neg h]; exact .inl rfl
end Go.Proofs.Ytpmecpmankpcbaa.Pure
