/- The law ExprValues over plain data. No conditions. -/
import Derived.Test.YtpmecpmankpcbaaVa7
namespace Go.Proofs.Ytpmecpmankpcbaa.Pure
open Go Go.Proofs Go.Proofs.Ytpmecpmankpcbaa.Rf
set_option linter.unusedVariables false
set_option linter.unusedSimpArgs false
attribute [local irreducible] C L4_0
theorem values_end {n : Nat} (hn : 2 ≤ n) {row e : G} {x : V × Int} (h1 : C n 15 [.val tbl, .val (.sl row.toList), .val e] = some (vg x)) (h2 : C n 16 [.val tbl, .val (.sl row.toList), .val e] = some (vg x)) :
    ((C n 12 []).bind fun r0 => (C n 15 [.val r0.1, .val (.sl row.toList), .val e]).bind fun r1 => (C n 12 []).bind fun r2 => (C n 16 [.val r2.1, .val (.sl row.toList), .val e]).bind fun r3 => cnd ((decide ((G.fld (G.fld r1.1 0) 0).toInt = (G.fld (G.fld r3.1 0) 0).toInt) && (decide ((G.fld (G.fld r1.1 0) 1).toInt = (G.fld (G.fld r3.1 0) 1).toInt) && decide ((G.fld (G.fld r1.1 0) 2).toStr = (G.fld (G.fld r3.1 0) 2).toStr)))) (cnd (decide ((G.fld r1.1 1).toInt = (G.fld r3.1 1).toInt)) ((C n 17 [.val (G.fld r1.1 0)]).bind fun r4 => (C n 18 [.val (G.fld r1.1 0)]).bind fun r5 => some ((G.bool ((r4.1.toBool == r5.1.toBool))), [])) (some ((G.bool (false)), []))) (some ((G.bool (false)), []))) = (some (G.bool true, []) : Option R) := by
  rw [table_le (by omega)]
  simp only [Option.bind_some]
  rw [h1, h2]
  simp only [Option.bind_some, decide_true, Bool.and_self, cnd]
  have h3 : C n 17 [.val (G.fld (vg x).1 0)] = some (.bool (decide (x.1 = tr true)), []) := true_le hn x.1
  have h4 : C n 18 [.val (G.fld (vg x).1 0)] = some (.bool (decide (x.1 = tr true)), []) := at_le (p := fun n => C n 18 [.val x.1.g] = some (.bool (decide (x.1 = tr true)), [])) (show 1 ≤ n by omega) fun m => true_ref m x.1
  rw [h3, h4]
  simp
theorem values_loop (n : Nat) (a0 a1 e : G) (l : List G) (hl : l.length ≤ maxLen) (hfin : ∀ m, L4_0 n (m + 1) a0 a1 l l.length e = some (.bool true, [])) : ∀ (j m i : Nat), i + j = l.length → j < m → L4_0 n m a0 a1 l i e = some (.bool true, [])
  | 0, m + 1, i, hij, _ => by
    obtain rfl : i = l.length := by omega
    exact hfin m
  | j + 1, m + 1, i, hij, hj => by
    have hm := maxLen_le
    have ih := values_loop n a0 a1 e l hl hfin j m (i + 1) (by omega) (by omega)
    rw [L4_0_eq, decide_eq_true (show (i : Int) < l.length by omega), decide_eq_true (show (0 : Int) ≤ i by omega), wr (show -9223372036854775808 ≤ (i : Int) + 1 by omega) (by omega)]
    simp only [Bool.and_self, cnd]
    have ih' : L4_0 n m a0 a1 l ((i : Int) + 1) e = some (.bool true, []) := by rw [← ih]; congr 1
    rw [ih']
    cases decide (200 < ((G.fld (l.getD ((i : Int)).toNat default) 2).toStr.length : Int)) <;> rfl
/-- ExprValues answers true, if its callees answer as said. -/
theorem values_true {n : Nat} (hn : 2 ≤ n) {e : G} {l : List G} {x : V × Int} {q : Int} (hl : l.length ≤ maxLen) (hln : l.length < n) (h10 : C n 10 [] = some (.bool true, [])) (h11 : C n 11 [.val e, .val (.int .i64 500)] = some (.int .i64 q, [])) (h1 : C n 15 [.val tbl, .val (.sl l), .val e] = some (vg x)) (h2 : C n 16 [.val tbl, .val (.sl l), .val e] = some (vg x)) : C (n + 1) 4 [.val e, .val (.sl l)] = some (.bool true, []) := by
  have hL : L4_0 n n e (.sl l) (G.sl l).toList 0 e = some (.bool true, []) := by
    refine values_loop n _ _ e l hl (fun m => ?_) l.length _ 0 (by omega) hln
    rw [L4_0_eq, decide_eq_false (show ¬ ((l.length : Int) < l.length) by omega)]
    simp only [cnd]
    exact values_end (row := .sl l) hn h1 h2
  rw [f4_eq, h10]
  simp only [Option.bind_some, G.toBool, Bool.not_true, cnd]
  rw [h11]
  simp only [Option.bind_some]
  rw [hL]
  cases decide ((G.int .i64 q).toInt = 0) <;> cases decide (12 < ((G.sl l).toList.length : Int)) <;> rfl
theorem ExprValues (xs : List G) (h : WGs tab Try.f4.params.toList xs) : ∃ n, C n 4 (xs.map A.val) = some (.bool true, []) := by
  rw [show Try.f4.params.toList = [26, 40] by kernel_rfl] at h
  match xs, h with
  | [e, r], ⟨he, hr, _⟩ =>
    obtain ⟨e, hok, rfl⟩ := expr_of he
    obtain ⟨row, hrow, hlen, rfl⟩ := vs_of (show ty tab 40 = .sl 23 from rfl) hr
    obtain ⟨N, hN⟩ := (light_eq e hok).and (type_both hok he)
    have key : Ev fun n => ∃ x, C n 15 [.val tbl, .val (.sl (row.map V.g)), .val e.g] = some (vg x) ∧ C n 16 [.val tbl, .val (.sl (row.map V.g)), .val e.g] = some (vg x) := by
      by_cases hc : cntE e ≤ 4096
      · obtain ⟨M, hM⟩ := eval_of hok hc row hrow
        refine Ev.up ⟨N + M, fun n hn => ?_⟩
        rcases (hN n (by omega)).2 with ⟨h1, h2⟩ | ⟨_, h1, h2⟩
        · exact ⟨_, e15_err h1 (by decide), e16_err h2 (by decide)⟩
        · exact ⟨_, (hM n (by omega)).1 h1, (hM n (by omega)).2 h2⟩
      · refine Ev.up ⟨N, fun n hn => ?_⟩
        rcases (hN n (by omega)).2 with ⟨h1, h2⟩ | ⟨h3, _⟩
        · exact ⟨_, e15_err h1 (by decide), e16_err h2 (by decide)⟩
        · exact absurd h3 hc
    obtain ⟨n, ⟨h, hn⟩, h2⟩ := ((((light_eq e hok).and (Ev.ups 40 (p := fun n => C n 10 [] = some (.bool true, [])) (Ev.of fun n => begun n))).and key).and (Ev.ge (row.length + 50))).ex
    obtain ⟨q, hq, _⟩ := h.1 500 (by omega) (by omega)
    obtain ⟨x, g1, g2⟩ := hn
    exact ⟨n + 1, values_true (by omega) (by simpa using hlen) (by rw [List.length_map]; omega) h.2 hq g1 g2⟩
end Go.Proofs.Ytpmecpmankpcbaa.Pure
