/- Plain facts of the expressions' functions: their size. No conditions. -/
import Derived.Test.YtpmecpmankpcbaaEqA
import Derived.Test.YtpmecpmankpcbaaEqB
import Derived.Test.YtpmecpmankpcbaaEqC
import Derived.Test.YtpmecpmankpcbaaEx
namespace Go.Proofs.Ytpmecpmankpcbaa.Pure
open Go Go.Proofs Go.Proofs.Ytpmecpmankpcbaa.Rf
set_option linter.unusedVariables false
set_option linter.unusedSimpArgs false
theorem begun (n : Nat) : C (n + 40) 10 [] = some (.bool true, []) := by kernel_rfl
mutual
def wt : G → Nat
  | .tu gs => wts gs + 1
  | .sl es => wts es + 1
  | _ => 1
def wts : List G → Nat
  | [] => 0
  | x :: l => wt x + wts l + 1
end
mutual
def cnt : G → Nat
  | .tu gs => cntT gs
  | _ => 1
def cntT : List G → Nat
  | [_, _, _, .sl es] => 1 + cnts es
  | _ => 1
def cnts : List G → Nat
  | [] => 0
  | x :: l => cnt x + cnts l
end
theorem wts_get : ∀ (es : List G) (i : Nat) (h : i < es.length), wt es[i] < wts es
  | x :: l, 0, _ => by simp only [wts, List.getElem_cons_zero]; omega
  | x :: l, i + 1, h => by
    have := wts_get l i (by simpa using h)
    simp only [wts, List.getElem_cons_succ]
    omega
theorem wts_len : ∀ (es : List G), es.length ≤ wts es
  | [] => Nat.le_refl _
  | x :: l => by
    have := wts_len l
    simp only [wts, List.length_cons]
    omega
/-- An expression's parts. -/
theorem expr_parts {e : G} (h : WG tab 26 e) : ∃ k s v es, e = .tu [.int .i64 k, .str s, v, .sl es] ∧ (Lit.int .i64 k).wf = true ∧ WG tab 23 v ∧ es.length ≤ maxLen ∧ ∀ x ∈ es, WG tab 26 x := by
  cases h with
  | tu h1 h2 h3 =>
    rename_i ts gs
    have : ts = [3, 9, 23, 24] := by
      have h4 : ty tab 26 = .tu [3, 9, 23, 24] := by rfl
      rw [h4] at h1
      cases h1; rfl
    subst this
    match gs, h2 with
    | [g0, g1, g2, g3], _ =>
      have w0 : WG tab 3 g0 := h3 0 (by simp) (by simp)
      have w1 : WG tab 9 g1 := h3 1 (by simp) (by simp)
      have w2 : WG tab 23 g2 := h3 2 (by simp) (by simp)
      have w3 : WG tab 24 g3 := h3 3 (by simp) (by simp)
      have e0 : ty tab 3 = .int .i64 := rfl
      have e1 : ty tab 9 = .str := rfl
      have e3 : ty tab 24 = .sl 26 := rfl
      cases w0 with
      | int a b =>
        rw [e0] at a; cases a
        cases w1 with
        | str c d =>
          cases w3 with
          | sl f g h =>
            rw [e3] at f; cases f
            exact ⟨_, _, _, _, rfl, b, w2, g, h⟩
          | int a _ => rw [e3] at a; cases a
          | bool a => rw [e3] at a; cases a
          | str a _ => rw [e3] at a; cases a
          | tu a _ _ => rw [e3] at a; cases a
          | arr a _ _ => rw [e3] at a; cases a
        | int a _ => rw [e1] at a; cases a
        | bool a => rw [e1] at a; cases a
        | tu a _ _ => rw [e1] at a; cases a
        | arr a _ _ => rw [e1] at a; cases a
        | sl a _ _ => rw [e1] at a; cases a
      | bool a => rw [e0] at a; cases a
      | str a _ => rw [e0] at a; cases a
      | tu a _ _ => rw [e0] at a; cases a
      | arr a _ _ => rw [e0] at a; cases a
      | sl a _ _ => rw [e0] at a; cases a
  | int a _ => cases a
  | bool a => cases a
  | str a _ => cases a
  | arr a _ _ => cases a
  | sl a _ _ => cases a
end Go.Proofs.Ytpmecpmankpcbaa.Pure

namespace Go.Proofs.Ytpmecpmankpcbaa.Pure
open Go Go.Proofs Go.Proofs.Ytpmecpmankpcbaa.Rf
set_option linter.unusedVariables false
set_option linter.unusedSimpArgs false
theorem wr {n : Int} (h0 : -9223372036854775808 ≤ n) (h1 : n ≤ 9223372036854775807) : IntKind.wrap .i64 n = n := by
  simp only [IntKind.wrap, IntKind.bits, IntKind.signed]
  simp
  omega
def cntFrom (es : List G) (i : Nat) : Nat := cnts (es.drop i)
theorem cntFrom_step {es : List G} {i : Nat} (h : i < es.length) : cntFrom es i = cnt es[i] + cntFrom es (i + 1) := by
  unfold cntFrom
  rw [List.drop_eq_getElem_cons h]
  rfl
theorem cntFrom_end {es : List G} {i : Nat} (h : es.length ≤ i) : cntFrom es i = 0 := by
  unfold cntFrom
  rw [List.drop_eq_nil_of_le h]
  rfl
theorem maxLen_le : (maxLen : Int) ≤ 9223372036854775807 := by
  unfold maxLen; decide
/-- small and great, of one expression: both say yes, and how many parts there are; or both say no. -/
def Alike (e : G) (n : Nat) : Prop := ∀ (d p : Int), 1 ≤ d → d ≤ 65 → 0 ≤ p → p ≤ 4096 →
  (∃ p' : Int, C n 24 [.val e, .val (.int .i64 d), .ref 3 (.int .i64 p)] = some (.bool false, [.int .i64 p']) ∧ C n 26 [.val e, .val (.int .i64 d), .val (.int .i64 (4096 - p))] = some (.tu [.int .i64 0, .bool true], [])) ∨
  (p + cnt e ≤ 4096 ∧ C n 24 [.val e, .val (.int .i64 d), .ref 3 (.int .i64 p)] = some (.bool true, [.int .i64 (p + cnt e)]) ∧ C n 26 [.val e, .val (.int .i64 d), .val (.int .i64 (4096 - p))] = some (.tu [.int .i64 (4096 - (p + cnt e)), .bool false], []))
theorem loops (n : Nat) (k : Int) (s : List UInt8) (v : G) (es : List G) (hl : es.length ≤ maxLen) (d : Int) (hd1 : 1 ≤ d) (hd2 : d ≤ 64) (hc : ∀ x ∈ es, Alike x n) (a0 a1 a2 b1 b2 : G) :
    ∀ (j m i : Nat) (p : Int), i + j = es.length → j < m → 0 ≤ p → p ≤ 4096 →
      (∃ p' : Int, L24_0 n m a0 a1 a2 d es es.length i (.int .i64 p) = some (.bool false, [.int .i64 p']) ∧ L26_0 n m a0 b1 b2 d (4096 - p) i (.tu [.int .i64 k, .str s, v, .sl es]) = some (.tu [.int .i64 0, .bool true], [])) ∨
      (p + cntFrom es i ≤ 4096 ∧ L24_0 n m a0 a1 a2 d es es.length i (.int .i64 p) = some (.bool true, [.int .i64 (p + cntFrom es i)]) ∧ L26_0 n m a0 b1 b2 d (4096 - p) i (.tu [.int .i64 k, .str s, v, .sl es]) = some (.tu [.int .i64 (4096 - (p + cntFrom es i)), .bool false], []))
  | 0, m + 1, i, p, hij, _, hp0, hp1 => by
    have hi : ¬ ((i : Int) < es.length) := by omega
    have hz : cntFrom es i = 0 := cntFrom_end (by omega)
    refine .inr ⟨by rw [hz]; omega, ?_, ?_⟩
    · rw [L24_0_eq, decide_eq_false hi, hz]; simp [cnd]
    · rw [L26_0_eq]
      simp only [show (G.fld (.tu [.int .i64 k, .str s, v, .sl es]) 3).toList = es from rfl]
      rw [decide_eq_false hi, hz]; simp [cnd]
  | j + 1, m + 1, i, p, hij, hjm, hp0, hp1 => by
    have hlt : i < es.length := by omega
    have hi : ((i : Int) < es.length) := by omega
    have hi0 : (0 : Int) ≤ i := by omega
    have hm := maxLen_le
    have hw1 : IntKind.wrap .i64 ((i : Int) + 1) = ((i + 1 : Nat) : Int) := by rw [wr (by omega) (by omega)]; simp
    have hw2 : IntKind.wrap .i64 (d + 1) = d + 1 := wr (by omega) (by omega)
    have hg : es.getD ((i : Int)).toNat default = es[i] := by simp [List.getD, hlt]
    have hA := hc es[i] (List.getElem_mem hlt) (d + 1) p (by omega) (by omega) hp0 hp1
    rw [L24_0_eq, L26_0_eq]
    simp only [show (G.fld (.tu [.int .i64 k, .str s, v, .sl es]) 3).toList = es from rfl]
    rw [decide_eq_true hi, decide_eq_true hi0, hg, hw1, hw2]
    simp only [Bool.and_self, cnd]
    rcases hA with ⟨p', h1, h2⟩ | ⟨hle, h1, h2⟩
    · refine .inl ⟨p', ?_, ?_⟩
      · rw [h1]; rfl
      · rw [h2]; rfl
    · rw [h1, h2]
      have := loops n k s v es hl d hd1 hd2 hc a0 a1 a2 b1 b2 j m (i + 1) (p + cnt es[i]) (by omega) (by omega) (by omega) hle
      rw [cntFrom_step hlt]
      have e1 : p + ((cnt es[i] + cntFrom es (i + 1) : Nat) : Int) = p + cnt es[i] + cntFrom es (i + 1) := by omega
      rw [e1]
      exact this
theorem small_eq (n : Nat) (k : Int) (s : List UInt8) (v : G) (es : List G) (d p : Int) : C (n + 1) 24 [.val (.tu [.int .i64 k, .str s, v, .sl es]), .val (.int .i64 d), .ref 3 (.int .i64 p)] =
    cnd (decide (64 < d)) (some (.bool false, [.int .i64 (IntKind.wrap .i64 (p + 1))])) (cnd (decide (4096 < IntKind.wrap .i64 (p + 1))) (some (.bool false, [.int .i64 (IntKind.wrap .i64 (p + 1))]))
      (L24_0 n n (.tu [.int .i64 k, .str s, v, .sl es]) (.int .i64 d) (.int .i64 p) d es es.length 0 (.int .i64 (IntKind.wrap .i64 (p + 1))))) := f24_eq n _ _ _
theorem great_eq (n : Nat) (k : Int) (s : List UInt8) (v : G) (es : List G) (d l : Int) : C (n + 1) 26 [.val (.tu [.int .i64 k, .str s, v, .sl es]), .val (.int .i64 d), .val (.int .i64 l)] =
    cnd (decide (64 < d)) (some (.tu [.int .i64 0, .bool true], [])) (cnd (decide (l ≤ 0)) (some (.tu [.int .i64 0, .bool true], []))
      (L26_0 n n (.tu [.int .i64 k, .str s, v, .sl es]) (.int .i64 d) (.int .i64 l) d (IntKind.wrap .i64 (l - 1)) 0 (.tu [.int .i64 k, .str s, v, .sl es]))) := f26_eq n _ _ _
theorem cnt_expr (k : Int) (s : List UInt8) (v : G) (es : List G) : cnt (.tu [.int .i64 k, .str s, v, .sl es]) = 1 + cnts es := by
  simp only [cnt, cntT]
theorem alike : ∀ (w : Nat) (e : G), WG tab 26 e → wt e ≤ w → ∀ n, w ≤ n → Alike e (n + 1)
  | 0, e, he, hw, n, hn => by
    obtain ⟨k, s, v, es, rfl, _⟩ := expr_parts he
    simp [wt] at hw
  | w + 1, e, he, hw, n, hn => by
    obtain ⟨k, s, v, es, rfl, hk, hv, hl, hes⟩ := expr_parts he
    intro d p hd1 hd2 hp0 hp1
    have hwp : IntKind.wrap .i64 (p + 1) = p + 1 := wr (by omega) (by omega)
    have hwl : IntKind.wrap .i64 (4096 - p - 1) = 4096 - (p + 1) := by rw [wr (by omega) (by omega)]; omega
    have hws : wts es < wt (.tu [.int .i64 k, .str s, v, .sl es]) := by simp [wt, wts]; omega
    rw [small_eq, great_eq, hwp, hwl]
    by_cases h1 : 64 < d
    · refine .inl ⟨p + 1, ?_, ?_⟩
      · rw [decide_eq_true h1]; rfl
      · rw [decide_eq_true h1]; rfl
    · rw [decide_eq_false h1]
      simp only [cnd]
      by_cases h2 : 4096 < p + 1
      · refine .inl ⟨p + 1, ?_, ?_⟩
        · rw [decide_eq_true h2]
        · rw [decide_eq_true (show 4096 - p ≤ 0 by omega)]
      · rw [decide_eq_false h2, decide_eq_false (show ¬ (4096 - p ≤ 0) by omega)]
        match n, hn with
        | n + 1, hn =>
          have hc : ∀ x ∈ es, Alike x (n + 1) := by
            intro x hx
            obtain ⟨i, hi, rfl⟩ := List.getElem_of_mem hx
            have := wts_get es i hi
            exact alike w es[i] (hes _ (List.getElem_mem hi)) (by omega) n (by omega)
          have := loops (n + 1) k s v es hl d hd1 (by omega) hc (.tu [.int .i64 k, .str s, v, .sl es]) (.int .i64 d) (.int .i64 p) (.int .i64 d) (.int .i64 (4096 - p)) es.length (n + 1) 0 (p + 1) (by omega) (by have := wts_len es; omega) (by omega) (by omega)
          have hz : cntFrom es 0 = cnts es := rfl
          rw [hz] at this
          rw [cnt_expr]
          have e1 : p + ((1 + cnts es : Nat) : Int) = p + 1 + cnts es := by omega
          rw [e1]
          exact this
end Go.Proofs.Ytpmecpmankpcbaa.Pure

namespace Go.Proofs.Ytpmecpmankpcbaa.Pure
open Go Go.Proofs Go.Proofs.Ytpmecpmankpcbaa.Rf
set_option linter.unusedVariables false
set_option linter.unusedSimpArgs false
abbrev cols (t : G) : List G := (G.fld t 1).toList
theorem col_loop (n n' : Nat) (t : G) (s : List UInt8) (hl : (cols t).length ≤ maxLen) (a0 a1 b0 b1 : G) :
    ∀ (j m m' i : Nat), i + j = (cols t).length → j < m → j < m' → ∃ r : Int, L45_0 (n + 1) m a0 a1 (cols t) (.str s) (cols t).length i = some (.int .i64 r, []) ∧ L36_0 n' m' b0 b1 s i t = some (.int .i64 r, []) ∧ (r = -1 ∨ (0 ≤ r ∧ r < (cols t).length))
  | 0, m + 1, m' + 1, i, hij, _, _ => by
    have hi : ¬ ((i : Int) < (cols t).length) := by omega
    refine ⟨-1, ?_, ?_, .inl rfl⟩
    · rw [L45_0_eq, decide_eq_false hi]; rfl
    · rw [L36_0_eq, decide_eq_false hi]; rfl
  | j + 1, m + 1, m' + 1, i, hij, h1, h2 => by
    have hlt : i < (cols t).length := by omega
    have hi : ((i : Int) < (cols t).length) := by omega
    have hi0 : (0 : Int) ≤ i := by omega
    have hm := maxLen_le
    have hw1 : IntKind.wrap .i64 ((i : Int) + 1) = ((i + 1 : Nat) : Int) := by rw [wr (by omega) (by omega)]; simp
    have ih := col_loop n n' t s hl a0 a1 b0 b1 j m m' (i + 1) (by omega) (by omega) (by omega)
    rw [L45_0_eq, L36_0_eq, decide_eq_true hi, decide_eq_true hi0, hw1, f46_eq]
    simp only [Bool.and_self, cnd]
    by_cases hq : (((cols t).getD ((i : Int)).toNat default).fld 0).toStr = s
    · refine ⟨i, ?_, ?_, .inr ⟨hi0, hi⟩⟩
      · show cnd (decide ((((cols t).getD ((i : Int)).toNat default).fld 0).toStr = s)) _ _ = _
        rw [decide_eq_true hq]; rfl
      · rw [decide_eq_true hq]
    · obtain ⟨r, h3, h4, h5⟩ := ih
      refine ⟨r, ?_, ?_, h5⟩
      · show cnd (decide ((((cols t).getD ((i : Int)).toNat default).fld 0).toStr = s)) _ _ = _
        rw [decide_eq_false hq]; exact h3
      · rw [decide_eq_false hq]; exact h4
theorem col_same (n : Nat) (t : G) (s : List UInt8) (hl : (cols t).length ≤ maxLen) (hn : (cols t).length ≤ n) : ∃ r : Int, C (n + 4) 33 [.val t, .val (.str s)] = some (.int .i64 r, []) ∧ C (n + 2) 36 [.val t, .val (.str s)] = some (.int .i64 r, []) ∧ (r = -1 ∨ (0 ≤ r ∧ r < (cols t).length)) := by
  obtain ⟨r, h1, h2, h3⟩ := col_loop (n + 1) (n + 1) t s hl (.sl (cols t)) (.str s) t (.str s) (cols t).length (n + 2) (n + 1) 0 (by omega) (by omega) (by omega)
  refine ⟨r, ?_, ?_, h3⟩
  · rw [f33_eq, f45_eq]
    have : L45_0 (n + 2) (n + 2) (.sl (cols t)) (.str s) (cols t) (.str s) (cols t).length 0 = some (.int .i64 r, []) := h1
    show (L45_0 (n + 2) (n + 2) (.sl (cols t)) (.str s) (cols t) (.str s) (cols t).length 0).bind _ = _
    rw [this]; rfl
  · rw [f36_eq]; exact h2
theorem may_same (n n' : Nat) (v : G) : C (n + 1) 28 [.val v] = C (n' + 1) 35 [.val v] := by rw [f28_eq, f35_eq]
end Go.Proofs.Ytpmecpmankpcbaa.Pure

namespace Go.Proofs.Ytpmecpmankpcbaa.Pure
open Go Go.Proofs Go.Proofs.Ytpmecpmankpcbaa.Rf
set_option linter.unusedVariables false
set_option linter.unusedSimpArgs false
def fits (k : Int) (x : G) : Bool := decide (x.toInt = k) || decide (x.toInt = 0)
theorem all_loop (n : Nat) (l : List G) (k : Int) (hl : l.length ≤ maxLen) (a0 a1 : G) : ∀ (j m i : Nat), i + j = l.length → j < m → L48_0 n m a0 a1 k l l.length i = some (.bool ((l.drop i).all (fits k)), [])
  | 0, m + 1, i, hij, _ => by
    have hi : ¬ ((i : Int) < l.length) := by omega
    rw [L48_0_eq, decide_eq_false hi, List.drop_eq_nil_of_le (by omega)]; rfl
  | j + 1, m + 1, i, hij, hj => by
    have hlt : i < l.length := by omega
    have hi : ((i : Int) < l.length) := by omega
    have hi0 : (0 : Int) ≤ i := by omega
    have hm := maxLen_le
    have hw1 : IntKind.wrap .i64 ((i : Int) + 1) = ((i + 1 : Nat) : Int) := by rw [wr (by omega) (by omega)]; simp
    have hg : l.getD ((i : Int)).toNat default = l[i] := by simp [List.getD, hlt]
    have ih := all_loop n l k hl a0 a1 j m (i + 1) (by omega) (by omega)
    rw [L48_0_eq, decide_eq_true hi, decide_eq_true hi0, hw1, hg, ih, List.drop_eq_getElem_cons hlt]
    simp only [Bool.and_self, cnd, List.all_cons, fits]
    by_cases h1 : l[i].toInt = k
    · simp [h1, cnd]
    · by_cases h2 : l[i].toInt = 0
      · simp only [decide_eq_false h1, decide_eq_true h2]; rfl
      · simp only [decide_eq_false h1, decide_eq_false h2]; rfl
theorem all_eq (n : Nat) (l : List G) (k : Int) (hl : l.length ≤ maxLen) (hn : l.length < n) : C (n + 1) 48 [.val (.sl l), .val (.int .i64 k)] = some (.bool (l.all (fits k)), []) := by
  rw [f48_eq]
  have := all_loop n l k hl (.sl l) (.int .i64 k) l.length n 0 (by omega) hn
  rw [List.drop_zero] at this
  exact this
def bad (lg ar : Bool) (x : G) : Bool := (lg && !fits 1 x) || (ar && !fits 2 x)
def differ (l : List G) : Bool := decide (l.length = 2) && (!decide ((G.fld (.tu l) 0).toInt = (G.fld (.tu l) 1).toInt) && (!decide ((G.fld (.tu l) 0).toInt = 0) && !decide ((G.fld (.tu l) 1).toInt = 0)))
def tailOf (lg ar : Bool) (l : List G) : R := if ar then (.tu [.int .i64 2, .int .i64 0], []) else if !lg && differ l then (.tu [.int .i64 0, .int .i64 15], []) else (.tu [.int .i64 1, .int .i64 0], [])
theorem kind_loop (n : Nat) (e : G) (l : List G) (lg ar : Bool) (h50 : C n 50 [.val (.str (e.fld 1).toStr)] = some (.bool lg, [])) (h42 : C n 42 [.val (.str (e.fld 1).toStr)] = some (.bool ar, [])) (hl : l.length ≤ maxLen) (a0 a1 : G) :
    ∀ (j m i : Nat), i + j = l.length → j < m → L37_1 n m a0 a1 i e l = some (if (l.drop i).any (bad lg ar) then (.tu [.int .i64 0, .int .i64 15], []) else tailOf lg ar l)
  | 0, m + 1, i, hij, _ => by
    have hi : ¬ ((i : Int) < l.length) := by omega
    rw [L37_1_eq, decide_eq_false hi, List.drop_eq_nil_of_le (by omega), h42, h50]
    simp only [cnd, Option.bind_some, G.toBool, List.any_nil, Bool.false_eq_true, if_false]
    cases ar with
    | true => rfl
    | false =>
      cases lg with
      | true => rfl
      | false =>
        simp only [tailOf, differ, cnd, Bool.not_false, Bool.true_and, Bool.false_eq_true, if_false]
        by_cases h2 : l.length = 2
        · have h2' : ((l.length : Int) = 2) := by omega
          rw [decide_eq_true h2', decide_eq_true (show (0 : Int) < l.length by omega), decide_eq_true (show (1 : Int) < l.length by omega), decide_eq_true h2]
          simp only [cnd, Bool.true_and]
          by_cases q1 : (G.fld (.tu l) 0).toInt = (G.fld (.tu l) 1).toInt
          · simp [q1, cnd]
          · by_cases q2 : (G.fld (.tu l) 0).toInt = 0
            · simp only [decide_eq_false q1, decide_eq_true q2]; rfl
            · by_cases q3 : (G.fld (.tu l) 1).toInt = 0
              · simp [q1, q2, q3, cnd]
              · simp [q1, q2, q3, cnd]
        · have h2' : ¬ ((l.length : Int) = 2) := by omega
          rw [decide_eq_false h2', decide_eq_false h2]
          rfl
  | j + 1, m + 1, i, hij, hj => by
    have hlt : i < l.length := by omega
    have hi : ((i : Int) < l.length) := by omega
    have hi0 : (0 : Int) ≤ i := by omega
    have hm := maxLen_le
    have hw1 : IntKind.wrap .i64 ((i : Int) + 1) = ((i + 1 : Nat) : Int) := by rw [wr (by omega) (by omega)]; simp
    have hg : G.fld (.tu l) ((i : Int)).toNat = l[i] := by simp [G.fld, G.parts, List.getD, hlt]
    have ih := kind_loop n e l lg ar h50 h42 hl a0 a1 j m (i + 1) (by omega) (by omega)
    rw [L37_1_eq, decide_eq_true hi, decide_eq_true hi0, hw1, hg, ih, h42, h50, List.drop_eq_getElem_cons hlt]
    simp only [cnd, Option.bind_some, G.toBool, Bool.and_self, List.any_cons, bad, fits]
    cases lg <;> cases ar <;> by_cases q0 : l[i].toInt = 0 <;> by_cases q1 : l[i].toInt = 1 <;> by_cases q2 : l[i].toInt = 2 <;> simp [q0, q1, q2, cnd] <;> omega
end Go.Proofs.Ytpmecpmankpcbaa.Pure

namespace Go.Proofs.Ytpmecpmankpcbaa.Pure
open Go Go.Proofs Go.Proofs.Ytpmecpmankpcbaa.Rf
set_option linter.unusedVariables false
set_option linter.unusedSimpArgs false
def told (many such : Bool) (k : Int) : R := (if many then (if such then (.tu [.int .i64 k, .int .i64 0]) else .tu [.int .i64 0, .int .i64 15]) else .tu [.int .i64 0, .int .i64 9], [])
theorem told_eq (n : Nat) (a b : Bool) (k : Int) : C (n + 1) 47 [.val (.bool a), .val (.bool b), .val (.int .i64 k)] = some (told a b k) := by
  rw [f47_eq]; cases a <;> cases b <;> rfl
theorem told_again (a b : Bool) (k : Int) : (some ((.tu [(.int .i64 (G.fld (told a b k).1 0).toInt), (.int .i64 (G.fld (told a b k).1 1).toInt)]), []) : Option R) = some (told a b k) := by
  cases a <;> cases b <;> rfl
def alike2 (l : List G) : Bool := decide ((l.getD 0 default).toInt = (l.getD 1 default).toInt) || (decide ((l.getD 0 default).toInt = 0) || decide ((l.getD 1 default).toInt = 0))
theorem cmp_block (n : Nat) (l : List G) (hn : 0 < n) : (cnd (decide (((G.sl l).toList.length : Int) = 2)) (cnd (decide (0 < ((G.sl l).toList.length : Int))) (cnd (decide (1 < ((G.sl l).toList.length : Int))) (cnd (decide (((G.sl l).toList.getD 0 default).toInt = ((G.sl l).toList.getD 1 default).toInt)) ((C n 47 [.val (.bool (decide (((G.sl l).toList.length : Int) = 2))), .val (.bool (true)), .val (.int .i64 1)]).bind fun r20 => some ((.tu [(.int .i64 (G.fld r20.1 0).toInt), (.int .i64 (G.fld r20.1 1).toInt)]), [])) (cnd (decide (0 < ((G.sl l).toList.length : Int))) (cnd (decide (((G.sl l).toList.getD 0 default).toInt = 0)) ((C n 47 [.val (.bool (decide (((G.sl l).toList.length : Int) = 2))), .val (.bool (true)), .val (.int .i64 1)]).bind fun r21 => some ((.tu [(.int .i64 (G.fld r21.1 0).toInt), (.int .i64 (G.fld r21.1 1).toInt)]), [])) (cnd (decide (1 < ((G.sl l).toList.length : Int))) ((C n 47 [.val (.bool (decide (((G.sl l).toList.length : Int) = 2))), .val (.bool (decide (((G.sl l).toList.getD 1 default).toInt = 0))), .val (.int .i64 1)]).bind fun r22 => some ((.tu [(.int .i64 (G.fld r22.1 0).toInt), (.int .i64 (G.fld r22.1 1).toInt)]), [])) (none))) (none))) (none)) (none)) ((C n 47 [.val (.bool (decide (((G.sl l).toList.length : Int) = 2))), .val (.bool (false)), .val (.int .i64 1)]).bind fun r23 => some ((.tu [(.int .i64 (G.fld r23.1 0).toInt), (.int .i64 (G.fld r23.1 1).toInt)]), []))) = some (told (decide ((l.length : Int) = 2)) (alike2 l) 1) := by
  obtain ⟨n, rfl⟩ : ∃ k, n = k + 1 := ⟨n - 1, by omega⟩
  simp only [told_eq, Option.bind_some, told_again]
  by_cases h : (l.length : Int) = 2
  · rw [decide_eq_true h, show decide (((G.sl l).toList.length : Int) = 2) = true from decide_eq_true h]
    show cnd true (cnd (decide (0 < (l.length : Int))) (cnd (decide (1 < (l.length : Int))) (cnd (decide ((l.getD 0 default).toInt = (l.getD 1 default).toInt)) _ (cnd (decide (0 < (l.length : Int))) (cnd (decide ((l.getD 0 default).toInt = 0)) _ (cnd (decide (1 < (l.length : Int))) (some (told _ (decide ((l.getD 1 default).toInt = 0)) 1)) none)) none)) none) none) _ = _
    rw [decide_eq_true (show (0 : Int) < l.length by omega), decide_eq_true (show (1 : Int) < l.length by omega)]
    simp only [cnd, alike2]
    by_cases q1 : (l.getD 0 default).toInt = (l.getD 1 default).toInt
    · rw [decide_eq_true q1]; rfl
    · rw [decide_eq_false q1]
      by_cases q2 : (l.getD 0 default).toInt = 0
      · rw [decide_eq_true q2]; rfl
      · rw [decide_eq_false q2]; rfl
  · rw [decide_eq_false h, show decide (((G.sl l).toList.length : Int) = 2) = false from decide_eq_false h]
    rfl
theorem op_73_83_78_85_76_76 (n : Nat) (l : List G) (hl : l.length ≤ maxLen) (hn : l.length < n) : C (n + 2) 34 [.val (.str [73, 83, 78, 85, 76, 76]), .val (.sl l)] = some (told (decide ((l.length : Int) = 1)) true 1) := by
  rw [f34_eq]
  rw [decide_eq_true (show (G.str [73, 83, 78, 85, 76, 76]).toStr = [73, 83, 78, 85, 76, 76] from rfl)]
  simp only [cnd]
  simp only [told_eq, Option.bind_some, told_again]
  rfl
theorem op_78_79_84_78_85_76_76 (n : Nat) (l : List G) (hl : l.length ≤ maxLen) (hn : l.length < n) : C (n + 2) 34 [.val (.str [78, 79, 84, 78, 85, 76, 76]), .val (.sl l)] = some (told (decide ((l.length : Int) = 1)) true 1) := by
  rw [f34_eq]
  rw [decide_eq_false (show ¬ (G.str [78, 79, 84, 78, 85, 76, 76]).toStr = [73, 83, 78, 85, 76, 76] by intro h; exact absurd (show ([78, 79, 84, 78, 85, 76, 76] : List UInt8) = [73, 83, 78, 85, 76, 76] from h) (by decide))]
  rw [decide_eq_true (show (G.str [78, 79, 84, 78, 85, 76, 76]).toStr = [78, 79, 84, 78, 85, 76, 76] from rfl)]
  simp only [cnd]
  simp only [told_eq, Option.bind_some, told_again]
  rfl
theorem op_78_79_84 (n : Nat) (l : List G) (hl : l.length ≤ maxLen) (hn : l.length < n) : C (n + 2) 34 [.val (.str [78, 79, 84]), .val (.sl l)] = some (told (decide ((l.length : Int) = 1)) (l.all (fits 1)) 1) := by
  rw [f34_eq]
  rw [decide_eq_false (show ¬ (G.str [78, 79, 84]).toStr = [73, 83, 78, 85, 76, 76] by intro h; exact absurd (show ([78, 79, 84] : List UInt8) = [73, 83, 78, 85, 76, 76] from h) (by decide))]
  rw [decide_eq_false (show ¬ (G.str [78, 79, 84]).toStr = [78, 79, 84, 78, 85, 76, 76] by intro h; exact absurd (show ([78, 79, 84] : List UInt8) = [78, 79, 84, 78, 85, 76, 76] from h) (by decide))]
  rw [decide_eq_true (show (G.str [78, 79, 84]).toStr = [78, 79, 84] from rfl)]
  simp only [cnd]
  rw [show C (n + 1) 48 [.val (.sl (G.sl l).toList), .val (.int .i64 1)] = some (.bool (l.all (fits 1)), []) from all_eq n l 1 hl hn]
  simp only [told_eq, Option.bind_some, told_again]
  rfl
theorem op_78_69_71 (n : Nat) (l : List G) (hl : l.length ≤ maxLen) (hn : l.length < n) : C (n + 2) 34 [.val (.str [78, 69, 71]), .val (.sl l)] = some (told (decide ((l.length : Int) = 1)) (l.all (fits 2)) 2) := by
  rw [f34_eq]
  rw [decide_eq_false (show ¬ (G.str [78, 69, 71]).toStr = [73, 83, 78, 85, 76, 76] by intro h; exact absurd (show ([78, 69, 71] : List UInt8) = [73, 83, 78, 85, 76, 76] from h) (by decide))]
  rw [decide_eq_false (show ¬ (G.str [78, 69, 71]).toStr = [78, 79, 84, 78, 85, 76, 76] by intro h; exact absurd (show ([78, 69, 71] : List UInt8) = [78, 79, 84, 78, 85, 76, 76] from h) (by decide))]
  rw [decide_eq_false (show ¬ (G.str [78, 69, 71]).toStr = [78, 79, 84] by intro h; exact absurd (show ([78, 69, 71] : List UInt8) = [78, 79, 84] from h) (by decide))]
  rw [decide_eq_true (show (G.str [78, 69, 71]).toStr = [78, 69, 71] from rfl)]
  simp only [cnd]
  rw [show C (n + 1) 48 [.val (.sl (G.sl l).toList), .val (.int .i64 2)] = some (.bool (l.all (fits 2)), []) from all_eq n l 2 hl hn]
  simp only [told_eq, Option.bind_some, told_again]
  rfl
theorem op_79_82 (n : Nat) (l : List G) (hl : l.length ≤ maxLen) (hn : l.length < n) : C (n + 2) 34 [.val (.str [79, 82]), .val (.sl l)] = some (told (decide ((l.length : Int) = 2)) (l.all (fits 1)) 1) := by
  rw [f34_eq]
  rw [decide_eq_false (show ¬ (G.str [79, 82]).toStr = [73, 83, 78, 85, 76, 76] by intro h; exact absurd (show ([79, 82] : List UInt8) = [73, 83, 78, 85, 76, 76] from h) (by decide))]
  rw [decide_eq_false (show ¬ (G.str [79, 82]).toStr = [78, 79, 84, 78, 85, 76, 76] by intro h; exact absurd (show ([79, 82] : List UInt8) = [78, 79, 84, 78, 85, 76, 76] from h) (by decide))]
  rw [decide_eq_false (show ¬ (G.str [79, 82]).toStr = [78, 79, 84] by intro h; exact absurd (show ([79, 82] : List UInt8) = [78, 79, 84] from h) (by decide))]
  rw [decide_eq_false (show ¬ (G.str [79, 82]).toStr = [78, 69, 71] by intro h; exact absurd (show ([79, 82] : List UInt8) = [78, 69, 71] from h) (by decide))]
  rw [decide_eq_true (show (G.str [79, 82]).toStr = [79, 82] from rfl)]
  simp only [cnd]
  rw [show C (n + 1) 48 [.val (.sl (G.sl l).toList), .val (.int .i64 1)] = some (.bool (l.all (fits 1)), []) from all_eq n l 1 hl hn]
  simp only [told_eq, Option.bind_some, told_again]
  rfl
theorem op_65_78_68 (n : Nat) (l : List G) (hl : l.length ≤ maxLen) (hn : l.length < n) : C (n + 2) 34 [.val (.str [65, 78, 68]), .val (.sl l)] = some (told (decide ((l.length : Int) = 2)) (l.all (fits 1)) 1) := by
  rw [f34_eq]
  rw [decide_eq_false (show ¬ (G.str [65, 78, 68]).toStr = [73, 83, 78, 85, 76, 76] by intro h; exact absurd (show ([65, 78, 68] : List UInt8) = [73, 83, 78, 85, 76, 76] from h) (by decide))]
  rw [decide_eq_false (show ¬ (G.str [65, 78, 68]).toStr = [78, 79, 84, 78, 85, 76, 76] by intro h; exact absurd (show ([65, 78, 68] : List UInt8) = [78, 79, 84, 78, 85, 76, 76] from h) (by decide))]
  rw [decide_eq_false (show ¬ (G.str [65, 78, 68]).toStr = [78, 79, 84] by intro h; exact absurd (show ([65, 78, 68] : List UInt8) = [78, 79, 84] from h) (by decide))]
  rw [decide_eq_false (show ¬ (G.str [65, 78, 68]).toStr = [78, 69, 71] by intro h; exact absurd (show ([65, 78, 68] : List UInt8) = [78, 69, 71] from h) (by decide))]
  rw [decide_eq_false (show ¬ (G.str [65, 78, 68]).toStr = [79, 82] by intro h; exact absurd (show ([65, 78, 68] : List UInt8) = [79, 82] from h) (by decide))]
  rw [decide_eq_true (show (G.str [65, 78, 68]).toStr = [65, 78, 68] from rfl)]
  simp only [cnd]
  rw [show C (n + 1) 48 [.val (.sl (G.sl l).toList), .val (.int .i64 1)] = some (.bool (l.all (fits 1)), []) from all_eq n l 1 hl hn]
  simp only [told_eq, Option.bind_some, told_again]
  rfl
theorem op_43 (n : Nat) (l : List G) (hl : l.length ≤ maxLen) (hn : l.length < n) : C (n + 2) 34 [.val (.str [43]), .val (.sl l)] = some (told (decide ((l.length : Int) = 2)) (l.all (fits 2)) 2) := by
  rw [f34_eq]
  rw [decide_eq_false (show ¬ (G.str [43]).toStr = [73, 83, 78, 85, 76, 76] by intro h; exact absurd (show ([43] : List UInt8) = [73, 83, 78, 85, 76, 76] from h) (by decide))]
  rw [decide_eq_false (show ¬ (G.str [43]).toStr = [78, 79, 84, 78, 85, 76, 76] by intro h; exact absurd (show ([43] : List UInt8) = [78, 79, 84, 78, 85, 76, 76] from h) (by decide))]
  rw [decide_eq_false (show ¬ (G.str [43]).toStr = [78, 79, 84] by intro h; exact absurd (show ([43] : List UInt8) = [78, 79, 84] from h) (by decide))]
  rw [decide_eq_false (show ¬ (G.str [43]).toStr = [78, 69, 71] by intro h; exact absurd (show ([43] : List UInt8) = [78, 69, 71] from h) (by decide))]
  rw [decide_eq_false (show ¬ (G.str [43]).toStr = [79, 82] by intro h; exact absurd (show ([43] : List UInt8) = [79, 82] from h) (by decide))]
  rw [decide_eq_false (show ¬ (G.str [43]).toStr = [65, 78, 68] by intro h; exact absurd (show ([43] : List UInt8) = [65, 78, 68] from h) (by decide))]
  rw [decide_eq_true (show (G.str [43]).toStr = [43] from rfl)]
  simp only [cnd]
  rw [show C (n + 1) 48 [.val (.sl (G.sl l).toList), .val (.int .i64 2)] = some (.bool (l.all (fits 2)), []) from all_eq n l 2 hl hn]
  simp only [told_eq, Option.bind_some, told_again]
  rfl
theorem op_45 (n : Nat) (l : List G) (hl : l.length ≤ maxLen) (hn : l.length < n) : C (n + 2) 34 [.val (.str [45]), .val (.sl l)] = some (told (decide ((l.length : Int) = 2)) (l.all (fits 2)) 2) := by
  rw [f34_eq]
  rw [decide_eq_false (show ¬ (G.str [45]).toStr = [73, 83, 78, 85, 76, 76] by intro h; exact absurd (show ([45] : List UInt8) = [73, 83, 78, 85, 76, 76] from h) (by decide))]
  rw [decide_eq_false (show ¬ (G.str [45]).toStr = [78, 79, 84, 78, 85, 76, 76] by intro h; exact absurd (show ([45] : List UInt8) = [78, 79, 84, 78, 85, 76, 76] from h) (by decide))]
  rw [decide_eq_false (show ¬ (G.str [45]).toStr = [78, 79, 84] by intro h; exact absurd (show ([45] : List UInt8) = [78, 79, 84] from h) (by decide))]
  rw [decide_eq_false (show ¬ (G.str [45]).toStr = [78, 69, 71] by intro h; exact absurd (show ([45] : List UInt8) = [78, 69, 71] from h) (by decide))]
  rw [decide_eq_false (show ¬ (G.str [45]).toStr = [79, 82] by intro h; exact absurd (show ([45] : List UInt8) = [79, 82] from h) (by decide))]
  rw [decide_eq_false (show ¬ (G.str [45]).toStr = [65, 78, 68] by intro h; exact absurd (show ([45] : List UInt8) = [65, 78, 68] from h) (by decide))]
  rw [decide_eq_false (show ¬ (G.str [45]).toStr = [43] by intro h; exact absurd (show ([45] : List UInt8) = [43] from h) (by decide))]
  rw [decide_eq_true (show (G.str [45]).toStr = [45] from rfl)]
  simp only [cnd]
  rw [show C (n + 1) 48 [.val (.sl (G.sl l).toList), .val (.int .i64 2)] = some (.bool (l.all (fits 2)), []) from all_eq n l 2 hl hn]
  simp only [told_eq, Option.bind_some, told_again]
  rfl
theorem op_42 (n : Nat) (l : List G) (hl : l.length ≤ maxLen) (hn : l.length < n) : C (n + 2) 34 [.val (.str [42]), .val (.sl l)] = some (told (decide ((l.length : Int) = 2)) (l.all (fits 2)) 2) := by
  rw [f34_eq]
  rw [decide_eq_false (show ¬ (G.str [42]).toStr = [73, 83, 78, 85, 76, 76] by intro h; exact absurd (show ([42] : List UInt8) = [73, 83, 78, 85, 76, 76] from h) (by decide))]
  rw [decide_eq_false (show ¬ (G.str [42]).toStr = [78, 79, 84, 78, 85, 76, 76] by intro h; exact absurd (show ([42] : List UInt8) = [78, 79, 84, 78, 85, 76, 76] from h) (by decide))]
  rw [decide_eq_false (show ¬ (G.str [42]).toStr = [78, 79, 84] by intro h; exact absurd (show ([42] : List UInt8) = [78, 79, 84] from h) (by decide))]
  rw [decide_eq_false (show ¬ (G.str [42]).toStr = [78, 69, 71] by intro h; exact absurd (show ([42] : List UInt8) = [78, 69, 71] from h) (by decide))]
  rw [decide_eq_false (show ¬ (G.str [42]).toStr = [79, 82] by intro h; exact absurd (show ([42] : List UInt8) = [79, 82] from h) (by decide))]
  rw [decide_eq_false (show ¬ (G.str [42]).toStr = [65, 78, 68] by intro h; exact absurd (show ([42] : List UInt8) = [65, 78, 68] from h) (by decide))]
  rw [decide_eq_false (show ¬ (G.str [42]).toStr = [43] by intro h; exact absurd (show ([42] : List UInt8) = [43] from h) (by decide))]
  rw [decide_eq_false (show ¬ (G.str [42]).toStr = [45] by intro h; exact absurd (show ([42] : List UInt8) = [45] from h) (by decide))]
  rw [decide_eq_true (show (G.str [42]).toStr = [42] from rfl)]
  simp only [cnd]
  rw [show C (n + 1) 48 [.val (.sl (G.sl l).toList), .val (.int .i64 2)] = some (.bool (l.all (fits 2)), []) from all_eq n l 2 hl hn]
  simp only [told_eq, Option.bind_some, told_again]
  rfl
theorem op_47 (n : Nat) (l : List G) (hl : l.length ≤ maxLen) (hn : l.length < n) : C (n + 2) 34 [.val (.str [47]), .val (.sl l)] = some (told (decide ((l.length : Int) = 2)) (l.all (fits 2)) 2) := by
  rw [f34_eq]
  rw [decide_eq_false (show ¬ (G.str [47]).toStr = [73, 83, 78, 85, 76, 76] by intro h; exact absurd (show ([47] : List UInt8) = [73, 83, 78, 85, 76, 76] from h) (by decide))]
  rw [decide_eq_false (show ¬ (G.str [47]).toStr = [78, 79, 84, 78, 85, 76, 76] by intro h; exact absurd (show ([47] : List UInt8) = [78, 79, 84, 78, 85, 76, 76] from h) (by decide))]
  rw [decide_eq_false (show ¬ (G.str [47]).toStr = [78, 79, 84] by intro h; exact absurd (show ([47] : List UInt8) = [78, 79, 84] from h) (by decide))]
  rw [decide_eq_false (show ¬ (G.str [47]).toStr = [78, 69, 71] by intro h; exact absurd (show ([47] : List UInt8) = [78, 69, 71] from h) (by decide))]
  rw [decide_eq_false (show ¬ (G.str [47]).toStr = [79, 82] by intro h; exact absurd (show ([47] : List UInt8) = [79, 82] from h) (by decide))]
  rw [decide_eq_false (show ¬ (G.str [47]).toStr = [65, 78, 68] by intro h; exact absurd (show ([47] : List UInt8) = [65, 78, 68] from h) (by decide))]
  rw [decide_eq_false (show ¬ (G.str [47]).toStr = [43] by intro h; exact absurd (show ([47] : List UInt8) = [43] from h) (by decide))]
  rw [decide_eq_false (show ¬ (G.str [47]).toStr = [45] by intro h; exact absurd (show ([47] : List UInt8) = [45] from h) (by decide))]
  rw [decide_eq_false (show ¬ (G.str [47]).toStr = [42] by intro h; exact absurd (show ([47] : List UInt8) = [42] from h) (by decide))]
  rw [decide_eq_true (show (G.str [47]).toStr = [47] from rfl)]
  simp only [cnd]
  rw [show C (n + 1) 48 [.val (.sl (G.sl l).toList), .val (.int .i64 2)] = some (.bool (l.all (fits 2)), []) from all_eq n l 2 hl hn]
  simp only [told_eq, Option.bind_some, told_again]
  rfl
theorem op_37 (n : Nat) (l : List G) (hl : l.length ≤ maxLen) (hn : l.length < n) : C (n + 2) 34 [.val (.str [37]), .val (.sl l)] = some (told (decide ((l.length : Int) = 2)) (l.all (fits 2)) 2) := by
  rw [f34_eq]
  rw [decide_eq_false (show ¬ (G.str [37]).toStr = [73, 83, 78, 85, 76, 76] by intro h; exact absurd (show ([37] : List UInt8) = [73, 83, 78, 85, 76, 76] from h) (by decide))]
  rw [decide_eq_false (show ¬ (G.str [37]).toStr = [78, 79, 84, 78, 85, 76, 76] by intro h; exact absurd (show ([37] : List UInt8) = [78, 79, 84, 78, 85, 76, 76] from h) (by decide))]
  rw [decide_eq_false (show ¬ (G.str [37]).toStr = [78, 79, 84] by intro h; exact absurd (show ([37] : List UInt8) = [78, 79, 84] from h) (by decide))]
  rw [decide_eq_false (show ¬ (G.str [37]).toStr = [78, 69, 71] by intro h; exact absurd (show ([37] : List UInt8) = [78, 69, 71] from h) (by decide))]
  rw [decide_eq_false (show ¬ (G.str [37]).toStr = [79, 82] by intro h; exact absurd (show ([37] : List UInt8) = [79, 82] from h) (by decide))]
  rw [decide_eq_false (show ¬ (G.str [37]).toStr = [65, 78, 68] by intro h; exact absurd (show ([37] : List UInt8) = [65, 78, 68] from h) (by decide))]
  rw [decide_eq_false (show ¬ (G.str [37]).toStr = [43] by intro h; exact absurd (show ([37] : List UInt8) = [43] from h) (by decide))]
  rw [decide_eq_false (show ¬ (G.str [37]).toStr = [45] by intro h; exact absurd (show ([37] : List UInt8) = [45] from h) (by decide))]
  rw [decide_eq_false (show ¬ (G.str [37]).toStr = [42] by intro h; exact absurd (show ([37] : List UInt8) = [42] from h) (by decide))]
  rw [decide_eq_false (show ¬ (G.str [37]).toStr = [47] by intro h; exact absurd (show ([37] : List UInt8) = [47] from h) (by decide))]
  rw [decide_eq_true (show (G.str [37]).toStr = [37] from rfl)]
  simp only [cnd]
  rw [show C (n + 1) 48 [.val (.sl (G.sl l).toList), .val (.int .i64 2)] = some (.bool (l.all (fits 2)), []) from all_eq n l 2 hl hn]
  simp only [told_eq, Option.bind_some, told_again]
  rfl
theorem op_61 (n : Nat) (l : List G) (hl : l.length ≤ maxLen) (hn : l.length < n) : C (n + 2) 34 [.val (.str [61]), .val (.sl l)] = some (told (decide ((l.length : Int) = 2)) (alike2 l) 1) := by
  rw [f34_eq]
  rw [decide_eq_false (show ¬ (G.str [61]).toStr = [73, 83, 78, 85, 76, 76] by intro h; exact absurd (show ([61] : List UInt8) = [73, 83, 78, 85, 76, 76] from h) (by decide))]
  rw [decide_eq_false (show ¬ (G.str [61]).toStr = [78, 79, 84, 78, 85, 76, 76] by intro h; exact absurd (show ([61] : List UInt8) = [78, 79, 84, 78, 85, 76, 76] from h) (by decide))]
  rw [decide_eq_false (show ¬ (G.str [61]).toStr = [78, 79, 84] by intro h; exact absurd (show ([61] : List UInt8) = [78, 79, 84] from h) (by decide))]
  rw [decide_eq_false (show ¬ (G.str [61]).toStr = [78, 69, 71] by intro h; exact absurd (show ([61] : List UInt8) = [78, 69, 71] from h) (by decide))]
  rw [decide_eq_false (show ¬ (G.str [61]).toStr = [79, 82] by intro h; exact absurd (show ([61] : List UInt8) = [79, 82] from h) (by decide))]
  rw [decide_eq_false (show ¬ (G.str [61]).toStr = [65, 78, 68] by intro h; exact absurd (show ([61] : List UInt8) = [65, 78, 68] from h) (by decide))]
  rw [decide_eq_false (show ¬ (G.str [61]).toStr = [43] by intro h; exact absurd (show ([61] : List UInt8) = [43] from h) (by decide))]
  rw [decide_eq_false (show ¬ (G.str [61]).toStr = [45] by intro h; exact absurd (show ([61] : List UInt8) = [45] from h) (by decide))]
  rw [decide_eq_false (show ¬ (G.str [61]).toStr = [42] by intro h; exact absurd (show ([61] : List UInt8) = [42] from h) (by decide))]
  rw [decide_eq_false (show ¬ (G.str [61]).toStr = [47] by intro h; exact absurd (show ([61] : List UInt8) = [47] from h) (by decide))]
  rw [decide_eq_false (show ¬ (G.str [61]).toStr = [37] by intro h; exact absurd (show ([61] : List UInt8) = [37] from h) (by decide))]
  rw [decide_eq_true (show (G.str [61]).toStr = [61] from rfl)]
  simp only [cnd]
  exact cmp_block (n + 1) l (by omega)
theorem op_60_62 (n : Nat) (l : List G) (hl : l.length ≤ maxLen) (hn : l.length < n) : C (n + 2) 34 [.val (.str [60, 62]), .val (.sl l)] = some (told (decide ((l.length : Int) = 2)) (alike2 l) 1) := by
  rw [f34_eq]
  rw [decide_eq_false (show ¬ (G.str [60, 62]).toStr = [73, 83, 78, 85, 76, 76] by intro h; exact absurd (show ([60, 62] : List UInt8) = [73, 83, 78, 85, 76, 76] from h) (by decide))]
  rw [decide_eq_false (show ¬ (G.str [60, 62]).toStr = [78, 79, 84, 78, 85, 76, 76] by intro h; exact absurd (show ([60, 62] : List UInt8) = [78, 79, 84, 78, 85, 76, 76] from h) (by decide))]
  rw [decide_eq_false (show ¬ (G.str [60, 62]).toStr = [78, 79, 84] by intro h; exact absurd (show ([60, 62] : List UInt8) = [78, 79, 84] from h) (by decide))]
  rw [decide_eq_false (show ¬ (G.str [60, 62]).toStr = [78, 69, 71] by intro h; exact absurd (show ([60, 62] : List UInt8) = [78, 69, 71] from h) (by decide))]
  rw [decide_eq_false (show ¬ (G.str [60, 62]).toStr = [79, 82] by intro h; exact absurd (show ([60, 62] : List UInt8) = [79, 82] from h) (by decide))]
  rw [decide_eq_false (show ¬ (G.str [60, 62]).toStr = [65, 78, 68] by intro h; exact absurd (show ([60, 62] : List UInt8) = [65, 78, 68] from h) (by decide))]
  rw [decide_eq_false (show ¬ (G.str [60, 62]).toStr = [43] by intro h; exact absurd (show ([60, 62] : List UInt8) = [43] from h) (by decide))]
  rw [decide_eq_false (show ¬ (G.str [60, 62]).toStr = [45] by intro h; exact absurd (show ([60, 62] : List UInt8) = [45] from h) (by decide))]
  rw [decide_eq_false (show ¬ (G.str [60, 62]).toStr = [42] by intro h; exact absurd (show ([60, 62] : List UInt8) = [42] from h) (by decide))]
  rw [decide_eq_false (show ¬ (G.str [60, 62]).toStr = [47] by intro h; exact absurd (show ([60, 62] : List UInt8) = [47] from h) (by decide))]
  rw [decide_eq_false (show ¬ (G.str [60, 62]).toStr = [37] by intro h; exact absurd (show ([60, 62] : List UInt8) = [37] from h) (by decide))]
  rw [decide_eq_false (show ¬ (G.str [60, 62]).toStr = [61] by intro h; exact absurd (show ([60, 62] : List UInt8) = [61] from h) (by decide))]
  rw [decide_eq_true (show (G.str [60, 62]).toStr = [60, 62] from rfl)]
  simp only [cnd]
  exact cmp_block (n + 1) l (by omega)
theorem op_60 (n : Nat) (l : List G) (hl : l.length ≤ maxLen) (hn : l.length < n) : C (n + 2) 34 [.val (.str [60]), .val (.sl l)] = some (told (decide ((l.length : Int) = 2)) (alike2 l) 1) := by
  rw [f34_eq]
  rw [decide_eq_false (show ¬ (G.str [60]).toStr = [73, 83, 78, 85, 76, 76] by intro h; exact absurd (show ([60] : List UInt8) = [73, 83, 78, 85, 76, 76] from h) (by decide))]
  rw [decide_eq_false (show ¬ (G.str [60]).toStr = [78, 79, 84, 78, 85, 76, 76] by intro h; exact absurd (show ([60] : List UInt8) = [78, 79, 84, 78, 85, 76, 76] from h) (by decide))]
  rw [decide_eq_false (show ¬ (G.str [60]).toStr = [78, 79, 84] by intro h; exact absurd (show ([60] : List UInt8) = [78, 79, 84] from h) (by decide))]
  rw [decide_eq_false (show ¬ (G.str [60]).toStr = [78, 69, 71] by intro h; exact absurd (show ([60] : List UInt8) = [78, 69, 71] from h) (by decide))]
  rw [decide_eq_false (show ¬ (G.str [60]).toStr = [79, 82] by intro h; exact absurd (show ([60] : List UInt8) = [79, 82] from h) (by decide))]
  rw [decide_eq_false (show ¬ (G.str [60]).toStr = [65, 78, 68] by intro h; exact absurd (show ([60] : List UInt8) = [65, 78, 68] from h) (by decide))]
  rw [decide_eq_false (show ¬ (G.str [60]).toStr = [43] by intro h; exact absurd (show ([60] : List UInt8) = [43] from h) (by decide))]
  rw [decide_eq_false (show ¬ (G.str [60]).toStr = [45] by intro h; exact absurd (show ([60] : List UInt8) = [45] from h) (by decide))]
  rw [decide_eq_false (show ¬ (G.str [60]).toStr = [42] by intro h; exact absurd (show ([60] : List UInt8) = [42] from h) (by decide))]
  rw [decide_eq_false (show ¬ (G.str [60]).toStr = [47] by intro h; exact absurd (show ([60] : List UInt8) = [47] from h) (by decide))]
  rw [decide_eq_false (show ¬ (G.str [60]).toStr = [37] by intro h; exact absurd (show ([60] : List UInt8) = [37] from h) (by decide))]
  rw [decide_eq_false (show ¬ (G.str [60]).toStr = [61] by intro h; exact absurd (show ([60] : List UInt8) = [61] from h) (by decide))]
  rw [decide_eq_false (show ¬ (G.str [60]).toStr = [60, 62] by intro h; exact absurd (show ([60] : List UInt8) = [60, 62] from h) (by decide))]
  rw [decide_eq_true (show (G.str [60]).toStr = [60] from rfl)]
  simp only [cnd]
  exact cmp_block (n + 1) l (by omega)
theorem op_60_61 (n : Nat) (l : List G) (hl : l.length ≤ maxLen) (hn : l.length < n) : C (n + 2) 34 [.val (.str [60, 61]), .val (.sl l)] = some (told (decide ((l.length : Int) = 2)) (alike2 l) 1) := by
  rw [f34_eq]
  rw [decide_eq_false (show ¬ (G.str [60, 61]).toStr = [73, 83, 78, 85, 76, 76] by intro h; exact absurd (show ([60, 61] : List UInt8) = [73, 83, 78, 85, 76, 76] from h) (by decide))]
  rw [decide_eq_false (show ¬ (G.str [60, 61]).toStr = [78, 79, 84, 78, 85, 76, 76] by intro h; exact absurd (show ([60, 61] : List UInt8) = [78, 79, 84, 78, 85, 76, 76] from h) (by decide))]
  rw [decide_eq_false (show ¬ (G.str [60, 61]).toStr = [78, 79, 84] by intro h; exact absurd (show ([60, 61] : List UInt8) = [78, 79, 84] from h) (by decide))]
  rw [decide_eq_false (show ¬ (G.str [60, 61]).toStr = [78, 69, 71] by intro h; exact absurd (show ([60, 61] : List UInt8) = [78, 69, 71] from h) (by decide))]
  rw [decide_eq_false (show ¬ (G.str [60, 61]).toStr = [79, 82] by intro h; exact absurd (show ([60, 61] : List UInt8) = [79, 82] from h) (by decide))]
  rw [decide_eq_false (show ¬ (G.str [60, 61]).toStr = [65, 78, 68] by intro h; exact absurd (show ([60, 61] : List UInt8) = [65, 78, 68] from h) (by decide))]
  rw [decide_eq_false (show ¬ (G.str [60, 61]).toStr = [43] by intro h; exact absurd (show ([60, 61] : List UInt8) = [43] from h) (by decide))]
  rw [decide_eq_false (show ¬ (G.str [60, 61]).toStr = [45] by intro h; exact absurd (show ([60, 61] : List UInt8) = [45] from h) (by decide))]
  rw [decide_eq_false (show ¬ (G.str [60, 61]).toStr = [42] by intro h; exact absurd (show ([60, 61] : List UInt8) = [42] from h) (by decide))]
  rw [decide_eq_false (show ¬ (G.str [60, 61]).toStr = [47] by intro h; exact absurd (show ([60, 61] : List UInt8) = [47] from h) (by decide))]
  rw [decide_eq_false (show ¬ (G.str [60, 61]).toStr = [37] by intro h; exact absurd (show ([60, 61] : List UInt8) = [37] from h) (by decide))]
  rw [decide_eq_false (show ¬ (G.str [60, 61]).toStr = [61] by intro h; exact absurd (show ([60, 61] : List UInt8) = [61] from h) (by decide))]
  rw [decide_eq_false (show ¬ (G.str [60, 61]).toStr = [60, 62] by intro h; exact absurd (show ([60, 61] : List UInt8) = [60, 62] from h) (by decide))]
  rw [decide_eq_false (show ¬ (G.str [60, 61]).toStr = [60] by intro h; exact absurd (show ([60, 61] : List UInt8) = [60] from h) (by decide))]
  rw [decide_eq_true (show (G.str [60, 61]).toStr = [60, 61] from rfl)]
  simp only [cnd]
  exact cmp_block (n + 1) l (by omega)
theorem op_62 (n : Nat) (l : List G) (hl : l.length ≤ maxLen) (hn : l.length < n) : C (n + 2) 34 [.val (.str [62]), .val (.sl l)] = some (told (decide ((l.length : Int) = 2)) (alike2 l) 1) := by
  rw [f34_eq]
  rw [decide_eq_false (show ¬ (G.str [62]).toStr = [73, 83, 78, 85, 76, 76] by intro h; exact absurd (show ([62] : List UInt8) = [73, 83, 78, 85, 76, 76] from h) (by decide))]
  rw [decide_eq_false (show ¬ (G.str [62]).toStr = [78, 79, 84, 78, 85, 76, 76] by intro h; exact absurd (show ([62] : List UInt8) = [78, 79, 84, 78, 85, 76, 76] from h) (by decide))]
  rw [decide_eq_false (show ¬ (G.str [62]).toStr = [78, 79, 84] by intro h; exact absurd (show ([62] : List UInt8) = [78, 79, 84] from h) (by decide))]
  rw [decide_eq_false (show ¬ (G.str [62]).toStr = [78, 69, 71] by intro h; exact absurd (show ([62] : List UInt8) = [78, 69, 71] from h) (by decide))]
  rw [decide_eq_false (show ¬ (G.str [62]).toStr = [79, 82] by intro h; exact absurd (show ([62] : List UInt8) = [79, 82] from h) (by decide))]
  rw [decide_eq_false (show ¬ (G.str [62]).toStr = [65, 78, 68] by intro h; exact absurd (show ([62] : List UInt8) = [65, 78, 68] from h) (by decide))]
  rw [decide_eq_false (show ¬ (G.str [62]).toStr = [43] by intro h; exact absurd (show ([62] : List UInt8) = [43] from h) (by decide))]
  rw [decide_eq_false (show ¬ (G.str [62]).toStr = [45] by intro h; exact absurd (show ([62] : List UInt8) = [45] from h) (by decide))]
  rw [decide_eq_false (show ¬ (G.str [62]).toStr = [42] by intro h; exact absurd (show ([62] : List UInt8) = [42] from h) (by decide))]
  rw [decide_eq_false (show ¬ (G.str [62]).toStr = [47] by intro h; exact absurd (show ([62] : List UInt8) = [47] from h) (by decide))]
  rw [decide_eq_false (show ¬ (G.str [62]).toStr = [37] by intro h; exact absurd (show ([62] : List UInt8) = [37] from h) (by decide))]
  rw [decide_eq_false (show ¬ (G.str [62]).toStr = [61] by intro h; exact absurd (show ([62] : List UInt8) = [61] from h) (by decide))]
  rw [decide_eq_false (show ¬ (G.str [62]).toStr = [60, 62] by intro h; exact absurd (show ([62] : List UInt8) = [60, 62] from h) (by decide))]
  rw [decide_eq_false (show ¬ (G.str [62]).toStr = [60] by intro h; exact absurd (show ([62] : List UInt8) = [60] from h) (by decide))]
  rw [decide_eq_false (show ¬ (G.str [62]).toStr = [60, 61] by intro h; exact absurd (show ([62] : List UInt8) = [60, 61] from h) (by decide))]
  rw [decide_eq_true (show (G.str [62]).toStr = [62] from rfl)]
  simp only [cnd]
  exact cmp_block (n + 1) l (by omega)
theorem op_62_61 (n : Nat) (l : List G) (hl : l.length ≤ maxLen) (hn : l.length < n) : C (n + 2) 34 [.val (.str [62, 61]), .val (.sl l)] = some (told (decide ((l.length : Int) = 2)) (alike2 l) 1) := by
  rw [f34_eq]
  rw [decide_eq_false (show ¬ (G.str [62, 61]).toStr = [73, 83, 78, 85, 76, 76] by intro h; exact absurd (show ([62, 61] : List UInt8) = [73, 83, 78, 85, 76, 76] from h) (by decide))]
  rw [decide_eq_false (show ¬ (G.str [62, 61]).toStr = [78, 79, 84, 78, 85, 76, 76] by intro h; exact absurd (show ([62, 61] : List UInt8) = [78, 79, 84, 78, 85, 76, 76] from h) (by decide))]
  rw [decide_eq_false (show ¬ (G.str [62, 61]).toStr = [78, 79, 84] by intro h; exact absurd (show ([62, 61] : List UInt8) = [78, 79, 84] from h) (by decide))]
  rw [decide_eq_false (show ¬ (G.str [62, 61]).toStr = [78, 69, 71] by intro h; exact absurd (show ([62, 61] : List UInt8) = [78, 69, 71] from h) (by decide))]
  rw [decide_eq_false (show ¬ (G.str [62, 61]).toStr = [79, 82] by intro h; exact absurd (show ([62, 61] : List UInt8) = [79, 82] from h) (by decide))]
  rw [decide_eq_false (show ¬ (G.str [62, 61]).toStr = [65, 78, 68] by intro h; exact absurd (show ([62, 61] : List UInt8) = [65, 78, 68] from h) (by decide))]
  rw [decide_eq_false (show ¬ (G.str [62, 61]).toStr = [43] by intro h; exact absurd (show ([62, 61] : List UInt8) = [43] from h) (by decide))]
  rw [decide_eq_false (show ¬ (G.str [62, 61]).toStr = [45] by intro h; exact absurd (show ([62, 61] : List UInt8) = [45] from h) (by decide))]
  rw [decide_eq_false (show ¬ (G.str [62, 61]).toStr = [42] by intro h; exact absurd (show ([62, 61] : List UInt8) = [42] from h) (by decide))]
  rw [decide_eq_false (show ¬ (G.str [62, 61]).toStr = [47] by intro h; exact absurd (show ([62, 61] : List UInt8) = [47] from h) (by decide))]
  rw [decide_eq_false (show ¬ (G.str [62, 61]).toStr = [37] by intro h; exact absurd (show ([62, 61] : List UInt8) = [37] from h) (by decide))]
  rw [decide_eq_false (show ¬ (G.str [62, 61]).toStr = [61] by intro h; exact absurd (show ([62, 61] : List UInt8) = [61] from h) (by decide))]
  rw [decide_eq_false (show ¬ (G.str [62, 61]).toStr = [60, 62] by intro h; exact absurd (show ([62, 61] : List UInt8) = [60, 62] from h) (by decide))]
  rw [decide_eq_false (show ¬ (G.str [62, 61]).toStr = [60] by intro h; exact absurd (show ([62, 61] : List UInt8) = [60] from h) (by decide))]
  rw [decide_eq_false (show ¬ (G.str [62, 61]).toStr = [60, 61] by intro h; exact absurd (show ([62, 61] : List UInt8) = [60, 61] from h) (by decide))]
  rw [decide_eq_false (show ¬ (G.str [62, 61]).toStr = [62] by intro h; exact absurd (show ([62, 61] : List UInt8) = [62] from h) (by decide))]
  rw [decide_eq_true (show (G.str [62, 61]).toStr = [62, 61] from rfl)]
  simp only [cnd]
  exact cmp_block (n + 1) l (by omega)
end Go.Proofs.Ytpmecpmankpcbaa.Pure

namespace Go.Proofs.Ytpmecpmankpcbaa.Pure
open Go Go.Proofs Go.Proofs.Ytpmecpmankpcbaa.Rf
set_option linter.unusedVariables false
set_option linter.unusedSimpArgs false
/-- What kindOp does behind its first loop, but for the value's check. -/
noncomputable def refTail (n m : Nat) (a0 a1 e : G) (l : List G) : Option R :=
  (C n 49 [.val (.str (e.fld 1).toStr)]).bind fun r1 => cnd (decide (r1.1.toInt = 0)) (some (.tu [.int .i64 0, .int .i64 9], [])) ((C n 49 [.val (.str (e.fld 1).toStr)]).bind fun r2 => cnd (!decide (r2.1.toInt = (l.length : Int))) (some (.tu [.int .i64 0, .int .i64 9], [])) (L37_1 n m a0 a1 0 e l))
def refOf (a : Int) (lg ar : Bool) (l : List G) : R := if (l.length : Int) = a then (if l.any (bad lg ar) then (.tu [.int .i64 0, .int .i64 15], []) else tailOf lg ar l) else (.tu [.int .i64 0, .int .i64 9], [])
theorem ref_gen (n m : Nat) (e : G) (l : List G) (a : Int) (lg ar : Bool) (ha : a ≠ 0) (h49 : C n 49 [.val (.str (e.fld 1).toStr)] = some (.int .i64 a, [])) (h50 : C n 50 [.val (.str (e.fld 1).toStr)] = some (.bool lg, [])) (h42 : C n 42 [.val (.str (e.fld 1).toStr)] = some (.bool ar, [])) (hl : l.length ≤ maxLen) (hm : l.length < m) (a0 a1 : G) :
    refTail n m a0 a1 e l = some (refOf a lg ar l) := by
  have hk := kind_loop n e l lg ar h50 h42 hl a0 a1 l.length m 0 (by omega) hm
  rw [List.drop_zero] at hk
  unfold refTail refOf
  rw [h49]
  show cnd (decide (a = 0)) _ (cnd (!decide (a = (l.length : Int))) _ _) = _
  rw [decide_eq_false ha]
  simp only [cnd]
  by_cases h : (l.length : Int) = a
  · rw [decide_eq_true h.symm, if_pos h]
    exact hk
  · rw [decide_eq_false (fun e => h e.symm), if_neg h]
    rfl
theorem ref_none (n m : Nat) (e : G) (l : List G) (h49 : C n 49 [.val (.str (e.fld 1).toStr)] = some (.int .i64 0, [])) (a0 a1 : G) : refTail n m a0 a1 e l = some (.tu [.int .i64 0, .int .i64 9], []) := by
  unfold refTail
  rw [h49]
  rfl
theorem any_bad1 : ∀ (l : List G), l.any (bad true false) = !l.all (fits 1)
  | [] => rfl
  | x :: l => by simp only [List.any_cons, List.all_cons, any_bad1 l, bad]; cases fits 1 x <;> cases l.all (fits 1) <;> rfl
theorem any_bad2 : ∀ (l : List G), l.any (bad false true) = !l.all (fits 2)
  | [] => rfl
  | x :: l => by simp only [List.any_cons, List.all_cons, any_bad2 l, bad]; cases fits 2 x <;> cases l.all (fits 2) <;> rfl
theorem any_bad0 : ∀ (l : List G), l.any (bad false false) = false
  | [] => rfl
  | x :: l => by simp only [List.any_cons, any_bad0 l, bad]; rfl
theorem ref_log (l : List G) (a : Int) : refOf a true false l = told (decide ((l.length : Int) = a)) (l.all (fits 1)) 1 := by
  unfold refOf told
  rw [any_bad1]
  by_cases h : (l.length : Int) = a
  · rw [if_pos h, decide_eq_true h]; cases l.all (fits 1) <;> rfl
  · rw [if_neg h, decide_eq_false h]; rfl
theorem ref_ar (l : List G) (a : Int) : refOf a false true l = told (decide ((l.length : Int) = a)) (l.all (fits 2)) 2 := by
  unfold refOf told
  rw [any_bad2]
  by_cases h : (l.length : Int) = a
  · rw [if_pos h, decide_eq_true h]; cases l.all (fits 2) <;> rfl
  · rw [if_neg h, decide_eq_false h]; rfl
theorem ref_is (l : List G) : refOf 1 false false l = told (decide ((l.length : Int) = 1)) true 1 := by
  unfold refOf told
  rw [any_bad0]
  by_cases h : (l.length : Int) = 1
  · rw [if_pos h, decide_eq_true h]
    have h2 : ¬ (l.length = 2) := by omega
    simp only [tailOf, differ, decide_eq_false h2]
    rfl
  · rw [if_neg h, decide_eq_false h]; rfl
theorem ref_cmp (l : List G) : refOf 2 false false l = told (decide ((l.length : Int) = 2)) (alike2 l) 1 := by
  unfold refOf told
  rw [any_bad0]
  by_cases h : (l.length : Int) = 2
  · rw [if_pos h, decide_eq_true h]
    have h2 : l.length = 2 := by omega
    have h3 : differ l = !alike2 l := by
      unfold differ alike2
      rw [decide_eq_true h2]
      show (true && (!decide ((l.getD 0 default).toInt = (l.getD 1 default).toInt) && (!decide ((l.getD 0 default).toInt = 0) && !decide ((l.getD 1 default).toInt = 0)))) = _
      simp only [Bool.true_and, Bool.not_or]
    simp only [tailOf, h3]
    cases alike2 l <;> rfl
  · rw [if_neg h, decide_eq_false h]; rfl
end Go.Proofs.Ytpmecpmankpcbaa.Pure

namespace Go.Proofs.Ytpmecpmankpcbaa.Pure
open Go Go.Proofs Go.Proofs.Ytpmecpmankpcbaa.Rf
set_option linter.unusedVariables false
set_option linter.unusedSimpArgs false
theorem a49_73_83_78_85_76_76 (n : Nat) : C (n + 1) 49 [.val (.str [73, 83, 78, 85, 76, 76])] = some (.int .i64 1, []) := by kernel_rfl
theorem a50_73_83_78_85_76_76 (n : Nat) : C (n + 1) 50 [.val (.str [73, 83, 78, 85, 76, 76])] = some (.bool false, []) := by kernel_rfl
theorem a42_73_83_78_85_76_76 (n : Nat) : C (n + 1) 42 [.val (.str [73, 83, 78, 85, 76, 76])] = some (.bool false, []) := by kernel_rfl
theorem a49_78_79_84_78_85_76_76 (n : Nat) : C (n + 1) 49 [.val (.str [78, 79, 84, 78, 85, 76, 76])] = some (.int .i64 1, []) := by kernel_rfl
theorem a50_78_79_84_78_85_76_76 (n : Nat) : C (n + 1) 50 [.val (.str [78, 79, 84, 78, 85, 76, 76])] = some (.bool false, []) := by kernel_rfl
theorem a42_78_79_84_78_85_76_76 (n : Nat) : C (n + 1) 42 [.val (.str [78, 79, 84, 78, 85, 76, 76])] = some (.bool false, []) := by kernel_rfl
theorem a49_78_79_84 (n : Nat) : C (n + 1) 49 [.val (.str [78, 79, 84])] = some (.int .i64 1, []) := by kernel_rfl
theorem a50_78_79_84 (n : Nat) : C (n + 1) 50 [.val (.str [78, 79, 84])] = some (.bool true, []) := by kernel_rfl
theorem a42_78_79_84 (n : Nat) : C (n + 1) 42 [.val (.str [78, 79, 84])] = some (.bool false, []) := by kernel_rfl
theorem a49_78_69_71 (n : Nat) : C (n + 1) 49 [.val (.str [78, 69, 71])] = some (.int .i64 1, []) := by kernel_rfl
theorem a50_78_69_71 (n : Nat) : C (n + 1) 50 [.val (.str [78, 69, 71])] = some (.bool false, []) := by kernel_rfl
theorem a42_78_69_71 (n : Nat) : C (n + 1) 42 [.val (.str [78, 69, 71])] = some (.bool true, []) := by kernel_rfl
theorem a49_79_82 (n : Nat) : C (n + 1) 49 [.val (.str [79, 82])] = some (.int .i64 2, []) := by kernel_rfl
theorem a50_79_82 (n : Nat) : C (n + 1) 50 [.val (.str [79, 82])] = some (.bool true, []) := by kernel_rfl
theorem a42_79_82 (n : Nat) : C (n + 1) 42 [.val (.str [79, 82])] = some (.bool false, []) := by kernel_rfl
theorem a49_65_78_68 (n : Nat) : C (n + 1) 49 [.val (.str [65, 78, 68])] = some (.int .i64 2, []) := by kernel_rfl
theorem a50_65_78_68 (n : Nat) : C (n + 1) 50 [.val (.str [65, 78, 68])] = some (.bool true, []) := by kernel_rfl
theorem a42_65_78_68 (n : Nat) : C (n + 1) 42 [.val (.str [65, 78, 68])] = some (.bool false, []) := by kernel_rfl
theorem a49_43 (n : Nat) : C (n + 1) 49 [.val (.str [43])] = some (.int .i64 2, []) := by kernel_rfl
theorem a50_43 (n : Nat) : C (n + 1) 50 [.val (.str [43])] = some (.bool false, []) := by kernel_rfl
theorem a42_43 (n : Nat) : C (n + 1) 42 [.val (.str [43])] = some (.bool true, []) := by kernel_rfl
theorem a49_45 (n : Nat) : C (n + 1) 49 [.val (.str [45])] = some (.int .i64 2, []) := by kernel_rfl
theorem a50_45 (n : Nat) : C (n + 1) 50 [.val (.str [45])] = some (.bool false, []) := by kernel_rfl
theorem a42_45 (n : Nat) : C (n + 1) 42 [.val (.str [45])] = some (.bool true, []) := by kernel_rfl
theorem a49_42 (n : Nat) : C (n + 1) 49 [.val (.str [42])] = some (.int .i64 2, []) := by kernel_rfl
theorem a50_42 (n : Nat) : C (n + 1) 50 [.val (.str [42])] = some (.bool false, []) := by kernel_rfl
theorem a42_42 (n : Nat) : C (n + 1) 42 [.val (.str [42])] = some (.bool true, []) := by kernel_rfl
theorem a49_47 (n : Nat) : C (n + 1) 49 [.val (.str [47])] = some (.int .i64 2, []) := by kernel_rfl
theorem a50_47 (n : Nat) : C (n + 1) 50 [.val (.str [47])] = some (.bool false, []) := by kernel_rfl
theorem a42_47 (n : Nat) : C (n + 1) 42 [.val (.str [47])] = some (.bool true, []) := by kernel_rfl
theorem a49_37 (n : Nat) : C (n + 1) 49 [.val (.str [37])] = some (.int .i64 2, []) := by kernel_rfl
theorem a50_37 (n : Nat) : C (n + 1) 50 [.val (.str [37])] = some (.bool false, []) := by kernel_rfl
theorem a42_37 (n : Nat) : C (n + 1) 42 [.val (.str [37])] = some (.bool true, []) := by kernel_rfl
theorem a49_61 (n : Nat) : C (n + 1) 49 [.val (.str [61])] = some (.int .i64 2, []) := by kernel_rfl
theorem a50_61 (n : Nat) : C (n + 1) 50 [.val (.str [61])] = some (.bool false, []) := by kernel_rfl
theorem a42_61 (n : Nat) : C (n + 1) 42 [.val (.str [61])] = some (.bool false, []) := by kernel_rfl
theorem a49_60_62 (n : Nat) : C (n + 1) 49 [.val (.str [60, 62])] = some (.int .i64 2, []) := by kernel_rfl
theorem a50_60_62 (n : Nat) : C (n + 1) 50 [.val (.str [60, 62])] = some (.bool false, []) := by kernel_rfl
theorem a42_60_62 (n : Nat) : C (n + 1) 42 [.val (.str [60, 62])] = some (.bool false, []) := by kernel_rfl
theorem a49_60 (n : Nat) : C (n + 1) 49 [.val (.str [60])] = some (.int .i64 2, []) := by kernel_rfl
theorem a50_60 (n : Nat) : C (n + 1) 50 [.val (.str [60])] = some (.bool false, []) := by kernel_rfl
theorem a42_60 (n : Nat) : C (n + 1) 42 [.val (.str [60])] = some (.bool false, []) := by kernel_rfl
theorem a49_60_61 (n : Nat) : C (n + 1) 49 [.val (.str [60, 61])] = some (.int .i64 2, []) := by kernel_rfl
theorem a50_60_61 (n : Nat) : C (n + 1) 50 [.val (.str [60, 61])] = some (.bool false, []) := by kernel_rfl
theorem a42_60_61 (n : Nat) : C (n + 1) 42 [.val (.str [60, 61])] = some (.bool false, []) := by kernel_rfl
theorem a49_62 (n : Nat) : C (n + 1) 49 [.val (.str [62])] = some (.int .i64 2, []) := by kernel_rfl
theorem a50_62 (n : Nat) : C (n + 1) 50 [.val (.str [62])] = some (.bool false, []) := by kernel_rfl
theorem a42_62 (n : Nat) : C (n + 1) 42 [.val (.str [62])] = some (.bool false, []) := by kernel_rfl
theorem a49_62_61 (n : Nat) : C (n + 1) 49 [.val (.str [62, 61])] = some (.int .i64 2, []) := by kernel_rfl
theorem a50_62_61 (n : Nat) : C (n + 1) 50 [.val (.str [62, 61])] = some (.bool false, []) := by kernel_rfl
theorem a42_62_61 (n : Nat) : C (n + 1) 42 [.val (.str [62, 61])] = some (.bool false, []) := by kernel_rfl
theorem told_form (x y : Bool) (k : Int) : ∃ a b : Int, told x y k = (.tu [.int .i64 a, .int .i64 b], []) := by
  cases x
  · exact ⟨0, 9, rfl⟩
  · cases y
    · exact ⟨0, 15, rfl⟩
    · exact ⟨k, 0, rfl⟩
theorem op_same (n n' m : Nat) (e : G) (s : List UInt8) (hs : (e.fld 1).toStr = s) (l : List G) (hl : l.length ≤ maxLen) (hn : l.length < n) (hm : l.length < m) (a0 a1 : G) : ∃ r : R, C (n + 2) 34 [.val (.str s), .val (.sl l)] = some r ∧ refTail (n' + 1) m a0 a1 e l = some r ∧ ∃ a b : Int, r = (.tu [.int .i64 a, .int .i64 b], []) := by
  by_cases h0 : s = [73, 83, 78, 85, 76, 76]
  · rw [h0] at hs ⊢
    refine ⟨_, op_73_83_78_85_76_76 n l hl hn, ?_, told_form _ _ _⟩
    rw [ref_gen (n' + 1) m e l 1 false false (by decide) (by rw [hs]; exact a49_73_83_78_85_76_76 n') (by rw [hs]; exact a50_73_83_78_85_76_76 n') (by rw [hs]; exact a42_73_83_78_85_76_76 n') hl hm a0 a1, ref_is l]
  by_cases h1 : s = [78, 79, 84, 78, 85, 76, 76]
  · rw [h1] at hs ⊢
    refine ⟨_, op_78_79_84_78_85_76_76 n l hl hn, ?_, told_form _ _ _⟩
    rw [ref_gen (n' + 1) m e l 1 false false (by decide) (by rw [hs]; exact a49_78_79_84_78_85_76_76 n') (by rw [hs]; exact a50_78_79_84_78_85_76_76 n') (by rw [hs]; exact a42_78_79_84_78_85_76_76 n') hl hm a0 a1, ref_is l]
  by_cases h2 : s = [78, 79, 84]
  · rw [h2] at hs ⊢
    refine ⟨_, op_78_79_84 n l hl hn, ?_, told_form _ _ _⟩
    rw [ref_gen (n' + 1) m e l 1 true false (by decide) (by rw [hs]; exact a49_78_79_84 n') (by rw [hs]; exact a50_78_79_84 n') (by rw [hs]; exact a42_78_79_84 n') hl hm a0 a1, ref_log l 1]
  by_cases h3 : s = [78, 69, 71]
  · rw [h3] at hs ⊢
    refine ⟨_, op_78_69_71 n l hl hn, ?_, told_form _ _ _⟩
    rw [ref_gen (n' + 1) m e l 1 false true (by decide) (by rw [hs]; exact a49_78_69_71 n') (by rw [hs]; exact a50_78_69_71 n') (by rw [hs]; exact a42_78_69_71 n') hl hm a0 a1, ref_ar l 1]
  by_cases h4 : s = [79, 82]
  · rw [h4] at hs ⊢
    refine ⟨_, op_79_82 n l hl hn, ?_, told_form _ _ _⟩
    rw [ref_gen (n' + 1) m e l 2 true false (by decide) (by rw [hs]; exact a49_79_82 n') (by rw [hs]; exact a50_79_82 n') (by rw [hs]; exact a42_79_82 n') hl hm a0 a1, ref_log l 2]
  by_cases h5 : s = [65, 78, 68]
  · rw [h5] at hs ⊢
    refine ⟨_, op_65_78_68 n l hl hn, ?_, told_form _ _ _⟩
    rw [ref_gen (n' + 1) m e l 2 true false (by decide) (by rw [hs]; exact a49_65_78_68 n') (by rw [hs]; exact a50_65_78_68 n') (by rw [hs]; exact a42_65_78_68 n') hl hm a0 a1, ref_log l 2]
  by_cases h6 : s = [43]
  · rw [h6] at hs ⊢
    refine ⟨_, op_43 n l hl hn, ?_, told_form _ _ _⟩
    rw [ref_gen (n' + 1) m e l 2 false true (by decide) (by rw [hs]; exact a49_43 n') (by rw [hs]; exact a50_43 n') (by rw [hs]; exact a42_43 n') hl hm a0 a1, ref_ar l 2]
  by_cases h7 : s = [45]
  · rw [h7] at hs ⊢
    refine ⟨_, op_45 n l hl hn, ?_, told_form _ _ _⟩
    rw [ref_gen (n' + 1) m e l 2 false true (by decide) (by rw [hs]; exact a49_45 n') (by rw [hs]; exact a50_45 n') (by rw [hs]; exact a42_45 n') hl hm a0 a1, ref_ar l 2]
  by_cases h8 : s = [42]
  · rw [h8] at hs ⊢
    refine ⟨_, op_42 n l hl hn, ?_, told_form _ _ _⟩
    rw [ref_gen (n' + 1) m e l 2 false true (by decide) (by rw [hs]; exact a49_42 n') (by rw [hs]; exact a50_42 n') (by rw [hs]; exact a42_42 n') hl hm a0 a1, ref_ar l 2]
  by_cases h9 : s = [47]
  · rw [h9] at hs ⊢
    refine ⟨_, op_47 n l hl hn, ?_, told_form _ _ _⟩
    rw [ref_gen (n' + 1) m e l 2 false true (by decide) (by rw [hs]; exact a49_47 n') (by rw [hs]; exact a50_47 n') (by rw [hs]; exact a42_47 n') hl hm a0 a1, ref_ar l 2]
  by_cases h10 : s = [37]
  · rw [h10] at hs ⊢
    refine ⟨_, op_37 n l hl hn, ?_, told_form _ _ _⟩
    rw [ref_gen (n' + 1) m e l 2 false true (by decide) (by rw [hs]; exact a49_37 n') (by rw [hs]; exact a50_37 n') (by rw [hs]; exact a42_37 n') hl hm a0 a1, ref_ar l 2]
  by_cases h11 : s = [61]
  · rw [h11] at hs ⊢
    refine ⟨_, op_61 n l hl hn, ?_, told_form _ _ _⟩
    rw [ref_gen (n' + 1) m e l 2 false false (by decide) (by rw [hs]; exact a49_61 n') (by rw [hs]; exact a50_61 n') (by rw [hs]; exact a42_61 n') hl hm a0 a1, ref_cmp l]
  by_cases h12 : s = [60, 62]
  · rw [h12] at hs ⊢
    refine ⟨_, op_60_62 n l hl hn, ?_, told_form _ _ _⟩
    rw [ref_gen (n' + 1) m e l 2 false false (by decide) (by rw [hs]; exact a49_60_62 n') (by rw [hs]; exact a50_60_62 n') (by rw [hs]; exact a42_60_62 n') hl hm a0 a1, ref_cmp l]
  by_cases h13 : s = [60]
  · rw [h13] at hs ⊢
    refine ⟨_, op_60 n l hl hn, ?_, told_form _ _ _⟩
    rw [ref_gen (n' + 1) m e l 2 false false (by decide) (by rw [hs]; exact a49_60 n') (by rw [hs]; exact a50_60 n') (by rw [hs]; exact a42_60 n') hl hm a0 a1, ref_cmp l]
  by_cases h14 : s = [60, 61]
  · rw [h14] at hs ⊢
    refine ⟨_, op_60_61 n l hl hn, ?_, told_form _ _ _⟩
    rw [ref_gen (n' + 1) m e l 2 false false (by decide) (by rw [hs]; exact a49_60_61 n') (by rw [hs]; exact a50_60_61 n') (by rw [hs]; exact a42_60_61 n') hl hm a0 a1, ref_cmp l]
  by_cases h15 : s = [62]
  · rw [h15] at hs ⊢
    refine ⟨_, op_62 n l hl hn, ?_, told_form _ _ _⟩
    rw [ref_gen (n' + 1) m e l 2 false false (by decide) (by rw [hs]; exact a49_62 n') (by rw [hs]; exact a50_62 n') (by rw [hs]; exact a42_62 n') hl hm a0 a1, ref_cmp l]
  by_cases h16 : s = [62, 61]
  · rw [h16] at hs ⊢
    refine ⟨_, op_62_61 n l hl hn, ?_, told_form _ _ _⟩
    rw [ref_gen (n' + 1) m e l 2 false false (by decide) (by rw [hs]; exact a49_62_61 n') (by rw [hs]; exact a50_62_61 n') (by rw [hs]; exact a42_62_61 n') hl hm a0 a1, ref_cmp l]
  refine ⟨(.tu [.int .i64 0, .int .i64 9], []), ?_, ref_none _ _ _ _ ?_ _ _, 0, 9, rfl⟩
  · rw [f34_eq]
    rw [decide_eq_false (show ¬ (G.str s).toStr = [73, 83, 78, 85, 76, 76] from h0)]
    rw [decide_eq_false (show ¬ (G.str s).toStr = [78, 79, 84, 78, 85, 76, 76] from h1)]
    rw [decide_eq_false (show ¬ (G.str s).toStr = [78, 79, 84] from h2)]
    rw [decide_eq_false (show ¬ (G.str s).toStr = [78, 69, 71] from h3)]
    rw [decide_eq_false (show ¬ (G.str s).toStr = [79, 82] from h4)]
    rw [decide_eq_false (show ¬ (G.str s).toStr = [65, 78, 68] from h5)]
    rw [decide_eq_false (show ¬ (G.str s).toStr = [43] from h6)]
    rw [decide_eq_false (show ¬ (G.str s).toStr = [45] from h7)]
    rw [decide_eq_false (show ¬ (G.str s).toStr = [42] from h8)]
    rw [decide_eq_false (show ¬ (G.str s).toStr = [47] from h9)]
    rw [decide_eq_false (show ¬ (G.str s).toStr = [37] from h10)]
    rw [decide_eq_false (show ¬ (G.str s).toStr = [61] from h11)]
    rw [decide_eq_false (show ¬ (G.str s).toStr = [60, 62] from h12)]
    rw [decide_eq_false (show ¬ (G.str s).toStr = [60] from h13)]
    rw [decide_eq_false (show ¬ (G.str s).toStr = [60, 61] from h14)]
    rw [decide_eq_false (show ¬ (G.str s).toStr = [62] from h15)]
    rw [decide_eq_false (show ¬ (G.str s).toStr = [62, 61] from h16)]
    rfl
  · rw [hs, f49_eq]
    rw [decide_eq_false (show ¬ (G.str s).toStr = [73, 83, 78, 85, 76, 76] from h0)]
    rw [decide_eq_false (show ¬ (G.str s).toStr = [78, 79, 84, 78, 85, 76, 76] from h1)]
    rw [decide_eq_false (show ¬ (G.str s).toStr = [78, 79, 84] from h2)]
    rw [decide_eq_false (show ¬ (G.str s).toStr = [78, 69, 71] from h3)]
    rw [decide_eq_false (show ¬ (G.str s).toStr = [79, 82] from h4)]
    rw [decide_eq_false (show ¬ (G.str s).toStr = [65, 78, 68] from h5)]
    rw [decide_eq_false (show ¬ (G.str s).toStr = [43] from h6)]
    rw [decide_eq_false (show ¬ (G.str s).toStr = [45] from h7)]
    rw [decide_eq_false (show ¬ (G.str s).toStr = [42] from h8)]
    rw [decide_eq_false (show ¬ (G.str s).toStr = [47] from h9)]
    rw [decide_eq_false (show ¬ (G.str s).toStr = [37] from h10)]
    rw [decide_eq_false (show ¬ (G.str s).toStr = [61] from h11)]
    rw [decide_eq_false (show ¬ (G.str s).toStr = [60, 62] from h12)]
    rw [decide_eq_false (show ¬ (G.str s).toStr = [60] from h13)]
    rw [decide_eq_false (show ¬ (G.str s).toStr = [60, 61] from h14)]
    rw [decide_eq_false (show ¬ (G.str s).toStr = [62] from h15)]
    rw [decide_eq_false (show ¬ (G.str s).toStr = [62, 61] from h16)]
    rfl
end Go.Proofs.Ytpmecpmankpcbaa.Pure

namespace Go.Proofs.Ytpmecpmankpcbaa.Pure
open Go Go.Proofs Go.Proofs.Ytpmecpmankpcbaa.Rf
set_option linter.unusedVariables false
set_option linter.unusedSimpArgs false
def knd (a b : Int) : R := (.tu [.int .i64 a, .int .i64 b], [])
def Typ (t e : G) (n n' : Nat) : Prop := ∃ a b : Int, C n 25 [.val t, .val e] = some (knd a b) ∧ C n' 27 [.val t, .val e] = some (knd a b)
/-- Is the value of an expression the zero one? (As both texts ask.) -/
def zeroV (e : G) : Bool := decide ((G.fld (G.fld e 2) 0).toInt = (G.fld (.tu [(.int .i64 0), (.int .i64 0), (.str [])]) 0).toInt) && (decide ((G.fld (G.fld e 2) 1).toInt = (G.fld (.tu [(.int .i64 0), (.int .i64 0), (.str [])]) 1).toInt) && decide ((G.fld (G.fld e 2) 2).toStr = (G.fld (.tu [(.int .i64 0), (.int .i64 0), (.str [])]) 2).toStr))
abbrev argsE (e : G) : List G := (G.fld e 3).toList
theorem ref_end (n m : Nat) (e : G) (l : List G) (a0 a1 : G) (r : R) (h : refTail n m a0 a1 e l = some r) :
    ((C n 49 [.val (.str (G.fld e 1).toStr)]).bind fun r1 => cnd (decide (r1.1.toInt = 0)) (some ((.tu [(.int .i64 0), (.int .i64 9)]), [])) ((C n 49 [.val (.str (G.fld e 1).toStr)]).bind fun r2 => cnd ((!decide (r2.1.toInt = (l.length : Int)))) (some ((.tu [(.int .i64 0), (.int .i64 9)]), [])) (cnd ((!zeroV e)) (some ((.tu [(.int .i64 0), (.int .i64 9)]), [])) (L37_1 n m a0 a1 (0) (e) (l)))))
      = cnd (!zeroV e) (some (knd 0 9)) (some r) := by
  unfold refTail at h
  cases h1 : C n 49 [.val (.str (G.fld e 1).toStr)] with
  | none => rw [h1] at h; cases h
  | some r1 =>
    rw [h1] at h
    simp only [Option.bind_some] at h ⊢
    cases hz : zeroV e with
    | true => simp only [Bool.not_true, cnd]; exact h
    | false =>
      simp only [Bool.not_false, cnd]
      cases decide (r1.1.toInt = 0) <;> cases decide (r1.1.toInt = (l.length : Int)) <;> rfl
theorem typ_loop (n n' : Nat) (t e : G) (hz : (argsE e).length ≤ 4096) (hc : ∀ x ∈ argsE e, Typ t x n n') (a0 a1 b0 b1 : G) (hn : (argsE e).length + 3 ≤ n) (hn' : (argsE e).length + 3 ≤ n') :
    ∀ (j m m' i : Nat) (l : List G), i + j = (argsE e).length → l.length = i → j < m → j < m' → ∃ a b : Int, L25_0 n m a0 a1 (argsE e) (argsE e).length i t e l = some (knd a b) ∧ L37_0 n' m' b0 b1 i t e l = some (knd a b)
  | 0, m + 1, m' + 1, i, l, hij, hli, _, _ => by
    have hi : ¬ ((i : Int) < (argsE e).length) := by omega
    have hm := maxLen_le
    have hl : l.length ≤ maxLen := by unfold maxLen; omega
    obtain ⟨k, rfl⟩ : ∃ k, n = k + 2 := ⟨n - 2, by omega⟩
    obtain ⟨k', rfl⟩ : ∃ k', n' = k' + 1 := ⟨n' - 1, by omega⟩
    obtain ⟨r, h1, h2, a, b, hr⟩ := op_same k k' (k' + 1) e (e.fld 1).toStr rfl l hl (by omega) (by omega) b0 b1
    have he := ref_end (k' + 1) (k' + 1) e l b0 b1 r h2
    subst hr
    rw [L25_0_eq, L37_0_eq, decide_eq_false hi]
    show ∃ a' b' : Int, cnd (!zeroV e) (some (knd 0 9)) ((C (k + 2) 34 [.val (.str (G.fld e 1).toStr), .val (.sl l)]).bind fun r1 => some (knd (G.fld r1.1 0).toInt (G.fld r1.1 1).toInt)) = _ ∧ _ = some (knd a' b')
    rw [h1]
    cases hz : zeroV e with
    | true =>
      have q : (some (G.tu [.int .i64 a, .int .i64 b], []) : Option R).bind (fun r1 => some (knd (G.fld r1.1 0).toInt (G.fld r1.1 1).toInt)) = some (knd a b) := by
        simp only [Option.bind_some]
        congr 1
      exact ⟨a, b, q, he.trans (by rw [hz]; rfl)⟩
    | false => exact ⟨0, 9, by simp only [cnd, Bool.not_false], he.trans (by rw [hz]; rfl)⟩
  | j + 1, m + 1, m' + 1, i, l, hij, hli, h1, h2 => by
    have hlt : i < (argsE e).length := by omega
    have hi : ((i : Int) < (argsE e).length) := by omega
    have hi0 : (0 : Int) ≤ i := by omega
    have hw1 : IntKind.wrap .i64 ((i : Int) + 1) = ((i + 1 : Nat) : Int) := by rw [wr (by omega) (by omega)]; simp
    have hg : (argsE e).getD ((i : Int)).toNat default = (argsE e)[i] := by simp [List.getD, hlt]
    obtain ⟨a, b, e1, e2⟩ := hc _ (List.getElem_mem hlt)
    rw [L25_0_eq, L37_0_eq, decide_eq_true hi, decide_eq_true hi0, hw1, hg, e1, e2]
    simp only [Bool.and_self, cnd, Option.bind_some]
    show ∃ a' b' : Int, cnd (!decide (b = 0)) _ (cnd (decide (l.length + 1 ≤ 68719476736)) (L25_0 n m a0 a1 (argsE e) (argsE e).length (i + 1 : Nat) t e (l ++ [.int .i64 a])) none) = _ ∧ cnd (!decide (b = 0)) _ (cnd (decide (l.length + 1 ≤ 68719476736)) (L37_0 n' m' b0 b1 (i + 1 : Nat) t e (l ++ [.int .i64 a])) none) = _
    by_cases hb : b = 0
    · rw [decide_eq_true hb, decide_eq_true (show l.length + 1 ≤ 68719476736 by omega)]
      exact typ_loop n n' t e hz hc a0 a1 b0 b1 hn hn' j m m' (i + 1) (l ++ [.int .i64 a]) (by omega) (by simp [hli]) (by omega) (by omega)
    · rw [decide_eq_false hb]
      exact ⟨0, b, rfl, rfl⟩
end Go.Proofs.Ytpmecpmankpcbaa.Pure

namespace Go.Proofs.Ytpmecpmankpcbaa.Pure
open Go Go.Proofs Go.Proofs.Ytpmecpmankpcbaa.Rf
set_option linter.unusedVariables false
set_option linter.unusedSimpArgs false
theorem may_some (n : Nat) (v : G) : ∃ b : Bool, C (n + 1) 28 [.val v] = some (.bool b, []) := by
  rw [f28_eq]
  unfold cnd
  repeat' split
  all_goals exact ⟨_, rfl⟩
theorem len_cnts : ∀ (es : List G), (∀ x ∈ es, 1 ≤ cnt x) → es.length ≤ cnts es
  | [], _ => Nat.le_refl _
  | x :: l, h => by
    have := len_cnts l (fun y hy => h y (List.mem_cons_of_mem _ hy))
    have := h x (by simp)
    simp only [cnts, List.length_cons]; omega
theorem cnt_mem : ∀ (es : List G), ∀ x ∈ es, cnt x ≤ cnts es
  | y :: l, x, hx => by
    simp only [cnts]
    rcases List.mem_cons.1 hx with rfl | hx
    · omega
    · have := cnt_mem l x hx; omega
end Go.Proofs.Ytpmecpmankpcbaa.Pure

namespace Go.Proofs.Ytpmecpmankpcbaa.Pure
open Go Go.Proofs Go.Proofs.Ytpmecpmankpcbaa.Rf
set_option linter.unusedVariables false
set_option linter.unusedSimpArgs false
theorem col_same2 (n n' : Nat) (t : G) (s : List UInt8) (hl : (cols t).length ≤ maxLen) (hn : (cols t).length ≤ n) (hn' : (cols t).length ≤ n') : ∃ r : Int, C (n + 4) 33 [.val t, .val (.str s)] = some (.int .i64 r, []) ∧ C (n' + 2) 36 [.val t, .val (.str s)] = some (.int .i64 r, []) ∧ (r = -1 ∨ (0 ≤ r ∧ r < (cols t).length)) := by
  obtain ⟨r, h1, h2, h3⟩ := col_loop (n + 1) (n' + 1) t s hl (.sl (cols t)) (.str s) t (.str s) (cols t).length (n + 2) (n' + 1) 0 (by omega) (by omega) (by omega)
  refine ⟨r, ?_, ?_, h3⟩
  · rw [f33_eq, f45_eq]
    have : L45_0 (n + 2) (n + 2) (.sl (cols t)) (.str s) (cols t) (.str s) (cols t).length 0 = some (.int .i64 r, []) := h1
    show (L45_0 (n + 2) (n + 2) (.sl (cols t)) (.str s) (cols t) (.str s) (cols t).length 0).bind _ = _
    rw [this]; rfl
  · rw [f36_eq]; exact h2
theorem cnt_pos (e : G) (h : WG tab 26 e) : 1 ≤ cnt e := by
  obtain ⟨k, s, v, es, rfl, _⟩ := expr_parts h
  rw [cnt_expr]; omega
end Go.Proofs.Ytpmecpmankpcbaa.Pure

namespace Go.Proofs.Ytpmecpmankpcbaa.Pure
open Go Go.Proofs Go.Proofs.Ytpmecpmankpcbaa.Rf
set_option linter.unusedVariables false
set_option linter.unusedSimpArgs false
theorem typ : ∀ (w : Nat) (e t : G), WG tab 26 e → wt e ≤ w → cnt e ≤ 4096 → (cols t).length ≤ maxLen → ∀ n n', 3 * w + (cols t).length + 5000 ≤ n → 3 * w + (cols t).length + 5000 ≤ n' → Typ t e n n'
  | 0, e, t, he, hw, _, _, n, n', _, _ => by
    obtain ⟨k, s, v, es, rfl, _⟩ := expr_parts he
    simp [wt] at hw
  | w + 1, e, t, he, hw, hcnt, hcol, n, n', hn, hn' => by
    have hes0 := expr_parts he
    obtain ⟨k, rfl⟩ : ∃ k, n = k + 5 := ⟨n - 5, by omega⟩
    obtain ⟨k', rfl⟩ : ∃ k', n' = k' + 5 := ⟨n' - 5, by omega⟩
    unfold Typ
    rw [f25_eq, f27_eq]
    by_cases k1 : (G.fld e 0).toInt = 1
    · rw [decide_eq_true k1]
      simp only [cnd]
      obtain ⟨b, hb⟩ := may_some (k + 3) (G.fld e 2)
      have hb' : C (k' + 4) 35 [.val (G.fld e 2)] = some (.bool b, []) := by rw [← may_same (k + 3) (k' + 3)]; exact hb
      rw [hb, hb']
      cases decide ((G.fld e 1).toStr = []) <;> cases decide (0 < ((G.fld e 3).toList.length : Int)) <;> cases b <;> first | exact ⟨0, 9, rfl, rfl⟩ | exact ⟨_, _, rfl, rfl⟩
    · rw [decide_eq_false k1]
      simp only [cnd]
      by_cases k2 : (G.fld e 0).toInt = 2
      · rw [decide_eq_true k2]
        obtain ⟨r, h1, h2, h3⟩ := col_same2 k (k' + 2) t (G.fld e 1).toStr hcol (by omega) (by omega)
        rw [h1, h2]
        simp only [Option.bind_some]
        show ∃ a b : Int, cnd (decide (r < 0)) _ (cnd _ _ (cnd (!zeroV e) _ (cnd (decide (0 ≤ r) && decide (r < ((cols t).length : Int))) _ _))) = _ ∧ cnd (decide (r < 0)) _ (cnd _ _ (cnd (!zeroV e) _ (cnd (decide (0 ≤ r) && decide (r < ((cols t).length : Int))) _ _))) = _
        rcases h3 with h3 | ⟨h3, h4⟩
        · rw [decide_eq_true (show r < 0 by omega)]
          exact ⟨0, 14, rfl, rfl⟩
        · rw [decide_eq_false (show ¬ r < 0 by omega), decide_eq_true h3, decide_eq_true h4]
          simp only [Bool.and_self, cnd]
          cases decide (0 < ((G.fld e 3).toList.length : Int)) <;> cases zeroV e <;> first | exact ⟨0, 9, rfl, rfl⟩ | exact ⟨_, _, rfl, rfl⟩
      · rw [decide_eq_false k2]
        simp only [cnd]
        by_cases k3 : (G.fld e 0).toInt = 3
        · rw [decide_eq_true k3, f37_eq]
          obtain ⟨kk, s, v, es, rfl, _, _, hl, hes⟩ := hes0
          rw [cnt_expr] at hcnt
          have hws : wts es + 2 ≤ w + 1 := by simp [wt, wts] at hw; omega
          have hlen : es.length ≤ cnts es := len_cnts es fun x hx => cnt_pos x (hes x hx)
          have hc : ∀ x ∈ argsE (.tu [.int .i64 kk, .str s, v, .sl es]), Typ t x (k + 4) (k' + 3) := by
            intro x hx
            have hx : x ∈ es := hx
            obtain ⟨i, hi, rfl⟩ := List.getElem_of_mem hx
            have h5 := wts_get es i hi
            have h6 := cnt_mem es es[i] (List.getElem_mem hi)
            exact typ w es[i] t (hes _ (List.getElem_mem hi)) (by omega) (by omega) hcol _ _ (by omega) (by omega)
          obtain ⟨a, b, h1, h2⟩ := typ_loop (k + 4) (k' + 3) t (.tu [.int .i64 kk, .str s, v, .sl es]) (show es.length ≤ 4096 by omega) hc t (.tu [.int .i64 kk, .str s, v, .sl es]) t (.tu [.int .i64 kk, .str s, v, .sl es]) (show es.length + 3 ≤ k + 4 by omega) (show es.length + 3 ≤ k' + 3 by omega) es.length (k + 4) (k' + 3) 0 [] (Nat.zero_add _) rfl (by omega) (by omega)
          refine ⟨a, b, h1, ?_⟩
          have h2' : L37_0 (k' + 3) (k' + 3) t (.tu [.int .i64 kk, .str s, v, .sl es]) 0 t (.tu [.int .i64 kk, .str s, v, .sl es]) [] = some (knd a b) := h2
          show (L37_0 (k' + 3) (k' + 3) t (.tu [.int .i64 kk, .str s, v, .sl es]) 0 t (.tu [.int .i64 kk, .str s, v, .sl es]) []).bind _ = _
          rw [h2']
          simp only [Option.bind_some]
          congr 1
        · rw [decide_eq_false k3]
          exact ⟨0, 9, rfl, rfl⟩
end Go.Proofs.Ytpmecpmankpcbaa.Pure

