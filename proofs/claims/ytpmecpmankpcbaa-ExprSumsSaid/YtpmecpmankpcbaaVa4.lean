/- What the operators make of values: the program's and the reference's. Written by va4.py. No conditions. -/
import Derived.Test.YtpmecpmankpcbaaVa3
namespace Go.Proofs.Ytpmecpmankpcbaa.Pure
open Go Go.Proofs Go.Proofs.Ytpmecpmankpcbaa.Rf
set_option linter.unusedVariables false
set_option linter.unusedSimpArgs false
/-- The number of an operator. -/
def opn (s : List UInt8) : Nat := if s = [73, 83, 78, 85, 76, 76] then 1 else if s = [78, 79, 84, 78, 85, 76, 76] then 2 else if s = [78, 79, 84] then 3 else if s = [78, 69, 71] then 4 else if s = [79, 82] then 5 else if s = [65, 78, 68] then 6 else if s = [43] then 7 else if s = [45] then 8 else if s = [42] then 9 else if s = [47] then 10 else if s = [37] then 11 else if s = [61] then 12 else if s = [60, 62] then 13 else if s = [60] then 14 else if s = [60, 61] then 15 else if s = [62] then 16 else if s = [62, 61] then 17 else 0
def holdsN (k : Nat) (c : Int) : Bool := if k = 12 then decide (c = 0) else if k = 13 then !decide (c = 0) else if k = 14 then decide (c < 0) else if k = 15 then decide (c ≤ 0) else if k = 16 then decide (0 < c) else decide (0 ≤ c)
def reckN (k : Nat) (a b : Int) : Int × Int := if k = 7 then rng (a + b) else if k = 8 then rng (a - b) else if k = 9 then rng (a * b) else if k = 10 then divS a b else modS a b
def bothS (w : Int) (a b : V) : V := if a.k ≠ 0 ∧ a.n = w then a else if b.k ≠ 0 ∧ b.n = w then b else if a.k = 0 ∨ b.k = 0 then .z else tr (decide (w = 0))
def doesN : Nat → List V → V × Int
  | 1, [a] => (tr (decide (a.k = 0)), 0)
  | 2, [a] => (tr (!decide (a.k = 0)), 0)
  | 3, [a] => if a.k = 0 then (.z, 0) else (tr (!decide (a = tr true)), 0)
  | 4, [a] => if a.k = 0 then (.z, 0) else num (rng (0 - a.n))
  | 5, [a, b] => (bothS 1 a b, 0)
  | 6, [a, b] => (bothS 0 a b, 0)
  | k, [a, b] => if a.k = 0 then (.z, 0) else if b.k = 0 then (.z, 0) else if k < 12 then num (reckN k a.n b.n) else (tr (holdsN k (cmpV a b)), 0)
  | _, _ => (.z, 0)
abbrev V0 : G := .tu [.int .i64 0, .int .i64 0, .str []]
theorem null_le {n : Nat} (hn : 1 ≤ n) (v : V) : C n 51 [.val v.g] = some (.bool (decide (v.k = 0)), []) := at_le (p := fun n => C n 51 [.val v.g] = some (.bool (decide (v.k = 0)), [])) hn fun m => null_eq m v
theorem tr_le {n : Nat} (hn : 1 ≤ n) (b : Bool) : C n 32 [.val (.bool b)] = some ((tr b).g, []) := at_le (p := fun n => C n 32 [.val (.bool b)] = some ((tr b).g, [])) hn fun m => tr_eq m b
theorem trr_le {n : Nat} (hn : 1 ≤ n) (b : Bool) : C n 39 [.val (.bool b)] = some ((tr b).g, []) := at_le (p := fun n => C n 39 [.val (.bool b)] = some ((tr b).g, [])) hn fun m => tr_ref m b
theorem true_le {n : Nat} (hn : 2 ≤ n) (v : V) : C n 17 [.val v.g] = some (.bool (decide (v = tr true)), []) := at_le (p := fun n => C n 17 [.val v.g] = some (.bool (decide (v = tr true)), [])) hn fun m => true_eq m v
theorem num_le {n : Nat} (hn : 1 ≤ n) (x : Int × Int) : C n 53 [.val (.int .i64 x.1), .val (.int .i64 x.2)] = some (vg (num x)) := at_le (p := fun n => C n 53 [.val (.int .i64 x.1), .val (.int .i64 x.2)] = some (vg (num x))) hn fun m => num_eq m x
theorem add_le {n : Nat} (hn : 1 ≤ n) {a b : Int} (ha : I64 a) (hb : I64 b) : C n 61 [.val (.int .i64 a), .val (.int .i64 b)] = some (ng (rng (a + b))) := at_le (p := fun n => C n 61 [.val (.int .i64 a), .val (.int .i64 b)] = some (ng (rng (a + b)))) hn fun m => add_eq' m ha hb
theorem addr_le {n : Nat} (hn : 1 ≤ n) {a b : Int} (ha : I64 a) (hb : I64 b) : C n 58 [.val (.int .i64 a), .val (.int .i64 b)] = some (ng (rng (a + b))) := at_le (p := fun n => C n 58 [.val (.int .i64 a), .val (.int .i64 b)] = some (ng (rng (a + b)))) hn fun m => add_ref m ha hb
theorem minus_le {n : Nat} (hn : 2 ≤ n) {a b : Int} (ha : I64 a) (hb : I64 b) : C n 54 [.val (.int .i64 a), .val (.int .i64 b)] = some (ng (rng (a - b))) := at_le (p := fun n => C n 54 [.val (.int .i64 a), .val (.int .i64 b)] = some (ng (rng (a - b)))) hn fun m => minus_eq m ha hb
theorem mul_le {n : Nat} (hn : 2 ≤ n) {a b : Int} (ha : I64 a) (hb : I64 b) : C n 66 [.val (.int .i64 a), .val (.int .i64 b)] = some (ng (rng (a * b))) := at_le (p := fun n => C n 66 [.val (.int .i64 a), .val (.int .i64 b)] = some (ng (rng (a * b)))) hn fun m => mul_eq m ha hb
theorem mulr_le {n : Nat} (hn : 2 ≤ n) {a b : Int} (ha : I64 a) (hb : I64 b) : C n 59 [.val (.int .i64 a), .val (.int .i64 b)] = some (ng (rng (a * b))) := at_le (p := fun n => C n 59 [.val (.int .i64 a), .val (.int .i64 b)] = some (ng (rng (a * b)))) hn fun m => mul_ref m ha hb
/-! ## the program's -/
theorem both_eq (n : Nat) (w : Int) (a b : V) : C (n + 4) 52 [.val (.sl [a.g, b.g]), .val (.int .i64 w)] = some ((bothS w a b).g, []) := by
  rw [f52_eq]
  show L52_0 (n + 3) (n + 2 + 1) _ _ w false [a.g, b.g] 2 0 V0 = _
  rw [L52_0_eq]
  refine bind_of (null_le (by omega) a) ?_
  unfold bothS
  show cnd (decide (a.k = 0)) (L52_0 (n + 3) (n + 1 + 1) _ _ w true [a.g, b.g] 2 1 V0) (cnd (decide (a.n = w)) (some (a.g, [])) (L52_0 (n + 3) (n + 1 + 1) _ _ w false [a.g, b.g] 2 1 V0)) = _
  have fin1 : ∀ x, L52_0 (n + 3) (n + 1) (.sl [a.g, b.g]) (.int .i64 w) w true [a.g, b.g] 2 2 x = some (V0, []) := fun x => by rw [L52_0_eq]; rfl
  have fin2 : ∀ x, L52_0 (n + 3) (n + 1) (.sl [a.g, b.g]) (.int .i64 w) w false [a.g, b.g] 2 2 x = some ((tr (decide (w = 0))).g, []) := fun x => by
    rw [L52_0_eq]
    exact bind_of (tr_le (by omega) (decide (w = 0))) rfl
  have st : ∀ (q : Bool), L52_0 (n + 3) (n + 1 + 1) (.sl [a.g, b.g]) (.int .i64 w) w q [a.g, b.g] 2 1 V0 = some ((if b.k ≠ 0 ∧ b.n = w then b else if q = true ∨ b.k = 0 then .z else tr (decide (w = 0)) : V).g, []) := by
    intro q
    rw [L52_0_eq]
    refine bind_of (null_le (by omega) b) ?_
    show cnd (decide (b.k = 0)) (L52_0 (n + 3) (n + 1) _ _ w true [a.g, b.g] 2 2 V0) (cnd (decide (b.n = w)) (some (b.g, [])) (L52_0 (n + 3) (n + 1) _ _ w q [a.g, b.g] 2 2 V0)) = _
    by_cases hb : b.k = 0
    · rw [decide_eq_true hb, if_neg (by simp [hb]), if_pos (.inr hb)]
      exact fin1 _
    · rw [decide_eq_false hb]
      by_cases hw : b.n = w
      · rw [decide_eq_true hw, if_pos ⟨hb, hw⟩]; rfl
      · rw [decide_eq_false hw, if_neg (by simp [hw])]
        cases q with
        | true => rw [if_pos (.inl rfl)]; exact fin1 _
        | false => rw [if_neg (by simp [hb])]; exact fin2 _
  by_cases ha : a.k = 0
  · rw [decide_eq_true ha, if_neg (by simp [ha])]
    refine (st true).trans ?_
    by_cases hq : b.k ≠ 0 ∧ b.n = w
    · rw [if_pos hq, if_pos hq]
    · rw [if_neg hq, if_neg hq, if_pos (.inl rfl), if_pos (.inl ha)]
  · rw [decide_eq_false ha]
    by_cases hw : a.n = w
    · rw [decide_eq_true hw, if_pos ⟨ha, hw⟩]; rfl
    · rw [decide_eq_false hw, if_neg (by simp [hw])]
      refine (st false).trans ?_
      by_cases hq : b.k ≠ 0 ∧ b.n = w
      · rw [if_pos hq, if_pos hq]
      · rw [if_neg hq, if_neg hq]
        by_cases hb : b.k = 0
        · rw [if_pos (.inr hb), if_pos (.inr hb)]
        · rw [if_neg (by simp [hb]), if_neg (by simp [ha, hb])]
theorem both_le {n : Nat} (hn : 4 ≤ n) (w : Int) (a b : V) : C n 52 [.val (.sl [a.g, b.g]), .val (.int .i64 w)] = some ((bothS w a b).g, []) := at_le (p := fun n => C n 52 [.val (.sl [a.g, b.g]), .val (.int .i64 w)] = some ((bothS w a b).g, [])) hn fun m => both_eq m w a b
theorem d_1 (n : Nat) (a : V) : C (n + 12) 38 [.val (.str [73, 83, 78, 85, 76, 76]), .val (.sl [a.g])] = some (vg (doesN 1 [a])) := by
  rw [show C (n + 12) 38 [.val (.str [73, 83, 78, 85, 76, 76]), .val (.sl [a.g])] = (C (n + 11) 51 [.val a.g]).bind fun r0 => (C (n + 11) 32 [.val (.bool r0.1.toBool)]).bind fun r1 => some (.tu [r1.1, .int .i64 0], []) by kernel_rfl]
  refine bind_of (null_le (by omega) a) ?_
  exact bind_of (tr_le (by omega) (decide (a.k = 0))) rfl
theorem d_2 (n : Nat) (a : V) : C (n + 12) 38 [.val (.str [78, 79, 84, 78, 85, 76, 76]), .val (.sl [a.g])] = some (vg (doesN 2 [a])) := by
  rw [show C (n + 12) 38 [.val (.str [78, 79, 84, 78, 85, 76, 76]), .val (.sl [a.g])] = (C (n + 11) 51 [.val a.g]).bind fun r0 => (C (n + 11) 32 [.val (.bool (!r0.1.toBool))]).bind fun r1 => some (.tu [r1.1, .int .i64 0], []) by kernel_rfl]
  refine bind_of (null_le (by omega) a) ?_
  exact bind_of (tr_le (by omega) (!decide (a.k = 0))) rfl
theorem d_3 (n : Nat) (a : V) : C (n + 12) 38 [.val (.str [78, 79, 84]), .val (.sl [a.g])] = some (vg (doesN 3 [a])) := by
  rw [show C (n + 12) 38 [.val (.str [78, 79, 84]), .val (.sl [a.g])] = (C (n + 11) 51 [.val a.g]).bind fun r0 => cnd r0.1.toBool (some (.tu [V0, .int .i64 0], [])) ((C (n + 11) 17 [.val a.g]).bind fun r1 => (C (n + 11) 32 [.val (.bool (!r1.1.toBool))]).bind fun r2 => some (.tu [r2.1, .int .i64 0], [])) by kernel_rfl]
  refine bind_of (null_le (by omega) a) ?_
  show cnd (decide (a.k = 0)) _ _ = some (vg (if a.k = 0 then (.z, 0) else (tr (!decide (a = tr true)), 0)))
  by_cases h : a.k = 0
  · rw [decide_eq_true h, if_pos h]; rfl
  · rw [decide_eq_false h, if_neg h]
    refine bind_of (true_le (by omega) a) ?_
    exact bind_of (tr_le (by omega) (!decide (a = tr true))) rfl
theorem d_4 (n : Nat) (a : V) (ha : I64 a.n) : C (n + 12) 38 [.val (.str [78, 69, 71]), .val (.sl [a.g])] = some (vg (doesN 4 [a])) := by
  rw [show C (n + 12) 38 [.val (.str [78, 69, 71]), .val (.sl [a.g])] = (C (n + 11) 51 [.val a.g]).bind fun r0 => cnd r0.1.toBool (some (.tu [V0, .int .i64 0], [])) ((C (n + 11) 54 [.val (.int .i64 0), .val (.int .i64 a.n)]).bind fun r3 => (C (n + 11) 53 [.val (.int .i64 (G.fld r3.1 0).toInt), .val (.int .i64 (G.fld r3.1 1).toInt)]).bind fun r4 => some (.tu [G.fld r4.1 0, .int .i64 (G.fld r4.1 1).toInt], [])) by kernel_rfl]
  refine bind_of (null_le (by omega) a) ?_
  show cnd (decide (a.k = 0)) _ _ = some (vg (if a.k = 0 then (.z, 0) else num (rng (0 - a.n))))
  by_cases h : a.k = 0
  · rw [decide_eq_true h, if_pos h]; rfl
  · rw [decide_eq_false h, if_neg h]
    refine bind_of (minus_le (by omega) (show I64 0 by decide) ha) ?_
    exact bind_of (num_le (by omega) (rng (0 - a.n))) rfl
theorem d_5 (n : Nat) (a b : V) : C (n + 12) 38 [.val (.str [79, 82]), .val (.sl [a.g, b.g])] = some (vg (doesN 5 [a, b])) := by
  rw [show C (n + 12) 38 [.val (.str [79, 82]), .val (.sl [a.g, b.g])] = (C (n + 11) 52 [.val (.sl [a.g, b.g]), .val (.int .i64 1)]).bind fun r => some (.tu [r.1, .int .i64 0], []) by kernel_rfl]
  exact bind_of (both_le (by omega) 1 a b) rfl
theorem d_6 (n : Nat) (a b : V) : C (n + 12) 38 [.val (.str [65, 78, 68]), .val (.sl [a.g, b.g])] = some (vg (doesN 6 [a, b])) := by
  rw [show C (n + 12) 38 [.val (.str [65, 78, 68]), .val (.sl [a.g, b.g])] = (C (n + 11) 52 [.val (.sl [a.g, b.g]), .val (.int .i64 0)]).bind fun r => some (.tu [r.1, .int .i64 0], []) by kernel_rfl]
  exact bind_of (both_le (by omega) 0 a b) rfl
theorem two_nulls {n : Nat} (hn : 1 ≤ n) (a b : V) {x : Option R} {k : Nat} (hk : 7 ≤ k) (h : x = some (vg (if k < 12 then num (reckN k a.n b.n) else (tr (holdsN k (cmpV a b)), 0)))) :
    ((C n 51 [.val a.g]).bind fun r0 => cnd r0.1.toBool (some (.tu [V0, .int .i64 0], [])) ((C n 51 [.val b.g]).bind fun r1 => cnd r1.1.toBool (some (.tu [V0, .int .i64 0], [])) x)) = some (vg (doesN k [a, b])) := by
  refine bind_of (null_le hn a) ?_
  have e : doesN k [a, b] = if a.k = 0 then (.z, 0) else if b.k = 0 then (.z, 0) else if k < 12 then num (reckN k a.n b.n) else (tr (holdsN k (cmpV a b)), 0) := by
    match k, hk with
    | k + 7, _ => rfl
  rw [e]
  show cnd (decide (a.k = 0)) _ _ = _
  by_cases h1 : a.k = 0
  · rw [decide_eq_true h1, if_pos h1]; rfl
  · rw [decide_eq_false h1, if_neg h1]
    refine bind_of (null_le hn b) ?_
    show cnd (decide (b.k = 0)) _ _ = _
    by_cases h2 : b.k = 0
    · rw [decide_eq_true h2, if_pos h2]; rfl
    · rw [decide_eq_false h2, if_neg h2]
      exact h
theorem reck_7 (n : Nat) {a b : Int} (ha : I64 a) (hb : I64 b) : C (n + 4) 57 [.val (.str [43]), .val (.int .i64 a), .val (.int .i64 b)] = some (ng (reckN 7 a b)) := by
  rw [f57_eq]
  exact bind_of (add_le (by omega) ha hb) rfl
theorem reck_8 (n : Nat) {a b : Int} (ha : I64 a) (hb : I64 b) : C (n + 4) 57 [.val (.str [45]), .val (.int .i64 a), .val (.int .i64 b)] = some (ng (reckN 8 a b)) := by
  rw [f57_eq]
  exact bind_of (minus_le (by omega) ha hb) rfl
theorem reck_9 (n : Nat) {a b : Int} (ha : I64 a) (hb : I64 b) : C (n + 4) 57 [.val (.str [42]), .val (.int .i64 a), .val (.int .i64 b)] = some (ng (reckN 9 a b)) := by
  rw [f57_eq]
  exact bind_of (mul_le (by omega) ha hb) rfl
theorem reck_10 (n : Nat) {a b : Int} (ha : I64 a) (hb : I64 b) : C (n + 4) 57 [.val (.str [47]), .val (.int .i64 a), .val (.int .i64 b)] = some (ng (reckN 10 a b)) := by
  rw [show C (n + 4) 57 [.val (.str [47]), .val (.int .i64 a), .val (.int .i64 b)] = cnd (decide (b = 0)) (some (ng (0, 17))) (cnd (decide (b = -1)) ((C (n + 3) 54 [.val (.int .i64 0), .val (.int .i64 a)]).bind fun r3 => some (.tu [.int .i64 (G.fld r3.1 0).toInt, .int .i64 (G.fld r3.1 1).toInt], [])) (cnd (decide (b = 0)) none (some (ng (IntKind.wrap .i64 (Int.tdiv a b), 0))))) from f57_eq (n + 3) _ _ _]
  show _ = some (ng (divS a b))
  by_cases h : b = 0
  · rw [decide_eq_true h, h]; rfl
  · rw [decide_eq_false h]
    by_cases h1 : b = -1
    · rw [decide_eq_true h1, h1, div_neg]
      exact bind_of (minus_le (by omega) (show I64 0 by decide) ha) rfl
    · rw [decide_eq_false h1, div_one ha h h1]; rfl
theorem reck_11 (n : Nat) {a b : Int} (ha : I64 a) (hb : I64 b) : C (n + 4) 57 [.val (.str [37]), .val (.int .i64 a), .val (.int .i64 b)] = some (ng (reckN 11 a b)) := by
  rw [show C (n + 4) 57 [.val (.str [37]), .val (.int .i64 a), .val (.int .i64 b)] = cnd (decide (b = 0)) (some (ng (0, 17))) (cnd (decide (b = 0)) none (some (ng (Int.tmod a b, 0)))) from f57_eq (n + 3) _ _ _]
  show _ = some (ng (modS a b))
  unfold modS
  by_cases h : b = 0
  · rw [decide_eq_true h, if_pos h]; rfl
  · rw [decide_eq_false h, if_neg h]; rfl
theorem d_7 (n : Nat) (a b : V) (ha : I64 a.n) (hb : I64 b.n) : C (n + 12) 38 [.val (.str [43]), .val (.sl [a.g, b.g])] = some (vg (doesN 7 [a, b])) := by
  rw [show C (n + 12) 38 [.val (.str [43]), .val (.sl [a.g, b.g])] = (C (n + 11) 51 [.val a.g]).bind fun r0 => cnd r0.1.toBool (some (.tu [V0, .int .i64 0], [])) ((C (n + 11) 51 [.val b.g]).bind fun r1 => cnd r1.1.toBool (some (.tu [V0, .int .i64 0], [])) ((C (n + 11) 57 [.val (.str [43]), .val (.int .i64 a.n), .val (.int .i64 b.n)]).bind fun r23 => (C (n + 11) 53 [.val (.int .i64 (G.fld r23.1 0).toInt), .val (.int .i64 (G.fld r23.1 1).toInt)]).bind fun r24 => some (.tu [G.fld r24.1 0, .int .i64 (G.fld r24.1 1).toInt], []))) by kernel_rfl]
  refine two_nulls (by omega) a b (by decide) ?_
  refine bind_of (reck_7 (n + 7) ha hb) ?_
  exact bind_of (num_le (by omega) (reckN 7 a.n b.n)) rfl
theorem d_8 (n : Nat) (a b : V) (ha : I64 a.n) (hb : I64 b.n) : C (n + 12) 38 [.val (.str [45]), .val (.sl [a.g, b.g])] = some (vg (doesN 8 [a, b])) := by
  rw [show C (n + 12) 38 [.val (.str [45]), .val (.sl [a.g, b.g])] = (C (n + 11) 51 [.val a.g]).bind fun r0 => cnd r0.1.toBool (some (.tu [V0, .int .i64 0], [])) ((C (n + 11) 51 [.val b.g]).bind fun r1 => cnd r1.1.toBool (some (.tu [V0, .int .i64 0], [])) ((C (n + 11) 57 [.val (.str [45]), .val (.int .i64 a.n), .val (.int .i64 b.n)]).bind fun r23 => (C (n + 11) 53 [.val (.int .i64 (G.fld r23.1 0).toInt), .val (.int .i64 (G.fld r23.1 1).toInt)]).bind fun r24 => some (.tu [G.fld r24.1 0, .int .i64 (G.fld r24.1 1).toInt], []))) by kernel_rfl]
  refine two_nulls (by omega) a b (by decide) ?_
  refine bind_of (reck_8 (n + 7) ha hb) ?_
  exact bind_of (num_le (by omega) (reckN 8 a.n b.n)) rfl
theorem d_9 (n : Nat) (a b : V) (ha : I64 a.n) (hb : I64 b.n) : C (n + 12) 38 [.val (.str [42]), .val (.sl [a.g, b.g])] = some (vg (doesN 9 [a, b])) := by
  rw [show C (n + 12) 38 [.val (.str [42]), .val (.sl [a.g, b.g])] = (C (n + 11) 51 [.val a.g]).bind fun r0 => cnd r0.1.toBool (some (.tu [V0, .int .i64 0], [])) ((C (n + 11) 51 [.val b.g]).bind fun r1 => cnd r1.1.toBool (some (.tu [V0, .int .i64 0], [])) ((C (n + 11) 57 [.val (.str [42]), .val (.int .i64 a.n), .val (.int .i64 b.n)]).bind fun r23 => (C (n + 11) 53 [.val (.int .i64 (G.fld r23.1 0).toInt), .val (.int .i64 (G.fld r23.1 1).toInt)]).bind fun r24 => some (.tu [G.fld r24.1 0, .int .i64 (G.fld r24.1 1).toInt], []))) by kernel_rfl]
  refine two_nulls (by omega) a b (by decide) ?_
  refine bind_of (reck_9 (n + 7) ha hb) ?_
  exact bind_of (num_le (by omega) (reckN 9 a.n b.n)) rfl
theorem d_10 (n : Nat) (a b : V) (ha : I64 a.n) (hb : I64 b.n) : C (n + 12) 38 [.val (.str [47]), .val (.sl [a.g, b.g])] = some (vg (doesN 10 [a, b])) := by
  rw [show C (n + 12) 38 [.val (.str [47]), .val (.sl [a.g, b.g])] = (C (n + 11) 51 [.val a.g]).bind fun r0 => cnd r0.1.toBool (some (.tu [V0, .int .i64 0], [])) ((C (n + 11) 51 [.val b.g]).bind fun r1 => cnd r1.1.toBool (some (.tu [V0, .int .i64 0], [])) ((C (n + 11) 57 [.val (.str [47]), .val (.int .i64 a.n), .val (.int .i64 b.n)]).bind fun r23 => (C (n + 11) 53 [.val (.int .i64 (G.fld r23.1 0).toInt), .val (.int .i64 (G.fld r23.1 1).toInt)]).bind fun r24 => some (.tu [G.fld r24.1 0, .int .i64 (G.fld r24.1 1).toInt], []))) by kernel_rfl]
  refine two_nulls (by omega) a b (by decide) ?_
  refine bind_of (reck_10 (n + 7) ha hb) ?_
  exact bind_of (num_le (by omega) (reckN 10 a.n b.n)) rfl
theorem d_11 (n : Nat) (a b : V) (ha : I64 a.n) (hb : I64 b.n) : C (n + 12) 38 [.val (.str [37]), .val (.sl [a.g, b.g])] = some (vg (doesN 11 [a, b])) := by
  rw [show C (n + 12) 38 [.val (.str [37]), .val (.sl [a.g, b.g])] = (C (n + 11) 51 [.val a.g]).bind fun r0 => cnd r0.1.toBool (some (.tu [V0, .int .i64 0], [])) ((C (n + 11) 51 [.val b.g]).bind fun r1 => cnd r1.1.toBool (some (.tu [V0, .int .i64 0], [])) ((C (n + 11) 57 [.val (.str [37]), .val (.int .i64 a.n), .val (.int .i64 b.n)]).bind fun r23 => (C (n + 11) 53 [.val (.int .i64 (G.fld r23.1 0).toInt), .val (.int .i64 (G.fld r23.1 1).toInt)]).bind fun r24 => some (.tu [G.fld r24.1 0, .int .i64 (G.fld r24.1 1).toInt], []))) by kernel_rfl]
  refine two_nulls (by omega) a b (by decide) ?_
  refine bind_of (reck_11 (n + 7) ha hb) ?_
  exact bind_of (num_le (by omega) (reckN 11 a.n b.n)) rfl
theorem d_12 (n : Nat) (a b : V) : C (n + 12) 38 [.val (.str [61]), .val (.sl [a.g, b.g])] = some (vg (doesN 12 [a, b])) := by
  rw [show C (n + 12) 38 [.val (.str [61]), .val (.sl [a.g, b.g])] = (C (n + 11) 51 [.val a.g]).bind fun r0 => cnd r0.1.toBool (some (.tu [V0, .int .i64 0], [])) ((C (n + 11) 51 [.val b.g]).bind fun r1 => cnd r1.1.toBool (some (.tu [V0, .int .i64 0], [])) ((C (n + 11) 56 [.val a.g, .val b.g]).bind fun r5 => (C (n + 11) 55 [.val (.str [61]), .val (.int .i64 r5.1.toInt)]).bind fun r6 => (C (n + 11) 32 [.val (.bool (r6.1.toBool))]).bind fun r7 => some (.tu [r7.1, .int .i64 0], []))) by kernel_rfl]
  refine two_nulls (by omega) a b (by decide) ?_
  refine bind_of (cmp_le (by omega) a b) ?_
  refine bind_of (show C (n + 11) 55 [.val (.str [61]), .val (.int .i64 (cmpV a b))] = some (.bool (holdsN 12 (cmpV a b)), []) from f55_eq (n + 10) _ _) ?_
  exact bind_of (tr_le (by omega) (holdsN 12 (cmpV a b))) rfl
theorem d_13 (n : Nat) (a b : V) : C (n + 12) 38 [.val (.str [60, 62]), .val (.sl [a.g, b.g])] = some (vg (doesN 13 [a, b])) := by
  rw [show C (n + 12) 38 [.val (.str [60, 62]), .val (.sl [a.g, b.g])] = (C (n + 11) 51 [.val a.g]).bind fun r0 => cnd r0.1.toBool (some (.tu [V0, .int .i64 0], [])) ((C (n + 11) 51 [.val b.g]).bind fun r1 => cnd r1.1.toBool (some (.tu [V0, .int .i64 0], [])) ((C (n + 11) 56 [.val a.g, .val b.g]).bind fun r5 => (C (n + 11) 55 [.val (.str [60, 62]), .val (.int .i64 r5.1.toInt)]).bind fun r6 => (C (n + 11) 32 [.val (.bool (r6.1.toBool))]).bind fun r7 => some (.tu [r7.1, .int .i64 0], []))) by kernel_rfl]
  refine two_nulls (by omega) a b (by decide) ?_
  refine bind_of (cmp_le (by omega) a b) ?_
  refine bind_of (show C (n + 11) 55 [.val (.str [60, 62]), .val (.int .i64 (cmpV a b))] = some (.bool (holdsN 13 (cmpV a b)), []) from f55_eq (n + 10) _ _) ?_
  exact bind_of (tr_le (by omega) (holdsN 13 (cmpV a b))) rfl
theorem d_14 (n : Nat) (a b : V) : C (n + 12) 38 [.val (.str [60]), .val (.sl [a.g, b.g])] = some (vg (doesN 14 [a, b])) := by
  rw [show C (n + 12) 38 [.val (.str [60]), .val (.sl [a.g, b.g])] = (C (n + 11) 51 [.val a.g]).bind fun r0 => cnd r0.1.toBool (some (.tu [V0, .int .i64 0], [])) ((C (n + 11) 51 [.val b.g]).bind fun r1 => cnd r1.1.toBool (some (.tu [V0, .int .i64 0], [])) ((C (n + 11) 56 [.val a.g, .val b.g]).bind fun r5 => (C (n + 11) 55 [.val (.str [60]), .val (.int .i64 r5.1.toInt)]).bind fun r6 => (C (n + 11) 32 [.val (.bool (r6.1.toBool))]).bind fun r7 => some (.tu [r7.1, .int .i64 0], []))) by kernel_rfl]
  refine two_nulls (by omega) a b (by decide) ?_
  refine bind_of (cmp_le (by omega) a b) ?_
  refine bind_of (show C (n + 11) 55 [.val (.str [60]), .val (.int .i64 (cmpV a b))] = some (.bool (holdsN 14 (cmpV a b)), []) from f55_eq (n + 10) _ _) ?_
  exact bind_of (tr_le (by omega) (holdsN 14 (cmpV a b))) rfl
theorem d_15 (n : Nat) (a b : V) : C (n + 12) 38 [.val (.str [60, 61]), .val (.sl [a.g, b.g])] = some (vg (doesN 15 [a, b])) := by
  rw [show C (n + 12) 38 [.val (.str [60, 61]), .val (.sl [a.g, b.g])] = (C (n + 11) 51 [.val a.g]).bind fun r0 => cnd r0.1.toBool (some (.tu [V0, .int .i64 0], [])) ((C (n + 11) 51 [.val b.g]).bind fun r1 => cnd r1.1.toBool (some (.tu [V0, .int .i64 0], [])) ((C (n + 11) 56 [.val a.g, .val b.g]).bind fun r5 => (C (n + 11) 55 [.val (.str [60, 61]), .val (.int .i64 r5.1.toInt)]).bind fun r6 => (C (n + 11) 32 [.val (.bool (r6.1.toBool))]).bind fun r7 => some (.tu [r7.1, .int .i64 0], []))) by kernel_rfl]
  refine two_nulls (by omega) a b (by decide) ?_
  refine bind_of (cmp_le (by omega) a b) ?_
  refine bind_of (show C (n + 11) 55 [.val (.str [60, 61]), .val (.int .i64 (cmpV a b))] = some (.bool (holdsN 15 (cmpV a b)), []) from f55_eq (n + 10) _ _) ?_
  exact bind_of (tr_le (by omega) (holdsN 15 (cmpV a b))) rfl
theorem d_16 (n : Nat) (a b : V) : C (n + 12) 38 [.val (.str [62]), .val (.sl [a.g, b.g])] = some (vg (doesN 16 [a, b])) := by
  rw [show C (n + 12) 38 [.val (.str [62]), .val (.sl [a.g, b.g])] = (C (n + 11) 51 [.val a.g]).bind fun r0 => cnd r0.1.toBool (some (.tu [V0, .int .i64 0], [])) ((C (n + 11) 51 [.val b.g]).bind fun r1 => cnd r1.1.toBool (some (.tu [V0, .int .i64 0], [])) ((C (n + 11) 56 [.val a.g, .val b.g]).bind fun r5 => (C (n + 11) 55 [.val (.str [62]), .val (.int .i64 r5.1.toInt)]).bind fun r6 => (C (n + 11) 32 [.val (.bool (r6.1.toBool))]).bind fun r7 => some (.tu [r7.1, .int .i64 0], []))) by kernel_rfl]
  refine two_nulls (by omega) a b (by decide) ?_
  refine bind_of (cmp_le (by omega) a b) ?_
  refine bind_of (show C (n + 11) 55 [.val (.str [62]), .val (.int .i64 (cmpV a b))] = some (.bool (holdsN 16 (cmpV a b)), []) from f55_eq (n + 10) _ _) ?_
  exact bind_of (tr_le (by omega) (holdsN 16 (cmpV a b))) rfl
theorem d_17 (n : Nat) (a b : V) : C (n + 12) 38 [.val (.str [62, 61]), .val (.sl [a.g, b.g])] = some (vg (doesN 17 [a, b])) := by
  rw [show C (n + 12) 38 [.val (.str [62, 61]), .val (.sl [a.g, b.g])] = (C (n + 11) 51 [.val a.g]).bind fun r0 => cnd r0.1.toBool (some (.tu [V0, .int .i64 0], [])) ((C (n + 11) 51 [.val b.g]).bind fun r1 => cnd r1.1.toBool (some (.tu [V0, .int .i64 0], [])) ((C (n + 11) 56 [.val a.g, .val b.g]).bind fun r5 => (C (n + 11) 55 [.val (.str [62, 61]), .val (.int .i64 r5.1.toInt)]).bind fun r6 => (C (n + 11) 32 [.val (.bool (r6.1.toBool))]).bind fun r7 => some (.tu [r7.1, .int .i64 0], []))) by kernel_rfl]
  refine two_nulls (by omega) a b (by decide) ?_
  refine bind_of (cmp_le (by omega) a b) ?_
  refine bind_of (show C (n + 11) 55 [.val (.str [62, 61]), .val (.int .i64 (cmpV a b))] = some (.bool (holdsN 17 (cmpV a b)), []) from f55_eq (n + 10) _ _) ?_
  exact bind_of (tr_le (by omega) (holdsN 17 (cmpV a b))) rfl
/-! ## the reference's -/
/-- What the reference does with the values of an operator. -/
noncomputable def refDo (n : Nat) (s : List UInt8) (nl : Bool) (l : List G) : Option R := (cnd (decide (s = [73, 83, 78, 85, 76, 76])) ((C n 39 [.val (.bool (nl))]).bind fun r1 => some ((.tu [r1.1, (.int .i64 0)]), [])) (cnd (decide (s = [78, 79, 84, 78, 85, 76, 76])) ((C n 39 [.val (.bool ((!nl)))]).bind fun r2 => some ((.tu [r2.1, (.int .i64 0)]), [])) (cnd (decide (s = [65, 78, 68])) (cnd (decide (0 < (l.length : Int))) ((C n 41 [.val (G.fld (.tu l) 0)]).bind fun r3 => cnd (decide (1 < (l.length : Int))) ((C n 41 [.val (G.fld (.tu l) 1)]).bind fun r4 => (C n 40 [.val (.str s), .val (.int .i64 r3.1.toInt), .val (.int .i64 r4.1.toInt)]).bind fun r5 => some ((.tu [r5.1, (.int .i64 0)]), [])) (none)) (none)) (cnd (decide (s = [79, 82])) (cnd (decide (0 < (l.length : Int))) ((C n 41 [.val (G.fld (.tu l) 0)]).bind fun r6 => cnd (decide (1 < (l.length : Int))) ((C n 41 [.val (G.fld (.tu l) 1)]).bind fun r7 => (C n 40 [.val (.str s), .val (.int .i64 r6.1.toInt), .val (.int .i64 r7.1.toInt)]).bind fun r8 => some ((.tu [r8.1, (.int .i64 0)]), [])) (none)) (none)) (cnd (nl) (some ((.tu [(.tu [(.int .i64 0), (.int .i64 0), (.str [])]), (.int .i64 0)]), [])) (cnd (decide (s = [78, 79, 84])) (cnd (decide (0 < (l.length : Int))) ((C n 39 [.val (.bool (decide ((G.fld (G.fld (.tu l) 0) 1).toInt = 0)))]).bind fun r9 => some ((.tu [r9.1, (.int .i64 0)]), [])) (none)) ((C n 42 [.val (.str s)]).bind fun r10 => cnd (r10.1.toBool) ((C n 43 [.val (.str s), .val (.sl l)]).bind fun r11 => some ((.tu [(G.fld r11.1 0), (.int .i64 (G.fld r11.1 1).toInt)]), [])) (cnd (decide (0 < (l.length : Int))) (cnd (decide (1 < (l.length : Int))) ((C n 44 [.val (G.fld (.tu l) 0), .val (G.fld (.tu l) 1)]).bind fun r12 => cnd (decide (s = [61])) ((C n 39 [.val (.bool (decide (r12.1.toInt = 0)))]).bind fun r13 => some ((.tu [r13.1, (.int .i64 0)]), [])) (cnd (decide (s = [60, 62])) ((C n 39 [.val (.bool ((!decide (r12.1.toInt = 0))))]).bind fun r14 => some ((.tu [r14.1, (.int .i64 0)]), [])) (cnd (decide (s = [60])) ((C n 39 [.val (.bool (decide (r12.1.toInt < 0)))]).bind fun r15 => some ((.tu [r15.1, (.int .i64 0)]), [])) (cnd (decide (s = [60, 61])) ((C n 39 [.val (.bool (decide (r12.1.toInt ≤ 0)))]).bind fun r16 => some ((.tu [r16.1, (.int .i64 0)]), [])) (cnd (decide (s = [62])) ((C n 39 [.val (.bool (decide (0 < r12.1.toInt)))]).bind fun r17 => some ((.tu [r17.1, (.int .i64 0)]), [])) ((C n 39 [.val (.bool (decide (0 ≤ r12.1.toInt)))]).bind fun r18 => some ((.tu [r18.1, (.int .i64 0)]), []))))))) (none)) (none)))))))))
theorem less_le {n : Nat} (hn : 1 ≤ n) (b : Bool) : C n 60 [.val (.bool b)] = some (.int .i64 (if b then -1 else 1), []) := at_le (p := fun n => C n 60 [.val (.bool b)] = some (.int .i64 (if b then -1 else 1), [])) hn fun m => by rw [f60_eq]; cases b <;> rfl
theorem cmpr_le {n : Nat} (hn : 2 ≤ n) (v w : V) : C n 44 [.val v.g, .val w.g] = some (.int .i64 (cmpV v w), []) := by
  obtain ⟨m, rfl⟩ : ∃ m, n = m + 1 := ⟨n - 1, by omega⟩
  rw [f44_eq]
  show cnd (!decide (v.k = w.k)) ((C m 60 [.val (.bool (decide (v.k < w.k)))]).bind fun r0 => some (G.int .i64 r0.1.toInt, [])) (cnd (!decide (v.n = w.n)) ((C m 60 [.val (.bool (decide (v.n < w.n)))]).bind fun r0 => some (G.int .i64 r0.1.toInt, [])) (cnd (!decide (v.s = w.s)) ((C m 60 [.val (.bool (Op.bytesLess v.s w.s))]).bind fun r0 => some (G.int .i64 r0.1.toInt, [])) (some (G.int .i64 0, [])))) = _
  have ci : ∀ a b : Int, a ≠ b → cmpI a b = (if decide (a < b) = true then -1 else 1) ∧ cmpI a b ≠ 0 := by
    intro a b h
    unfold cmpI
    by_cases h1 : a < b
    · simp [h1]
    · rw [if_neg h1, if_pos (by omega), if_neg (by simpa using h1)]; decide
  have ce : ∀ a : Int, cmpI a a = 0 := fun a => by unfold cmpI; rw [if_neg (by omega), if_neg (by omega)]
  unfold cmpV
  by_cases h1 : v.k = w.k
  · rw [decide_eq_true h1, h1, ce, if_neg (by simp)]
    by_cases h2 : v.n = w.n
    · rw [decide_eq_true h2, h2, ce, if_neg (by simp), cmpB_tri]
      by_cases h3 : v.s = w.s
      · rw [decide_eq_true h3, if_pos h3]; rfl
      · rw [decide_eq_false h3, if_neg h3]
        exact bind_of (less_le (by omega) _) rfl
    · rw [decide_eq_false h2, if_pos (ci _ _ h2).2, (ci _ _ h2).1]
      exact bind_of (less_le (by omega) _) rfl
  · rw [decide_eq_false h1, if_pos (ci _ _ h1).2, (ci _ _ h1).1]
    exact bind_of (less_le (by omega) _) rfl
/-- A truth of three. -/
def tri (v : V) : Prop := v = .z ∨ v = tr false ∨ v = tr true
theorem bothr (n : Nat) {a b : V} (ha : tri a) (hb : tri b) : (C (n + 4) 40 [.val (.str [79, 82]), .val (.int .i64 (if a.k = 0 then 2 else a.n)), .val (.int .i64 (if b.k = 0 then 2 else b.n))] = some ((bothS 1 a b).g, [])) ∧ (C (n + 4) 40 [.val (.str [65, 78, 68]), .val (.int .i64 (if a.k = 0 then 2 else a.n)), .val (.int .i64 (if b.k = 0 then 2 else b.n))] = some ((bothS 0 a b).g, [])) := by
  rcases ha with rfl | rfl | rfl <;> rcases hb with rfl | rfl | rfl <;> exact ⟨by kernel_rfl, by kernel_rfl⟩
theorem three_le {n : Nat} (hn : 1 ≤ n) (v : V) : C n 41 [.val v.g] = some (.int .i64 (if v.k = 0 then 2 else v.n), []) := at_le (p := fun n => C n 41 [.val v.g] = some (.int .i64 (if v.k = 0 then 2 else v.n), [])) hn fun m => by
  rw [f41_eq]
  show cnd (decide (v.k = 0)) _ _ = _
  by_cases h : v.k = 0
  · rw [decide_eq_true h, if_pos h]; rfl
  · rw [decide_eq_false h, if_neg h]; rfl
theorem vg_again (x : V × Int) : (some (.tu [G.fld (vg x).1 0, .int .i64 (G.fld (vg x).1 1).toInt], []) : Option R) = some (vg x) := rfl
theorem ar_true (n : Nat) (s : List UInt8) (h : s = [78, 69, 71] ∨ s = [43] ∨ s = [45] ∨ s = [42] ∨ s = [47] ∨ s = [37]) : C (n + 6) 42 [.val (.str s)] = some (.bool true, []) := by
  rcases h with rfl | rfl | rfl | rfl | rfl | rfl <;> kernel_rfl
theorem r_1 (n : Nat) (a : V) : refDo (n + 6) [73, 83, 78, 85, 76, 76] (decide (a.k = 0)) [a.g] = some (vg (doesN 1 [a])) := by
  rw [show refDo (n + 6) [73, 83, 78, 85, 76, 76] (decide (a.k = 0)) [a.g] = (C (n + 6) 39 [.val (.bool (decide (a.k = 0)))]).bind fun r1 => some (.tu [r1.1, .int .i64 0], []) by kernel_rfl]
  exact bind_of (trr_le (by omega) _) rfl
theorem r_2 (n : Nat) (a : V) : refDo (n + 6) [78, 79, 84, 78, 85, 76, 76] (decide (a.k = 0)) [a.g] = some (vg (doesN 2 [a])) := by
  rw [show refDo (n + 6) [78, 79, 84, 78, 85, 76, 76] (decide (a.k = 0)) [a.g] = (C (n + 6) 39 [.val (.bool (!decide (a.k = 0)))]).bind fun r1 => some (.tu [r1.1, .int .i64 0], []) by kernel_rfl]
  exact bind_of (trr_le (by omega) _) rfl
theorem r_3 (n : Nat) (a : V) (ha : tri a) : refDo (n + 6) [78, 79, 84] (decide (a.k = 0)) [a.g] = some (vg (doesN 3 [a])) := by
  rcases ha with rfl | rfl | rfl <;> kernel_rfl
theorem r_4 (n : Nat) (a : V) (ha : I64 a.n) : refDo (n + 6) [78, 69, 71] (decide (a.k = 0)) [a.g] = some (vg (doesN 4 [a])) := by
  rw [show refDo (n + 6) [78, 69, 71] (decide (a.k = 0)) [a.g] = cnd (decide (a.k = 0)) (some (.tu [V0, .int .i64 0], [])) ((C (n + 6) 42 [.val (.str [78, 69, 71])]).bind fun r10 => cnd r10.1.toBool ((C (n + 6) 43 [.val (.str [78, 69, 71]), .val (.sl [a.g])]).bind fun r11 => some (.tu [G.fld r11.1 0, .int .i64 (G.fld r11.1 1).toInt], [])) none) by kernel_rfl]
  show _ = some (vg (if a.k = 0 then (.z, 0) else num (rng (0 - a.n))))
  by_cases h : a.k = 0
  · rw [decide_eq_true h, if_pos h]; rfl
  · rw [decide_eq_false h, if_neg h]
    rw [show C (n + 6) 42 [.val (.str [78, 69, 71])] = _ from ar_true n _ (.inl rfl)]
    simp only [Option.bind_some, G.toBool, cnd]
    refine bind_of (r := vg (num (rng (0 - a.n)))) ?_ (vg_again _)
    rw [f43_eq]
    show cnd (decide (a.n = -9223372036854775808)) (some (G.tu [V0, .int .i64 5], [])) (some (G.tu [.tu [.int .i64 2, .int .i64 (IntKind.wrap .i64 (0 - a.n)), .str []], .int .i64 0], [])) = _
    unfold I64 at ha
    by_cases h1 : a.n = -9223372036854775808
    · rw [decide_eq_true h1, rng_no (by unfold I64; omega)]; rfl
    · rw [decide_eq_false h1, rng_ok (by unfold I64; omega), wr (by omega) (by omega)]; rfl
theorem r_5 (n : Nat) (a b : V) (ha : tri a) (hb : tri b) (nl : Bool) : refDo (n + 6) [79, 82] nl [a.g, b.g] = some (vg (doesN 5 [a, b])) := by
  rw [show refDo (n + 6) [79, 82] nl [a.g, b.g] = (C (n + 6) 41 [.val a.g]).bind fun r3 => (C (n + 6) 41 [.val b.g]).bind fun r4 => (C (n + 6) 40 [.val (.str [79, 82]), .val (.int .i64 r3.1.toInt), .val (.int .i64 r4.1.toInt)]).bind fun r5 => some (.tu [r5.1, .int .i64 0], []) by kernel_rfl]
  refine bind_of (three_le (by omega) a) ?_
  refine bind_of (three_le (by omega) b) ?_
  exact bind_of (bothr (n + 2) ha hb).1 rfl
theorem r_6 (n : Nat) (a b : V) (ha : tri a) (hb : tri b) (nl : Bool) : refDo (n + 6) [65, 78, 68] nl [a.g, b.g] = some (vg (doesN 6 [a, b])) := by
  rw [show refDo (n + 6) [65, 78, 68] nl [a.g, b.g] = (C (n + 6) 41 [.val a.g]).bind fun r3 => (C (n + 6) 41 [.val b.g]).bind fun r4 => (C (n + 6) 40 [.val (.str [65, 78, 68]), .val (.int .i64 r3.1.toInt), .val (.int .i64 r4.1.toInt)]).bind fun r5 => some (.tu [r5.1, .int .i64 0], []) by kernel_rfl]
  refine bind_of (three_le (by omega) a) ?_
  refine bind_of (three_le (by omega) b) ?_
  exact bind_of (bothr (n + 2) ha hb).2 rfl
theorem two_nulls_ref (a b : V) {x : Option R} {k : Nat} (hk : 7 ≤ k) (h : x = some (vg (if k < 12 then num (reckN k a.n b.n) else (tr (holdsN k (cmpV a b)), 0)))) :
    cnd (decide (a.k = 0) || decide (b.k = 0)) (some (.tu [V0, .int .i64 0], [])) x = some (vg (doesN k [a, b])) := by
  have e : doesN k [a, b] = if a.k = 0 then (.z, 0) else if b.k = 0 then (.z, 0) else if k < 12 then num (reckN k a.n b.n) else (tr (holdsN k (cmpV a b)), 0) := by
    match k, hk with
    | k + 7, _ => rfl
  rw [e]
  by_cases h1 : a.k = 0
  · rw [decide_eq_true h1, if_pos h1]; rfl
  · rw [decide_eq_false h1, if_neg h1]
    by_cases h2 : b.k = 0
    · rw [decide_eq_true h2, if_pos h2]; rfl
    · rw [decide_eq_false h2, if_neg h2]
      exact h
theorem ar_two (a b : V) {x : Option R} {k : Nat} (hk : 7 ≤ k) (hk' : k < 12) (h : x = some (vg (num (reckN k a.n b.n)))) :
    cnd (decide (a.k = 0) || decide (b.k = 0)) (some (.tu [V0, .int .i64 0], [])) x = some (vg (doesN k [a, b])) := two_nulls_ref a b hk (by rw [if_pos hk']; exact h)
theorem num_tree (x : Int × Int) : (cnd (!decide ((G.fld (ng x).1 1).toInt = 0)) (some (G.tu [V0, .int .i64 (G.fld (ng x).1 1).toInt], [])) (some (G.tu [.tu (([.int .i64 0, .int .i64 0, .str []].set 0 (.int .i64 2)).set 1 (.int .i64 (G.fld (ng x).1 0).toInt)), .int .i64 0], [])) : Option R) = some (vg (num x)) := by
  show cnd (!decide (x.2 = 0)) _ _ = _
  unfold num
  by_cases h : x.2 = 0
  · rw [decide_eq_true h, if_pos h]; rfl
  · rw [decide_eq_false h, if_neg h]; rfl
theorem numr_7 (n : Nat) (a b : V) (ha : I64 a.n) (hb : I64 b.n) : C (n + 6) 43 [.val (.str [43]), .val (.sl [a.g, b.g])] = some (vg (num (reckN 7 a.n b.n))) := by
  rw [f43_eq]
  exact bind_of (addr_le (by omega) ha hb) (num_tree _)
theorem numr_8 (n : Nat) (a b : V) (ha : I64 a.n) (hb : I64 b.n) : C (n + 6) 43 [.val (.str [45]), .val (.sl [a.g, b.g])] = some (vg (num (reckN 8 a.n b.n))) := by
  rw [f43_eq]
  show cnd (decide (b.n = -9223372036854775808)) (cnd (decide (0 ≤ a.n)) (some (.tu [V0, .int .i64 5], [])) (some (.tu [.tu [.int .i64 2, .int .i64 (IntKind.wrap .i64 (a.n - b.n)), .str []], .int .i64 0], []))) ((C (n + 5) 58 [.val (.int .i64 a.n), .val (.int .i64 (IntKind.wrap .i64 (0 - b.n)))]).bind _) = some (vg (num (rng (a.n - b.n))))
  have ha' := ha
  have hb' := hb
  unfold I64 at ha' hb'
  by_cases h : b.n = -9223372036854775808
  · rw [decide_eq_true h]
    by_cases h1 : 0 ≤ a.n
    · rw [decide_eq_true h1, rng_no (by unfold I64; omega)]; rfl
    · rw [decide_eq_false h1, rng_ok (by unfold I64; omega), wr (show -9223372036854775808 ≤ a.n - b.n by omega) (by omega)]; rfl
  · rw [decide_eq_false h, wr (show -9223372036854775808 ≤ 0 - b.n by omega) (by omega)]
    refine bind_of (addr_le (by omega) ha (show I64 (0 - b.n) by unfold I64; omega)) ?_
    rw [show a.n + (0 - b.n) = a.n - b.n by omega]
    exact num_tree _
theorem numr_9 (n : Nat) (a b : V) (ha : I64 a.n) (hb : I64 b.n) : C (n + 6) 43 [.val (.str [42]), .val (.sl [a.g, b.g])] = some (vg (num (reckN 9 a.n b.n))) := by
  rw [f43_eq]
  exact bind_of (mulr_le (by omega) ha hb) (num_tree _)
theorem numr_10 (n : Nat) (a b : V) (ha : I64 a.n) (hb : I64 b.n) : C (n + 6) 43 [.val (.str [47]), .val (.sl [a.g, b.g])] = some (vg (num (reckN 10 a.n b.n))) := by
  rw [f43_eq]
  show cnd (decide (b.n = 0)) (some (.tu [V0, .int .i64 17], [])) (cnd (decide (a.n = -9223372036854775808)) (cnd (decide (b.n = -1)) (some (.tu [V0, .int .i64 5], [])) (cnd (decide (b.n = 0)) none (some (.tu [.tu [.int .i64 2, .int .i64 (IntKind.wrap .i64 (Int.tdiv a.n b.n)), .str []], .int .i64 0], [])))) (cnd (decide (b.n = 0)) none (some (.tu [.tu [.int .i64 2, .int .i64 (IntKind.wrap .i64 (Int.tdiv a.n b.n)), .str []], .int .i64 0], [])))) = some (vg (num (divS a.n b.n)))
  have ha' := ha
  unfold I64 at ha'
  by_cases h : b.n = 0
  · rw [decide_eq_true h, h]; rfl
  · rw [decide_eq_false h]
    by_cases h1 : b.n = -1
    · rw [decide_eq_true h1, h1, div_neg, Int.tdiv_neg, Int.tdiv_one]
      by_cases h2 : a.n = -9223372036854775808
      · rw [decide_eq_true h2, rng_no (by unfold I64; omega)]; rfl
      · rw [decide_eq_false h2, rng_ok (by unfold I64; omega), wr (by omega) (by omega), show -a.n = 0 - a.n by omega]; rfl
    · rw [decide_eq_false h1, div_one ha h h1]
      cases decide (a.n = -9223372036854775808) <;> rfl
theorem numr_11 (n : Nat) (a b : V) (ha : I64 a.n) (hb : I64 b.n) : C (n + 6) 43 [.val (.str [37]), .val (.sl [a.g, b.g])] = some (vg (num (reckN 11 a.n b.n))) := by
  rw [f43_eq]
  show cnd (decide (b.n = 0)) (some (.tu [V0, .int .i64 17], [])) (cnd (!decide (b.n = -1)) (cnd (decide (b.n = 0)) none (some (.tu [.tu [.int .i64 2, .int .i64 (Int.tmod a.n b.n), .str []], .int .i64 0], []))) (some (.tu [.tu [.int .i64 2, .int .i64 0, .str []], .int .i64 0], []))) = some (vg (num (modS a.n b.n)))
  unfold modS
  by_cases h : b.n = 0
  · rw [decide_eq_true h, if_pos h]; rfl
  · rw [decide_eq_false h, if_neg h]
    by_cases h1 : b.n = -1
    · rw [decide_eq_true h1, h1, Int.tmod_neg, Int.tmod_one]; rfl
    · rw [decide_eq_false h1]; rfl
theorem r_7 (n : Nat) (a b : V) (ha : I64 a.n) (hb : I64 b.n) : refDo (n + 6) [43] (decide (a.k = 0) || decide (b.k = 0)) [a.g, b.g] = some (vg (doesN 7 [a, b])) := by
  rw [show refDo (n + 6) [43] (decide (a.k = 0) || decide (b.k = 0)) [a.g, b.g] = cnd (decide (a.k = 0) || decide (b.k = 0)) (some (.tu [V0, .int .i64 0], [])) ((C (n + 6) 42 [.val (.str [43])]).bind fun r10 => cnd r10.1.toBool ((C (n + 6) 43 [.val (.str [43]), .val (.sl [a.g, b.g])]).bind fun r11 => some (.tu [G.fld r11.1 0, .int .i64 (G.fld r11.1 1).toInt], [])) ((C (n + 6) 44 [.val a.g, .val b.g]).bind fun r12 => (C (n + 6) 39 [.val (.bool (decide (0 ≤ r12.1.toInt)))]).bind fun r18 => some (.tu [r18.1, .int .i64 0], []))) by kernel_rfl]
  refine ar_two a b (by decide) (by decide) ?_
  refine bind_of (ar_true n [43] (by simp)) ?_
  simp only [G.toBool, cnd]
  rw [show C (n + 6) 43 [.val (.str [43]), .val (.sl [a.g, b.g])] = _ from numr_7 n a b ha hb]
  exact vg_again _
theorem r_8 (n : Nat) (a b : V) (ha : I64 a.n) (hb : I64 b.n) : refDo (n + 6) [45] (decide (a.k = 0) || decide (b.k = 0)) [a.g, b.g] = some (vg (doesN 8 [a, b])) := by
  rw [show refDo (n + 6) [45] (decide (a.k = 0) || decide (b.k = 0)) [a.g, b.g] = cnd (decide (a.k = 0) || decide (b.k = 0)) (some (.tu [V0, .int .i64 0], [])) ((C (n + 6) 42 [.val (.str [45])]).bind fun r10 => cnd r10.1.toBool ((C (n + 6) 43 [.val (.str [45]), .val (.sl [a.g, b.g])]).bind fun r11 => some (.tu [G.fld r11.1 0, .int .i64 (G.fld r11.1 1).toInt], [])) ((C (n + 6) 44 [.val a.g, .val b.g]).bind fun r12 => (C (n + 6) 39 [.val (.bool (decide (0 ≤ r12.1.toInt)))]).bind fun r18 => some (.tu [r18.1, .int .i64 0], []))) by kernel_rfl]
  refine ar_two a b (by decide) (by decide) ?_
  refine bind_of (ar_true n [45] (by simp)) ?_
  simp only [G.toBool, cnd]
  rw [show C (n + 6) 43 [.val (.str [45]), .val (.sl [a.g, b.g])] = _ from numr_8 n a b ha hb]
  exact vg_again _
theorem r_9 (n : Nat) (a b : V) (ha : I64 a.n) (hb : I64 b.n) : refDo (n + 6) [42] (decide (a.k = 0) || decide (b.k = 0)) [a.g, b.g] = some (vg (doesN 9 [a, b])) := by
  rw [show refDo (n + 6) [42] (decide (a.k = 0) || decide (b.k = 0)) [a.g, b.g] = cnd (decide (a.k = 0) || decide (b.k = 0)) (some (.tu [V0, .int .i64 0], [])) ((C (n + 6) 42 [.val (.str [42])]).bind fun r10 => cnd r10.1.toBool ((C (n + 6) 43 [.val (.str [42]), .val (.sl [a.g, b.g])]).bind fun r11 => some (.tu [G.fld r11.1 0, .int .i64 (G.fld r11.1 1).toInt], [])) ((C (n + 6) 44 [.val a.g, .val b.g]).bind fun r12 => (C (n + 6) 39 [.val (.bool (decide (0 ≤ r12.1.toInt)))]).bind fun r18 => some (.tu [r18.1, .int .i64 0], []))) by kernel_rfl]
  refine ar_two a b (by decide) (by decide) ?_
  refine bind_of (ar_true n [42] (by simp)) ?_
  simp only [G.toBool, cnd]
  rw [show C (n + 6) 43 [.val (.str [42]), .val (.sl [a.g, b.g])] = _ from numr_9 n a b ha hb]
  exact vg_again _
theorem r_10 (n : Nat) (a b : V) (ha : I64 a.n) (hb : I64 b.n) : refDo (n + 6) [47] (decide (a.k = 0) || decide (b.k = 0)) [a.g, b.g] = some (vg (doesN 10 [a, b])) := by
  rw [show refDo (n + 6) [47] (decide (a.k = 0) || decide (b.k = 0)) [a.g, b.g] = cnd (decide (a.k = 0) || decide (b.k = 0)) (some (.tu [V0, .int .i64 0], [])) ((C (n + 6) 42 [.val (.str [47])]).bind fun r10 => cnd r10.1.toBool ((C (n + 6) 43 [.val (.str [47]), .val (.sl [a.g, b.g])]).bind fun r11 => some (.tu [G.fld r11.1 0, .int .i64 (G.fld r11.1 1).toInt], [])) ((C (n + 6) 44 [.val a.g, .val b.g]).bind fun r12 => (C (n + 6) 39 [.val (.bool (decide (0 ≤ r12.1.toInt)))]).bind fun r18 => some (.tu [r18.1, .int .i64 0], []))) by kernel_rfl]
  refine ar_two a b (by decide) (by decide) ?_
  refine bind_of (ar_true n [47] (by simp)) ?_
  simp only [G.toBool, cnd]
  rw [show C (n + 6) 43 [.val (.str [47]), .val (.sl [a.g, b.g])] = _ from numr_10 n a b ha hb]
  exact vg_again _
theorem r_11 (n : Nat) (a b : V) (ha : I64 a.n) (hb : I64 b.n) : refDo (n + 6) [37] (decide (a.k = 0) || decide (b.k = 0)) [a.g, b.g] = some (vg (doesN 11 [a, b])) := by
  rw [show refDo (n + 6) [37] (decide (a.k = 0) || decide (b.k = 0)) [a.g, b.g] = cnd (decide (a.k = 0) || decide (b.k = 0)) (some (.tu [V0, .int .i64 0], [])) ((C (n + 6) 42 [.val (.str [37])]).bind fun r10 => cnd r10.1.toBool ((C (n + 6) 43 [.val (.str [37]), .val (.sl [a.g, b.g])]).bind fun r11 => some (.tu [G.fld r11.1 0, .int .i64 (G.fld r11.1 1).toInt], [])) ((C (n + 6) 44 [.val a.g, .val b.g]).bind fun r12 => (C (n + 6) 39 [.val (.bool (decide (0 ≤ r12.1.toInt)))]).bind fun r18 => some (.tu [r18.1, .int .i64 0], []))) by kernel_rfl]
  refine ar_two a b (by decide) (by decide) ?_
  refine bind_of (ar_true n [37] (by simp)) ?_
  simp only [G.toBool, cnd]
  rw [show C (n + 6) 43 [.val (.str [37]), .val (.sl [a.g, b.g])] = _ from numr_11 n a b ha hb]
  exact vg_again _
theorem r_12 (n : Nat) (a b : V) : refDo (n + 6) [61] (decide (a.k = 0) || decide (b.k = 0)) [a.g, b.g] = some (vg (doesN 12 [a, b])) := by
  rw [show refDo (n + 6) [61] (decide (a.k = 0) || decide (b.k = 0)) [a.g, b.g] = cnd (decide (a.k = 0) || decide (b.k = 0)) (some (.tu [V0, .int .i64 0], [])) ((C (n + 6) 42 [.val (.str [61])]).bind fun r10 => cnd r10.1.toBool ((C (n + 6) 43 [.val (.str [61]), .val (.sl [a.g, b.g])]).bind fun r11 => some (.tu [G.fld r11.1 0, .int .i64 (G.fld r11.1 1).toInt], [])) ((C (n + 6) 44 [.val a.g, .val b.g]).bind fun r12 => (C (n + 6) 39 [.val (.bool (decide (r12.1.toInt = 0)))]).bind fun r18 => some (.tu [r18.1, .int .i64 0], []))) by kernel_rfl]
  refine two_nulls_ref a b (by decide) ?_
  refine bind_of (show C (n + 6) 42 [.val (.str [61])] = some (.bool false, []) by kernel_rfl) ?_
  refine bind_of (cmpr_le (by omega) a b) ?_
  exact bind_of (trr_le (by omega) (holdsN 12 (cmpV a b))) rfl
theorem r_13 (n : Nat) (a b : V) : refDo (n + 6) [60, 62] (decide (a.k = 0) || decide (b.k = 0)) [a.g, b.g] = some (vg (doesN 13 [a, b])) := by
  rw [show refDo (n + 6) [60, 62] (decide (a.k = 0) || decide (b.k = 0)) [a.g, b.g] = cnd (decide (a.k = 0) || decide (b.k = 0)) (some (.tu [V0, .int .i64 0], [])) ((C (n + 6) 42 [.val (.str [60, 62])]).bind fun r10 => cnd r10.1.toBool ((C (n + 6) 43 [.val (.str [60, 62]), .val (.sl [a.g, b.g])]).bind fun r11 => some (.tu [G.fld r11.1 0, .int .i64 (G.fld r11.1 1).toInt], [])) ((C (n + 6) 44 [.val a.g, .val b.g]).bind fun r12 => (C (n + 6) 39 [.val (.bool (!decide (r12.1.toInt = 0)))]).bind fun r18 => some (.tu [r18.1, .int .i64 0], []))) by kernel_rfl]
  refine two_nulls_ref a b (by decide) ?_
  refine bind_of (show C (n + 6) 42 [.val (.str [60, 62])] = some (.bool false, []) by kernel_rfl) ?_
  refine bind_of (cmpr_le (by omega) a b) ?_
  exact bind_of (trr_le (by omega) (holdsN 13 (cmpV a b))) rfl
theorem r_14 (n : Nat) (a b : V) : refDo (n + 6) [60] (decide (a.k = 0) || decide (b.k = 0)) [a.g, b.g] = some (vg (doesN 14 [a, b])) := by
  rw [show refDo (n + 6) [60] (decide (a.k = 0) || decide (b.k = 0)) [a.g, b.g] = cnd (decide (a.k = 0) || decide (b.k = 0)) (some (.tu [V0, .int .i64 0], [])) ((C (n + 6) 42 [.val (.str [60])]).bind fun r10 => cnd r10.1.toBool ((C (n + 6) 43 [.val (.str [60]), .val (.sl [a.g, b.g])]).bind fun r11 => some (.tu [G.fld r11.1 0, .int .i64 (G.fld r11.1 1).toInt], [])) ((C (n + 6) 44 [.val a.g, .val b.g]).bind fun r12 => (C (n + 6) 39 [.val (.bool (decide (r12.1.toInt < 0)))]).bind fun r18 => some (.tu [r18.1, .int .i64 0], []))) by kernel_rfl]
  refine two_nulls_ref a b (by decide) ?_
  refine bind_of (show C (n + 6) 42 [.val (.str [60])] = some (.bool false, []) by kernel_rfl) ?_
  refine bind_of (cmpr_le (by omega) a b) ?_
  exact bind_of (trr_le (by omega) (holdsN 14 (cmpV a b))) rfl
theorem r_15 (n : Nat) (a b : V) : refDo (n + 6) [60, 61] (decide (a.k = 0) || decide (b.k = 0)) [a.g, b.g] = some (vg (doesN 15 [a, b])) := by
  rw [show refDo (n + 6) [60, 61] (decide (a.k = 0) || decide (b.k = 0)) [a.g, b.g] = cnd (decide (a.k = 0) || decide (b.k = 0)) (some (.tu [V0, .int .i64 0], [])) ((C (n + 6) 42 [.val (.str [60, 61])]).bind fun r10 => cnd r10.1.toBool ((C (n + 6) 43 [.val (.str [60, 61]), .val (.sl [a.g, b.g])]).bind fun r11 => some (.tu [G.fld r11.1 0, .int .i64 (G.fld r11.1 1).toInt], [])) ((C (n + 6) 44 [.val a.g, .val b.g]).bind fun r12 => (C (n + 6) 39 [.val (.bool (decide (r12.1.toInt ≤ 0)))]).bind fun r18 => some (.tu [r18.1, .int .i64 0], []))) by kernel_rfl]
  refine two_nulls_ref a b (by decide) ?_
  refine bind_of (show C (n + 6) 42 [.val (.str [60, 61])] = some (.bool false, []) by kernel_rfl) ?_
  refine bind_of (cmpr_le (by omega) a b) ?_
  exact bind_of (trr_le (by omega) (holdsN 15 (cmpV a b))) rfl
theorem r_16 (n : Nat) (a b : V) : refDo (n + 6) [62] (decide (a.k = 0) || decide (b.k = 0)) [a.g, b.g] = some (vg (doesN 16 [a, b])) := by
  rw [show refDo (n + 6) [62] (decide (a.k = 0) || decide (b.k = 0)) [a.g, b.g] = cnd (decide (a.k = 0) || decide (b.k = 0)) (some (.tu [V0, .int .i64 0], [])) ((C (n + 6) 42 [.val (.str [62])]).bind fun r10 => cnd r10.1.toBool ((C (n + 6) 43 [.val (.str [62]), .val (.sl [a.g, b.g])]).bind fun r11 => some (.tu [G.fld r11.1 0, .int .i64 (G.fld r11.1 1).toInt], [])) ((C (n + 6) 44 [.val a.g, .val b.g]).bind fun r12 => (C (n + 6) 39 [.val (.bool (decide (0 < r12.1.toInt)))]).bind fun r18 => some (.tu [r18.1, .int .i64 0], []))) by kernel_rfl]
  refine two_nulls_ref a b (by decide) ?_
  refine bind_of (show C (n + 6) 42 [.val (.str [62])] = some (.bool false, []) by kernel_rfl) ?_
  refine bind_of (cmpr_le (by omega) a b) ?_
  exact bind_of (trr_le (by omega) (holdsN 16 (cmpV a b))) rfl
theorem r_17 (n : Nat) (a b : V) : refDo (n + 6) [62, 61] (decide (a.k = 0) || decide (b.k = 0)) [a.g, b.g] = some (vg (doesN 17 [a, b])) := by
  rw [show refDo (n + 6) [62, 61] (decide (a.k = 0) || decide (b.k = 0)) [a.g, b.g] = cnd (decide (a.k = 0) || decide (b.k = 0)) (some (.tu [V0, .int .i64 0], [])) ((C (n + 6) 42 [.val (.str [62, 61])]).bind fun r10 => cnd r10.1.toBool ((C (n + 6) 43 [.val (.str [62, 61]), .val (.sl [a.g, b.g])]).bind fun r11 => some (.tu [G.fld r11.1 0, .int .i64 (G.fld r11.1 1).toInt], [])) ((C (n + 6) 44 [.val a.g, .val b.g]).bind fun r12 => (C (n + 6) 39 [.val (.bool (decide (0 ≤ r12.1.toInt)))]).bind fun r18 => some (.tu [r18.1, .int .i64 0], []))) by kernel_rfl]
  refine two_nulls_ref a b (by decide) ?_
  refine bind_of (show C (n + 6) 42 [.val (.str [62, 61])] = some (.bool false, []) by kernel_rfl) ?_
  refine bind_of (cmpr_le (by omega) a b) ?_
  exact bind_of (trr_le (by omega) (holdsN 17 (cmpV a b))) rfl
end Go.Proofs.Ytpmecpmankpcbaa.Pure
