/- Go functions of the program as plain functions, and that each call comes to them. Written by a program of this session (hprint.py) on the kit's print. No conditions. -/
import Derived.Test.YtpmecpmankpcbaaPKx0
import Derived.Test.YtpmecpmankpcbaaPKx6
import Derived.Test.YtpmecpmankpcbaaSq
namespace Go.Proofs.Ytpmecpmankpcbaa.PK
open Go.RowKit Go.Proofs.YtpmecpmankpcbaaW.PrintWords Go.Proofs.YtpmecpmankpcbaaW.PrintLast Go.Proofs.YtpmecpmankpcbaaW.PrintMore Go.Proofs.Ytpmecpmankpcbaa.Sq
set_option linter.unusedVariables false
set_option linter.unusedSimpArgs false

/-! ### expr_operator: function 34 -/
/-- What told makes. -/
def expr_operator.tell (many such : Bool) (k : Int) : Int × Int := if many = true then (if such = true then (k, 0) else (0, 15)) else (0, 9)
theorem expr_operator.tell_eq (many such : Bool) (k : Int) : expr_told.f many such k = some ((expr_operator.tell many such k).1, (expr_operator.tell many such k).2) := by
 unfold expr_told.f expr_operator.tell
 cases many <;> cases such <;> rfl
/-- Are all of a kind, or null? -/
def expr_operator.every (l : List Int) (k : Int) : Bool := l.all (fun x => x == k || x == 0)
theorem expr_operator.every_from (l : List Int) (k : Int) : ∀ (d i : Nat), l.length - i = d → i ≤ l.length → l.length ≤ 9223372036854775807 → ∀ n, d < n → expr_all.l0 n k l (l.length : Int) (i : Int) = some ((l.drop i).all (fun x => x == k || x == 0)) := by
 intro d
 induction d with
 | zero =>
  intro i hd hi hl n hn
  obtain ⟨n, rfl⟩ : ∃ m, n = m + 1 := ⟨n - 1, by omega⟩
  simp only [expr_all.l0]
  rw [if_neg (by omega), List.drop_of_length_le (by omega)]
  rfl
 | succ d ih =>
  intro i hd hi hl n hn
  obtain ⟨n, rfl⟩ : ∃ m, n = m + 1 := ⟨n - 1, by omega⟩
  have hlt : i < l.length := by omega
  have hr : rd l (i : Int) = l[i] := by simp [rd, List.getElem?_eq_getElem hlt]
  have hw : wrap64 ((i : Int) + 1) = ((i + 1 : Nat) : Int) := by unfold wrap64; omega
  simp only [expr_all.l0]
  rw [if_pos (by omega), if_pos (by omega), if_pos (by omega), hr, List.drop_eq_getElem_cons hlt, List.all_cons, hw, ih (i + 1) (by omega) (by omega) hl n (by omega)]
  by_cases h1 : l[i] = k
  ·rw [if_pos h1]
   simp [h1]
  ·rw [if_neg h1]
   by_cases h2 : l[i] = 0
   ·rw [if_pos h2]
    simp [h2]
   ·rw [if_neg h2]
    simp [h1, h2]
theorem expr_operator.every_eq (l : List Int) (k : Int) (hl : l.length ≤ 9223372036854775807) : expr_all.f (l.length + 1) l k = some (expr_operator.every l k) := by
 have h := expr_operator.every_from l k l.length 0 (by omega) (by omega) hl (l.length + 1) (by omega)
 simpa [expr_all.f, expr_operator.every] using h
/-- Do two kinds fit together? -/
def expr_operator.same (l : List Int) : Bool := (rd l 0 == rd l 1) || (rd l 0 == 0) || (rd l 1 == 0)
/-- The kind that an operator makes of kinds, and the error. -/
def expr_operator.kind (s : List UInt8) (l : List Int) : Int × Int :=
 if s = ([73, 83, 78, 85, 76, 76] : List UInt8) then expr_operator.tell ((l.length : Int) == 1) true 1
 else if s = ([78, 79, 84, 78, 85, 76, 76] : List UInt8) then expr_operator.tell ((l.length : Int) == 1) true 1
 else if s = ([78, 79, 84] : List UInt8) then expr_operator.tell ((l.length : Int) == 1) (expr_operator.every l 1) 1
 else if s = ([78, 69, 71] : List UInt8) then expr_operator.tell ((l.length : Int) == 1) (expr_operator.every l 2) 2
 else if s = ([79, 82] : List UInt8) ∨ s = ([65, 78, 68] : List UInt8) then expr_operator.tell ((l.length : Int) == 2) (expr_operator.every l 1) 1
 else if s = ([43] : List UInt8) ∨ s = ([45] : List UInt8) ∨ s = ([42] : List UInt8) ∨ s = ([47] : List UInt8) ∨ s = ([37] : List UInt8) then expr_operator.tell ((l.length : Int) == 2) (expr_operator.every l 2) 2
 else if s = ([61] : List UInt8) ∨ s = ([60, 62] : List UInt8) ∨ s = ([60] : List UInt8) ∨ s = ([60, 61] : List UInt8) ∨ s = ([62] : List UInt8) ∨ s = ([62, 61] : List UInt8) then expr_operator.tell ((l.length : Int) == 2) (((l.length : Int) == 2) && expr_operator.same l) 1
 else (0, 9)
def expr_operator.f (a0 : ByteArray) (l1 : List Int) : Option (Int × Int) := some (expr_operator.kind a0.toList l1)
set_option maxHeartbeats 4000000 in
set_option maxRecDepth 100000 in
theorem expr_operator.case0 (A1 : Option Addr) (c1 : Nat) (a0 : ByteArray) (l1 : List Int) (w : World) (hr1 : Kd.C (Kd.int .i64) w A1 l1.length l1) (hc1 : l1.length ≤ c1) (he : a0.toList = ([73, 83, 78, 85, 76, 76] : List UInt8) ∨ a0.toList = ([78, 79, 84, 78, 85, 76, 76] : List UInt8)) :
  Calls Try.prog 34 #[.string a0, .slice A1 l1.length c1] w fun e w' => e = .returned (.tuple #[.int .i64 (expr_operator.tell ((l1.length : Int) == 1) true 1).1, .int .i64 (expr_operator.tell ((l1.length : Int) == 1) true 1).2]) ∧ Drawn0 w w' := by
 have HL := aM hr1.2.1
 have HR := aM hr1
 have HC := aM hc1
 clear hr1 hc1
 rcases he with he | he
 all_goals
  first | (have e0 : (a0.toList == ([73, 83, 78, 85, 76, 76] : List UInt8)) = false := by rw [he]; decide) | (have e0 : (a0.toList == ([73, 83, 78, 85, 76, 76] : List UInt8)) = true := by rw [he]; decide)
  first | (have e1 : (a0.toList == ([78, 79, 84, 78, 85, 76, 76] : List UInt8)) = false := by rw [he]; decide) | (have e1 : (a0.toList == ([78, 79, 84, 78, 85, 76, 76] : List UInt8)) = true := by rw [he]; decide)
  first | (have e2 : (a0.toList == ([78, 79, 84] : List UInt8)) = false := by rw [he]; decide) | (have e2 : (a0.toList == ([78, 79, 84] : List UInt8)) = true := by rw [he]; decide)
  first | (have e3 : (a0.toList == ([78, 69, 71] : List UInt8)) = false := by rw [he]; decide) | (have e3 : (a0.toList == ([78, 69, 71] : List UInt8)) = true := by rw [he]; decide)
  first | (have e4 : (a0.toList == ([79, 82] : List UInt8)) = false := by rw [he]; decide) | (have e4 : (a0.toList == ([79, 82] : List UInt8)) = true := by rw [he]; decide)
  first | (have e5 : (a0.toList == ([65, 78, 68] : List UInt8)) = false := by rw [he]; decide) | (have e5 : (a0.toList == ([65, 78, 68] : List UInt8)) = true := by rw [he]; decide)
  first | (have e6 : (a0.toList == ([43] : List UInt8)) = false := by rw [he]; decide) | (have e6 : (a0.toList == ([43] : List UInt8)) = true := by rw [he]; decide)
  first | (have e7 : (a0.toList == ([45] : List UInt8)) = false := by rw [he]; decide) | (have e7 : (a0.toList == ([45] : List UInt8)) = true := by rw [he]; decide)
  first | (have e8 : (a0.toList == ([42] : List UInt8)) = false := by rw [he]; decide) | (have e8 : (a0.toList == ([42] : List UInt8)) = true := by rw [he]; decide)
  first | (have e9 : (a0.toList == ([47] : List UInt8)) = false := by rw [he]; decide) | (have e9 : (a0.toList == ([47] : List UInt8)) = true := by rw [he]; decide)
  first | (have e10 : (a0.toList == ([37] : List UInt8)) = false := by rw [he]; decide) | (have e10 : (a0.toList == ([37] : List UInt8)) = true := by rw [he]; decide)
  first | (have e11 : (a0.toList == ([61] : List UInt8)) = false := by rw [he]; decide) | (have e11 : (a0.toList == ([61] : List UInt8)) = true := by rw [he]; decide)
  first | (have e12 : (a0.toList == ([60, 62] : List UInt8)) = false := by rw [he]; decide) | (have e12 : (a0.toList == ([60, 62] : List UInt8)) = true := by rw [he]; decide)
  first | (have e13 : (a0.toList == ([60] : List UInt8)) = false := by rw [he]; decide) | (have e13 : (a0.toList == ([60] : List UInt8)) = true := by rw [he]; decide)
  first | (have e14 : (a0.toList == ([60, 61] : List UInt8)) = false := by rw [he]; decide) | (have e14 : (a0.toList == ([60, 61] : List UInt8)) = true := by rw [he]; decide)
  first | (have e15 : (a0.toList == ([62] : List UInt8)) = false := by rw [he]; decide) | (have e15 : (a0.toList == ([62] : List UInt8)) = true := by rw [he]; decide)
  first | (have e16 : (a0.toList == ([62, 61] : List UInt8)) = false := by rw [he]; decide) | (have e16 : (a0.toList == ([62, 61] : List UInt8)) = true := by rw [he]; decide)
  clear he
  go_enter Try.func34, Try.ntmps34
  go_wp2_with (go_at_call 47; (with_reducible refine (expr_told.calls ((l1.length : Int) == 1) true 1 _ _ _ (expr_operator.tell_eq ((l1.length : Int) == 1) true 1)).mono ?_); rintro e w' ⟨rfl, ⟨nd, rfl⟩⟩)
  go_ret2
  exact ⟨rfl, by repeat (first | exact Drawn0.refl _ | apply Drawn0.step)⟩
set_option maxHeartbeats 4000000 in
set_option maxRecDepth 100000 in
theorem expr_operator.case1 (A1 : Option Addr) (c1 : Nat) (a0 : ByteArray) (l1 : List Int) (w : World) (hr1 : Kd.C (Kd.int .i64) w A1 l1.length l1) (hc1 : l1.length ≤ c1) (he : a0.toList = ([78, 79, 84] : List UInt8)) :
  Calls Try.prog 34 #[.string a0, .slice A1 l1.length c1] w fun e w' => e = .returned (.tuple #[.int .i64 (expr_operator.tell ((l1.length : Int) == 1) (expr_operator.every l1 1) 1).1, .int .i64 (expr_operator.tell ((l1.length : Int) == 1) (expr_operator.every l1 1) 1).2]) ∧ Drawn0 w w' := by
 have HL := aM hr1.2.1
 have HR := aM hr1
 have HC := aM hc1
 clear hr1 hc1
 all_goals
  first | (have e0 : (a0.toList == ([73, 83, 78, 85, 76, 76] : List UInt8)) = false := by rw [he]; decide) | (have e0 : (a0.toList == ([73, 83, 78, 85, 76, 76] : List UInt8)) = true := by rw [he]; decide)
  first | (have e1 : (a0.toList == ([78, 79, 84, 78, 85, 76, 76] : List UInt8)) = false := by rw [he]; decide) | (have e1 : (a0.toList == ([78, 79, 84, 78, 85, 76, 76] : List UInt8)) = true := by rw [he]; decide)
  first | (have e2 : (a0.toList == ([78, 79, 84] : List UInt8)) = false := by rw [he]; decide) | (have e2 : (a0.toList == ([78, 79, 84] : List UInt8)) = true := by rw [he]; decide)
  first | (have e3 : (a0.toList == ([78, 69, 71] : List UInt8)) = false := by rw [he]; decide) | (have e3 : (a0.toList == ([78, 69, 71] : List UInt8)) = true := by rw [he]; decide)
  first | (have e4 : (a0.toList == ([79, 82] : List UInt8)) = false := by rw [he]; decide) | (have e4 : (a0.toList == ([79, 82] : List UInt8)) = true := by rw [he]; decide)
  first | (have e5 : (a0.toList == ([65, 78, 68] : List UInt8)) = false := by rw [he]; decide) | (have e5 : (a0.toList == ([65, 78, 68] : List UInt8)) = true := by rw [he]; decide)
  first | (have e6 : (a0.toList == ([43] : List UInt8)) = false := by rw [he]; decide) | (have e6 : (a0.toList == ([43] : List UInt8)) = true := by rw [he]; decide)
  first | (have e7 : (a0.toList == ([45] : List UInt8)) = false := by rw [he]; decide) | (have e7 : (a0.toList == ([45] : List UInt8)) = true := by rw [he]; decide)
  first | (have e8 : (a0.toList == ([42] : List UInt8)) = false := by rw [he]; decide) | (have e8 : (a0.toList == ([42] : List UInt8)) = true := by rw [he]; decide)
  first | (have e9 : (a0.toList == ([47] : List UInt8)) = false := by rw [he]; decide) | (have e9 : (a0.toList == ([47] : List UInt8)) = true := by rw [he]; decide)
  first | (have e10 : (a0.toList == ([37] : List UInt8)) = false := by rw [he]; decide) | (have e10 : (a0.toList == ([37] : List UInt8)) = true := by rw [he]; decide)
  first | (have e11 : (a0.toList == ([61] : List UInt8)) = false := by rw [he]; decide) | (have e11 : (a0.toList == ([61] : List UInt8)) = true := by rw [he]; decide)
  first | (have e12 : (a0.toList == ([60, 62] : List UInt8)) = false := by rw [he]; decide) | (have e12 : (a0.toList == ([60, 62] : List UInt8)) = true := by rw [he]; decide)
  first | (have e13 : (a0.toList == ([60] : List UInt8)) = false := by rw [he]; decide) | (have e13 : (a0.toList == ([60] : List UInt8)) = true := by rw [he]; decide)
  first | (have e14 : (a0.toList == ([60, 61] : List UInt8)) = false := by rw [he]; decide) | (have e14 : (a0.toList == ([60, 61] : List UInt8)) = true := by rw [he]; decide)
  first | (have e15 : (a0.toList == ([62] : List UInt8)) = false := by rw [he]; decide) | (have e15 : (a0.toList == ([62] : List UInt8)) = true := by rw [he]; decide)
  first | (have e16 : (a0.toList == ([62, 61] : List UInt8)) = false := by rw [he]; decide) | (have e16 : (a0.toList == ([62, 61] : List UInt8)) = true := by rw [he]; decide)
  clear he
  go_enter Try.func34, Try.ntmps34
  go_wp2_with (first | (go_at_call 48; (with_reducible refine (expr_all.calls (l1.length + 1) _ _ l1 1 _ _ (Kd.C_below HR.out (by repeat (first | exact Below.refl _ _ | apply pw_below_drewN))) HC.out (expr_operator.every_eq l1 1 HL.out)).mono ?_); rintro e w' ⟨rfl, ⟨nd, rfl⟩⟩) | (go_at_call 47; (with_reducible refine (expr_told.calls ((l1.length : Int) == 1) (expr_operator.every l1 1) 1 _ _ _ (expr_operator.tell_eq ((l1.length : Int) == 1) (expr_operator.every l1 1) 1)).mono ?_); rintro e w' ⟨rfl, ⟨nd, rfl⟩⟩))
  go_ret2
  exact ⟨rfl, by repeat (first | exact Drawn0.refl _ | apply Drawn0.step)⟩
set_option maxHeartbeats 4000000 in
set_option maxRecDepth 100000 in
theorem expr_operator.case2 (A1 : Option Addr) (c1 : Nat) (a0 : ByteArray) (l1 : List Int) (w : World) (hr1 : Kd.C (Kd.int .i64) w A1 l1.length l1) (hc1 : l1.length ≤ c1) (he : a0.toList = ([78, 69, 71] : List UInt8)) :
  Calls Try.prog 34 #[.string a0, .slice A1 l1.length c1] w fun e w' => e = .returned (.tuple #[.int .i64 (expr_operator.tell ((l1.length : Int) == 1) (expr_operator.every l1 2) 2).1, .int .i64 (expr_operator.tell ((l1.length : Int) == 1) (expr_operator.every l1 2) 2).2]) ∧ Drawn0 w w' := by
 have HL := aM hr1.2.1
 have HR := aM hr1
 have HC := aM hc1
 clear hr1 hc1
 all_goals
  first | (have e0 : (a0.toList == ([73, 83, 78, 85, 76, 76] : List UInt8)) = false := by rw [he]; decide) | (have e0 : (a0.toList == ([73, 83, 78, 85, 76, 76] : List UInt8)) = true := by rw [he]; decide)
  first | (have e1 : (a0.toList == ([78, 79, 84, 78, 85, 76, 76] : List UInt8)) = false := by rw [he]; decide) | (have e1 : (a0.toList == ([78, 79, 84, 78, 85, 76, 76] : List UInt8)) = true := by rw [he]; decide)
  first | (have e2 : (a0.toList == ([78, 79, 84] : List UInt8)) = false := by rw [he]; decide) | (have e2 : (a0.toList == ([78, 79, 84] : List UInt8)) = true := by rw [he]; decide)
  first | (have e3 : (a0.toList == ([78, 69, 71] : List UInt8)) = false := by rw [he]; decide) | (have e3 : (a0.toList == ([78, 69, 71] : List UInt8)) = true := by rw [he]; decide)
  first | (have e4 : (a0.toList == ([79, 82] : List UInt8)) = false := by rw [he]; decide) | (have e4 : (a0.toList == ([79, 82] : List UInt8)) = true := by rw [he]; decide)
  first | (have e5 : (a0.toList == ([65, 78, 68] : List UInt8)) = false := by rw [he]; decide) | (have e5 : (a0.toList == ([65, 78, 68] : List UInt8)) = true := by rw [he]; decide)
  first | (have e6 : (a0.toList == ([43] : List UInt8)) = false := by rw [he]; decide) | (have e6 : (a0.toList == ([43] : List UInt8)) = true := by rw [he]; decide)
  first | (have e7 : (a0.toList == ([45] : List UInt8)) = false := by rw [he]; decide) | (have e7 : (a0.toList == ([45] : List UInt8)) = true := by rw [he]; decide)
  first | (have e8 : (a0.toList == ([42] : List UInt8)) = false := by rw [he]; decide) | (have e8 : (a0.toList == ([42] : List UInt8)) = true := by rw [he]; decide)
  first | (have e9 : (a0.toList == ([47] : List UInt8)) = false := by rw [he]; decide) | (have e9 : (a0.toList == ([47] : List UInt8)) = true := by rw [he]; decide)
  first | (have e10 : (a0.toList == ([37] : List UInt8)) = false := by rw [he]; decide) | (have e10 : (a0.toList == ([37] : List UInt8)) = true := by rw [he]; decide)
  first | (have e11 : (a0.toList == ([61] : List UInt8)) = false := by rw [he]; decide) | (have e11 : (a0.toList == ([61] : List UInt8)) = true := by rw [he]; decide)
  first | (have e12 : (a0.toList == ([60, 62] : List UInt8)) = false := by rw [he]; decide) | (have e12 : (a0.toList == ([60, 62] : List UInt8)) = true := by rw [he]; decide)
  first | (have e13 : (a0.toList == ([60] : List UInt8)) = false := by rw [he]; decide) | (have e13 : (a0.toList == ([60] : List UInt8)) = true := by rw [he]; decide)
  first | (have e14 : (a0.toList == ([60, 61] : List UInt8)) = false := by rw [he]; decide) | (have e14 : (a0.toList == ([60, 61] : List UInt8)) = true := by rw [he]; decide)
  first | (have e15 : (a0.toList == ([62] : List UInt8)) = false := by rw [he]; decide) | (have e15 : (a0.toList == ([62] : List UInt8)) = true := by rw [he]; decide)
  first | (have e16 : (a0.toList == ([62, 61] : List UInt8)) = false := by rw [he]; decide) | (have e16 : (a0.toList == ([62, 61] : List UInt8)) = true := by rw [he]; decide)
  clear he
  go_enter Try.func34, Try.ntmps34
  go_wp2_with (first | (go_at_call 48; (with_reducible refine (expr_all.calls (l1.length + 1) _ _ l1 2 _ _ (Kd.C_below HR.out (by repeat (first | exact Below.refl _ _ | apply pw_below_drewN))) HC.out (expr_operator.every_eq l1 2 HL.out)).mono ?_); rintro e w' ⟨rfl, ⟨nd, rfl⟩⟩) | (go_at_call 47; (with_reducible refine (expr_told.calls ((l1.length : Int) == 1) (expr_operator.every l1 2) 2 _ _ _ (expr_operator.tell_eq ((l1.length : Int) == 1) (expr_operator.every l1 2) 2)).mono ?_); rintro e w' ⟨rfl, ⟨nd, rfl⟩⟩))
  go_ret2
  exact ⟨rfl, by repeat (first | exact Drawn0.refl _ | apply Drawn0.step)⟩
set_option maxHeartbeats 4000000 in
set_option maxRecDepth 100000 in
theorem expr_operator.case3 (A1 : Option Addr) (c1 : Nat) (a0 : ByteArray) (l1 : List Int) (w : World) (hr1 : Kd.C (Kd.int .i64) w A1 l1.length l1) (hc1 : l1.length ≤ c1) (he : a0.toList = ([79, 82] : List UInt8) ∨ a0.toList = ([65, 78, 68] : List UInt8)) :
  Calls Try.prog 34 #[.string a0, .slice A1 l1.length c1] w fun e w' => e = .returned (.tuple #[.int .i64 (expr_operator.tell ((l1.length : Int) == 2) (expr_operator.every l1 1) 1).1, .int .i64 (expr_operator.tell ((l1.length : Int) == 2) (expr_operator.every l1 1) 1).2]) ∧ Drawn0 w w' := by
 have HL := aM hr1.2.1
 have HR := aM hr1
 have HC := aM hc1
 clear hr1 hc1
 rcases he with he | he
 all_goals
  first | (have e0 : (a0.toList == ([73, 83, 78, 85, 76, 76] : List UInt8)) = false := by rw [he]; decide) | (have e0 : (a0.toList == ([73, 83, 78, 85, 76, 76] : List UInt8)) = true := by rw [he]; decide)
  first | (have e1 : (a0.toList == ([78, 79, 84, 78, 85, 76, 76] : List UInt8)) = false := by rw [he]; decide) | (have e1 : (a0.toList == ([78, 79, 84, 78, 85, 76, 76] : List UInt8)) = true := by rw [he]; decide)
  first | (have e2 : (a0.toList == ([78, 79, 84] : List UInt8)) = false := by rw [he]; decide) | (have e2 : (a0.toList == ([78, 79, 84] : List UInt8)) = true := by rw [he]; decide)
  first | (have e3 : (a0.toList == ([78, 69, 71] : List UInt8)) = false := by rw [he]; decide) | (have e3 : (a0.toList == ([78, 69, 71] : List UInt8)) = true := by rw [he]; decide)
  first | (have e4 : (a0.toList == ([79, 82] : List UInt8)) = false := by rw [he]; decide) | (have e4 : (a0.toList == ([79, 82] : List UInt8)) = true := by rw [he]; decide)
  first | (have e5 : (a0.toList == ([65, 78, 68] : List UInt8)) = false := by rw [he]; decide) | (have e5 : (a0.toList == ([65, 78, 68] : List UInt8)) = true := by rw [he]; decide)
  first | (have e6 : (a0.toList == ([43] : List UInt8)) = false := by rw [he]; decide) | (have e6 : (a0.toList == ([43] : List UInt8)) = true := by rw [he]; decide)
  first | (have e7 : (a0.toList == ([45] : List UInt8)) = false := by rw [he]; decide) | (have e7 : (a0.toList == ([45] : List UInt8)) = true := by rw [he]; decide)
  first | (have e8 : (a0.toList == ([42] : List UInt8)) = false := by rw [he]; decide) | (have e8 : (a0.toList == ([42] : List UInt8)) = true := by rw [he]; decide)
  first | (have e9 : (a0.toList == ([47] : List UInt8)) = false := by rw [he]; decide) | (have e9 : (a0.toList == ([47] : List UInt8)) = true := by rw [he]; decide)
  first | (have e10 : (a0.toList == ([37] : List UInt8)) = false := by rw [he]; decide) | (have e10 : (a0.toList == ([37] : List UInt8)) = true := by rw [he]; decide)
  first | (have e11 : (a0.toList == ([61] : List UInt8)) = false := by rw [he]; decide) | (have e11 : (a0.toList == ([61] : List UInt8)) = true := by rw [he]; decide)
  first | (have e12 : (a0.toList == ([60, 62] : List UInt8)) = false := by rw [he]; decide) | (have e12 : (a0.toList == ([60, 62] : List UInt8)) = true := by rw [he]; decide)
  first | (have e13 : (a0.toList == ([60] : List UInt8)) = false := by rw [he]; decide) | (have e13 : (a0.toList == ([60] : List UInt8)) = true := by rw [he]; decide)
  first | (have e14 : (a0.toList == ([60, 61] : List UInt8)) = false := by rw [he]; decide) | (have e14 : (a0.toList == ([60, 61] : List UInt8)) = true := by rw [he]; decide)
  first | (have e15 : (a0.toList == ([62] : List UInt8)) = false := by rw [he]; decide) | (have e15 : (a0.toList == ([62] : List UInt8)) = true := by rw [he]; decide)
  first | (have e16 : (a0.toList == ([62, 61] : List UInt8)) = false := by rw [he]; decide) | (have e16 : (a0.toList == ([62, 61] : List UInt8)) = true := by rw [he]; decide)
  clear he
  go_enter Try.func34, Try.ntmps34
  go_wp2_with (first | (go_at_call 48; (with_reducible refine (expr_all.calls (l1.length + 1) _ _ l1 1 _ _ (Kd.C_below HR.out (by repeat (first | exact Below.refl _ _ | apply pw_below_drewN))) HC.out (expr_operator.every_eq l1 1 HL.out)).mono ?_); rintro e w' ⟨rfl, ⟨nd, rfl⟩⟩) | (go_at_call 47; (with_reducible refine (expr_told.calls ((l1.length : Int) == 2) (expr_operator.every l1 1) 1 _ _ _ (expr_operator.tell_eq ((l1.length : Int) == 2) (expr_operator.every l1 1) 1)).mono ?_); rintro e w' ⟨rfl, ⟨nd, rfl⟩⟩))
  go_ret2
  exact ⟨rfl, by repeat (first | exact Drawn0.refl _ | apply Drawn0.step)⟩
set_option maxHeartbeats 4000000 in
set_option maxRecDepth 100000 in
theorem expr_operator.case4 (A1 : Option Addr) (c1 : Nat) (a0 : ByteArray) (l1 : List Int) (w : World) (hr1 : Kd.C (Kd.int .i64) w A1 l1.length l1) (hc1 : l1.length ≤ c1) (he : a0.toList = ([43] : List UInt8) ∨ a0.toList = ([45] : List UInt8) ∨ a0.toList = ([42] : List UInt8) ∨ a0.toList = ([47] : List UInt8) ∨ a0.toList = ([37] : List UInt8)) :
  Calls Try.prog 34 #[.string a0, .slice A1 l1.length c1] w fun e w' => e = .returned (.tuple #[.int .i64 (expr_operator.tell ((l1.length : Int) == 2) (expr_operator.every l1 2) 2).1, .int .i64 (expr_operator.tell ((l1.length : Int) == 2) (expr_operator.every l1 2) 2).2]) ∧ Drawn0 w w' := by
 have HL := aM hr1.2.1
 have HR := aM hr1
 have HC := aM hc1
 clear hr1 hc1
 rcases he with he | he | he | he | he
 all_goals
  first | (have e0 : (a0.toList == ([73, 83, 78, 85, 76, 76] : List UInt8)) = false := by rw [he]; decide) | (have e0 : (a0.toList == ([73, 83, 78, 85, 76, 76] : List UInt8)) = true := by rw [he]; decide)
  first | (have e1 : (a0.toList == ([78, 79, 84, 78, 85, 76, 76] : List UInt8)) = false := by rw [he]; decide) | (have e1 : (a0.toList == ([78, 79, 84, 78, 85, 76, 76] : List UInt8)) = true := by rw [he]; decide)
  first | (have e2 : (a0.toList == ([78, 79, 84] : List UInt8)) = false := by rw [he]; decide) | (have e2 : (a0.toList == ([78, 79, 84] : List UInt8)) = true := by rw [he]; decide)
  first | (have e3 : (a0.toList == ([78, 69, 71] : List UInt8)) = false := by rw [he]; decide) | (have e3 : (a0.toList == ([78, 69, 71] : List UInt8)) = true := by rw [he]; decide)
  first | (have e4 : (a0.toList == ([79, 82] : List UInt8)) = false := by rw [he]; decide) | (have e4 : (a0.toList == ([79, 82] : List UInt8)) = true := by rw [he]; decide)
  first | (have e5 : (a0.toList == ([65, 78, 68] : List UInt8)) = false := by rw [he]; decide) | (have e5 : (a0.toList == ([65, 78, 68] : List UInt8)) = true := by rw [he]; decide)
  first | (have e6 : (a0.toList == ([43] : List UInt8)) = false := by rw [he]; decide) | (have e6 : (a0.toList == ([43] : List UInt8)) = true := by rw [he]; decide)
  first | (have e7 : (a0.toList == ([45] : List UInt8)) = false := by rw [he]; decide) | (have e7 : (a0.toList == ([45] : List UInt8)) = true := by rw [he]; decide)
  first | (have e8 : (a0.toList == ([42] : List UInt8)) = false := by rw [he]; decide) | (have e8 : (a0.toList == ([42] : List UInt8)) = true := by rw [he]; decide)
  first | (have e9 : (a0.toList == ([47] : List UInt8)) = false := by rw [he]; decide) | (have e9 : (a0.toList == ([47] : List UInt8)) = true := by rw [he]; decide)
  first | (have e10 : (a0.toList == ([37] : List UInt8)) = false := by rw [he]; decide) | (have e10 : (a0.toList == ([37] : List UInt8)) = true := by rw [he]; decide)
  first | (have e11 : (a0.toList == ([61] : List UInt8)) = false := by rw [he]; decide) | (have e11 : (a0.toList == ([61] : List UInt8)) = true := by rw [he]; decide)
  first | (have e12 : (a0.toList == ([60, 62] : List UInt8)) = false := by rw [he]; decide) | (have e12 : (a0.toList == ([60, 62] : List UInt8)) = true := by rw [he]; decide)
  first | (have e13 : (a0.toList == ([60] : List UInt8)) = false := by rw [he]; decide) | (have e13 : (a0.toList == ([60] : List UInt8)) = true := by rw [he]; decide)
  first | (have e14 : (a0.toList == ([60, 61] : List UInt8)) = false := by rw [he]; decide) | (have e14 : (a0.toList == ([60, 61] : List UInt8)) = true := by rw [he]; decide)
  first | (have e15 : (a0.toList == ([62] : List UInt8)) = false := by rw [he]; decide) | (have e15 : (a0.toList == ([62] : List UInt8)) = true := by rw [he]; decide)
  first | (have e16 : (a0.toList == ([62, 61] : List UInt8)) = false := by rw [he]; decide) | (have e16 : (a0.toList == ([62, 61] : List UInt8)) = true := by rw [he]; decide)
  clear he
  go_enter Try.func34, Try.ntmps34
  go_wp2_with (first | (go_at_call 48; (with_reducible refine (expr_all.calls (l1.length + 1) _ _ l1 2 _ _ (Kd.C_below HR.out (by repeat (first | exact Below.refl _ _ | apply pw_below_drewN))) HC.out (expr_operator.every_eq l1 2 HL.out)).mono ?_); rintro e w' ⟨rfl, ⟨nd, rfl⟩⟩) | (go_at_call 47; (with_reducible refine (expr_told.calls ((l1.length : Int) == 2) (expr_operator.every l1 2) 2 _ _ _ (expr_operator.tell_eq ((l1.length : Int) == 2) (expr_operator.every l1 2) 2)).mono ?_); rintro e w' ⟨rfl, ⟨nd, rfl⟩⟩))
  go_ret2
  exact ⟨rfl, by repeat (first | exact Drawn0.refl _ | apply Drawn0.step)⟩
set_option maxHeartbeats 4000000 in
set_option maxRecDepth 100000 in
theorem expr_operator.case5 (A1 : Option Addr) (c1 : Nat) (a0 : ByteArray) (l1 : List Int) (w : World) (hr1 : Kd.C (Kd.int .i64) w A1 l1.length l1) (hc1 : l1.length ≤ c1) (he : a0.toList = ([61] : List UInt8) ∨ a0.toList = ([60, 62] : List UInt8) ∨ a0.toList = ([60] : List UInt8) ∨ a0.toList = ([60, 61] : List UInt8) ∨ a0.toList = ([62] : List UInt8) ∨ a0.toList = ([62, 61] : List UInt8)) :
  Calls Try.prog 34 #[.string a0, .slice A1 l1.length c1] w fun e w' => e = .returned (.tuple #[.int .i64 (expr_operator.tell ((l1.length : Int) == 2) (((l1.length : Int) == 2) && expr_operator.same l1) 1).1, .int .i64 (expr_operator.tell ((l1.length : Int) == 2) (((l1.length : Int) == 2) && expr_operator.same l1) 1).2]) ∧ Drawn0 w w' := by
 have HL := aM hr1.2.1
 have HR := aM hr1
 have HC := aM hc1
 rcases he with he | he | he | he | he | he
 all_goals
  first | (have e0 : (a0.toList == ([73, 83, 78, 85, 76, 76] : List UInt8)) = false := by rw [he]; decide) | (have e0 : (a0.toList == ([73, 83, 78, 85, 76, 76] : List UInt8)) = true := by rw [he]; decide)
  first | (have e1 : (a0.toList == ([78, 79, 84, 78, 85, 76, 76] : List UInt8)) = false := by rw [he]; decide) | (have e1 : (a0.toList == ([78, 79, 84, 78, 85, 76, 76] : List UInt8)) = true := by rw [he]; decide)
  first | (have e2 : (a0.toList == ([78, 79, 84] : List UInt8)) = false := by rw [he]; decide) | (have e2 : (a0.toList == ([78, 79, 84] : List UInt8)) = true := by rw [he]; decide)
  first | (have e3 : (a0.toList == ([78, 69, 71] : List UInt8)) = false := by rw [he]; decide) | (have e3 : (a0.toList == ([78, 69, 71] : List UInt8)) = true := by rw [he]; decide)
  first | (have e4 : (a0.toList == ([79, 82] : List UInt8)) = false := by rw [he]; decide) | (have e4 : (a0.toList == ([79, 82] : List UInt8)) = true := by rw [he]; decide)
  first | (have e5 : (a0.toList == ([65, 78, 68] : List UInt8)) = false := by rw [he]; decide) | (have e5 : (a0.toList == ([65, 78, 68] : List UInt8)) = true := by rw [he]; decide)
  first | (have e6 : (a0.toList == ([43] : List UInt8)) = false := by rw [he]; decide) | (have e6 : (a0.toList == ([43] : List UInt8)) = true := by rw [he]; decide)
  first | (have e7 : (a0.toList == ([45] : List UInt8)) = false := by rw [he]; decide) | (have e7 : (a0.toList == ([45] : List UInt8)) = true := by rw [he]; decide)
  first | (have e8 : (a0.toList == ([42] : List UInt8)) = false := by rw [he]; decide) | (have e8 : (a0.toList == ([42] : List UInt8)) = true := by rw [he]; decide)
  first | (have e9 : (a0.toList == ([47] : List UInt8)) = false := by rw [he]; decide) | (have e9 : (a0.toList == ([47] : List UInt8)) = true := by rw [he]; decide)
  first | (have e10 : (a0.toList == ([37] : List UInt8)) = false := by rw [he]; decide) | (have e10 : (a0.toList == ([37] : List UInt8)) = true := by rw [he]; decide)
  first | (have e11 : (a0.toList == ([61] : List UInt8)) = false := by rw [he]; decide) | (have e11 : (a0.toList == ([61] : List UInt8)) = true := by rw [he]; decide)
  first | (have e12 : (a0.toList == ([60, 62] : List UInt8)) = false := by rw [he]; decide) | (have e12 : (a0.toList == ([60, 62] : List UInt8)) = true := by rw [he]; decide)
  first | (have e13 : (a0.toList == ([60] : List UInt8)) = false := by rw [he]; decide) | (have e13 : (a0.toList == ([60] : List UInt8)) = true := by rw [he]; decide)
  first | (have e14 : (a0.toList == ([60, 61] : List UInt8)) = false := by rw [he]; decide) | (have e14 : (a0.toList == ([60, 61] : List UInt8)) = true := by rw [he]; decide)
  first | (have e15 : (a0.toList == ([62] : List UInt8)) = false := by rw [he]; decide) | (have e15 : (a0.toList == ([62] : List UInt8)) = true := by rw [he]; decide)
  first | (have e16 : (a0.toList == ([62, 61] : List UInt8)) = false := by rw [he]; decide) | (have e16 : (a0.toList == ([62, 61] : List UInt8)) = true := by rw [he]; decide)
  clear he
  by_cases h2 : l1.length = 2
  ·have t2 : ((l1.length : Int) == 2) = true := beq_iff_eq.mpr (by omega)
   have p0 : (0 : Int) < (l1.length : Int) := by omega
   have p1 : (1 : Int) < (l1.length : Int) := by omega
   obtain ⟨ad, e_, hx0⟩ := Kd.at_int hr1 0 (by omega) p0
   cases e_
   obtain ⟨ad_, e_, hx1⟩ := Kd.at_int hr1 1 (by omega) p1
   cases e_
   rw [t2, Bool.true_and]
   clear hr1 hc1
   have hy0 : w.cell? (ad.add 0) = some (.int .i64 (rd l1 0)) := hx0
   have hy1 : w.cell? ⟨ad.block, ad.off + 1, none⟩ = some (.int .i64 (rd l1 1)) := hx1
   have hz0 : w.cell? ad = some (.int .i64 (rd l1 0)) := by simpa [Addr.add] using hx0
   clear hx0 hx1
   have m0 : 0 < l1.length := by omega
   have m1 : 1 < l1.length := by omega
   have n0 : decide (0 < l1.length) = true := decide_eq_true (by omega)
   have n1 : decide (1 < l1.length) = true := decide_eq_true (by omega)
   have q0 : decide ((0 : Int) < (l1.length : Int)) = true := decide_eq_true p0
   have q1 : decide ((1 : Int) < (l1.length : Int)) = true := decide_eq_true p1
   clear h2
   replace p0 := eq_true p0
   replace p1 := eq_true p1
   by_cases h01 : rd l1 0 = rd l1 1
   ·have hs : expr_operator.same l1 = true := by unfold expr_operator.same; simp [h01]
    have b01 : (rd l1 0 == rd l1 1) = true := beq_iff_eq.mpr h01
    rw [hs]
    clear h01 hs
    go_enter Try.func34, Try.ntmps34
    go_wp2
    repeat (go_quiet (first | (go_at_call 47; (with_reducible refine (expr_told.calls true true 1 _ _ _ (expr_operator.tell_eq true true 1)).mono ?_); rintro e w' ⟨rfl, ⟨nd, rfl⟩⟩; (try first | exact ⟨rfl, _, World.drewN_drewN _ _ _⟩ | exact ⟨rfl, _, Eq.trans (World.drewN_drewN _ _ _) (congrArg (World.drewN _) (Nat.add_assoc _ _ _))⟩))); try go_wp2)
    go_ret2
    exact ⟨rfl, by repeat (first | exact Drawn0.refl _ | apply Drawn0.step)⟩
   ·have b01 : (rd l1 0 == rd l1 1) = false := beq_eq_false_iff_ne.mpr h01
    by_cases h0 : rd l1 0 = 0
    ·have hs : expr_operator.same l1 = true := by unfold expr_operator.same; simp [h0]
     have b0 : (rd l1 0 == 0) = true := beq_iff_eq.mpr h0
     rw [hs]
     clear h01 h0 hs
     go_enter Try.func34, Try.ntmps34
     go_wp2
     repeat (go_quiet (first | (go_at_call 47; (with_reducible refine (expr_told.calls true true 1 _ _ _ (expr_operator.tell_eq true true 1)).mono ?_); rintro e w' ⟨rfl, ⟨nd, rfl⟩⟩; (try first | exact ⟨rfl, _, World.drewN_drewN _ _ _⟩ | exact ⟨rfl, _, Eq.trans (World.drewN_drewN _ _ _) (congrArg (World.drewN _) (Nat.add_assoc _ _ _))⟩))); try go_wp2)
     go_ret2
     exact ⟨rfl, by repeat (first | exact Drawn0.refl _ | apply Drawn0.step)⟩
    ·have b0 : (rd l1 0 == 0) = false := beq_eq_false_iff_ne.mpr h0
     by_cases h1 : rd l1 1 = 0
     ·have hs : expr_operator.same l1 = true := by unfold expr_operator.same; simp [h1]
      have b1 : (rd l1 1 == 0) = true := beq_iff_eq.mpr h1
      rw [hs]
      clear h01 h0 h1 hs
      go_enter Try.func34, Try.ntmps34
      go_wp2
      repeat (go_quiet (first | (go_at_call 47; (with_reducible refine (expr_told.calls true true 1 _ _ _ (expr_operator.tell_eq true true 1)).mono ?_); rintro e w' ⟨rfl, ⟨nd, rfl⟩⟩; (try first | exact ⟨rfl, _, World.drewN_drewN _ _ _⟩ | exact ⟨rfl, _, Eq.trans (World.drewN_drewN _ _ _) (congrArg (World.drewN _) (Nat.add_assoc _ _ _))⟩))); try go_wp2)
      go_ret2
      exact ⟨rfl, by repeat (first | exact Drawn0.refl _ | apply Drawn0.step)⟩
     ·have b1 : (rd l1 1 == 0) = false := beq_eq_false_iff_ne.mpr h1
      have hs : expr_operator.same l1 = false := by unfold expr_operator.same; simp [h01, h0, h1]
      rw [hs]
      clear h01 h0 h1 hs
      go_enter Try.func34, Try.ntmps34
      go_wp2
      repeat (go_quiet (first | (go_at_call 47; (with_reducible refine (expr_told.calls true false 1 _ _ _ (expr_operator.tell_eq true false 1)).mono ?_); rintro e w' ⟨rfl, ⟨nd, rfl⟩⟩; (try first | exact ⟨rfl, _, World.drewN_drewN _ _ _⟩ | exact ⟨rfl, _, Eq.trans (World.drewN_drewN _ _ _) (congrArg (World.drewN _) (Nat.add_assoc _ _ _))⟩))); try go_wp2)
      go_ret2
      exact ⟨rfl, by repeat (first | exact Drawn0.refl _ | apply Drawn0.step)⟩
  ·have t2 : ((l1.length : Int) == 2) = false := beq_eq_false_iff_ne.mpr (by omega)
   rw [t2, Bool.false_and]
   clear hr1 hc1 h2
   go_enter Try.func34, Try.ntmps34
   go_wp2
   repeat (go_quiet (first | (go_at_call 47; (with_reducible refine (expr_told.calls false false 1 _ _ _ (expr_operator.tell_eq false false 1)).mono ?_); rintro e w' ⟨rfl, ⟨nd, rfl⟩⟩; (try first | exact ⟨rfl, _, World.drewN_drewN _ _ _⟩ | exact ⟨rfl, _, Eq.trans (World.drewN_drewN _ _ _) (congrArg (World.drewN _) (Nat.add_assoc _ _ _))⟩))); try go_wp2)
   go_ret2
   exact ⟨rfl, by repeat (first | exact Drawn0.refl _ | apply Drawn0.step)⟩
set_option maxHeartbeats 4000000 in
set_option maxRecDepth 100000 in
theorem expr_operator.rest (A1 : Option Addr) (c1 : Nat) (a0 : ByteArray) (l1 : List Int) (w : World) (hr1 : Kd.C (Kd.int .i64) w A1 l1.length l1) (hc1 : l1.length ≤ c1) (h0 : a0.toList ≠ ([73, 83, 78, 85, 76, 76] : List UInt8)) (h1 : a0.toList ≠ ([78, 79, 84, 78, 85, 76, 76] : List UInt8)) (h2 : a0.toList ≠ ([78, 79, 84] : List UInt8)) (h3 : a0.toList ≠ ([78, 69, 71] : List UInt8)) (h4 : a0.toList ≠ ([79, 82] : List UInt8)) (h5 : a0.toList ≠ ([65, 78, 68] : List UInt8)) (h6 : a0.toList ≠ ([43] : List UInt8)) (h7 : a0.toList ≠ ([45] : List UInt8)) (h8 : a0.toList ≠ ([42] : List UInt8)) (h9 : a0.toList ≠ ([47] : List UInt8)) (h10 : a0.toList ≠ ([37] : List UInt8)) (h11 : a0.toList ≠ ([61] : List UInt8)) (h12 : a0.toList ≠ ([60, 62] : List UInt8)) (h13 : a0.toList ≠ ([60] : List UInt8)) (h14 : a0.toList ≠ ([60, 61] : List UInt8)) (h15 : a0.toList ≠ ([62] : List UInt8)) (h16 : a0.toList ≠ ([62, 61] : List UInt8)) :
  Calls Try.prog 34 #[.string a0, .slice A1 l1.length c1] w fun e w' => e = .returned (.tuple #[.int .i64 (((0, 9) : Int × Int)).1, .int .i64 (((0, 9) : Int × Int)).2]) ∧ Drawn0 w w' := by
 clear hr1 hc1
 have e0 : (a0.toList == ([73, 83, 78, 85, 76, 76] : List UInt8)) = false := beq_eq_false_iff_ne.mpr h0
 have e1 : (a0.toList == ([78, 79, 84, 78, 85, 76, 76] : List UInt8)) = false := beq_eq_false_iff_ne.mpr h1
 have e2 : (a0.toList == ([78, 79, 84] : List UInt8)) = false := beq_eq_false_iff_ne.mpr h2
 have e3 : (a0.toList == ([78, 69, 71] : List UInt8)) = false := beq_eq_false_iff_ne.mpr h3
 have e4 : (a0.toList == ([79, 82] : List UInt8)) = false := beq_eq_false_iff_ne.mpr h4
 have e5 : (a0.toList == ([65, 78, 68] : List UInt8)) = false := beq_eq_false_iff_ne.mpr h5
 have e6 : (a0.toList == ([43] : List UInt8)) = false := beq_eq_false_iff_ne.mpr h6
 have e7 : (a0.toList == ([45] : List UInt8)) = false := beq_eq_false_iff_ne.mpr h7
 have e8 : (a0.toList == ([42] : List UInt8)) = false := beq_eq_false_iff_ne.mpr h8
 have e9 : (a0.toList == ([47] : List UInt8)) = false := beq_eq_false_iff_ne.mpr h9
 have e10 : (a0.toList == ([37] : List UInt8)) = false := beq_eq_false_iff_ne.mpr h10
 have e11 : (a0.toList == ([61] : List UInt8)) = false := beq_eq_false_iff_ne.mpr h11
 have e12 : (a0.toList == ([60, 62] : List UInt8)) = false := beq_eq_false_iff_ne.mpr h12
 have e13 : (a0.toList == ([60] : List UInt8)) = false := beq_eq_false_iff_ne.mpr h13
 have e14 : (a0.toList == ([60, 61] : List UInt8)) = false := beq_eq_false_iff_ne.mpr h14
 have e15 : (a0.toList == ([62] : List UInt8)) = false := beq_eq_false_iff_ne.mpr h15
 have e16 : (a0.toList == ([62, 61] : List UInt8)) = false := beq_eq_false_iff_ne.mpr h16
 clear h0 h1 h2 h3 h4 h5 h6 h7 h8 h9 h10 h11 h12 h13 h14 h15 h16
 go_enter Try.func34, Try.ntmps34
 go_wp2
 go_ret2
 exact ⟨rfl, Drawn0.refl _⟩
set_option maxRecDepth 100000 in
theorem expr_operator.calls (a0 : ByteArray) (A1 : Option Addr) (c1 : Nat) (l1 : List Int) (r1 : Int) (r2 : Int) (w : World) (hr1 : Kd.C (Kd.int .i64) w A1 l1.length l1) (hc1 : l1.length ≤ c1) (h : expr_operator.f a0 l1 = some (r1, r2)) :
  Calls Try.prog 34 #[.string a0, .slice A1 l1.length c1] w fun e w' => e = .returned (.tuple #[.int .i64 r1, .int .i64 r2]) ∧ Drawn0 w w' := by
 have hk : expr_operator.kind a0.toList l1 = (r1, r2) := Option.some.inj h
 have e1 : r1 = (expr_operator.kind a0.toList l1).1 := by rw [hk]
 have e2 : r2 = (expr_operator.kind a0.toList l1).2 := by rw [hk]
 subst e1 e2
 clear hk h
 by_cases h0 : a0.toList = ([73, 83, 78, 85, 76, 76] : List UInt8)
 ·have hk : expr_operator.kind a0.toList l1 = expr_operator.tell ((l1.length : Int) == 1) true 1 := by rw [h0]; rfl
  rw [hk]
  exact expr_operator.case0 _ _ a0 l1 w hr1 hc1 (.inl h0)
 by_cases h1 : a0.toList = ([78, 79, 84, 78, 85, 76, 76] : List UInt8)
 ·have hk : expr_operator.kind a0.toList l1 = expr_operator.tell ((l1.length : Int) == 1) true 1 := by rw [h1]; rfl
  rw [hk]
  exact expr_operator.case0 _ _ a0 l1 w hr1 hc1 (.inr h1)
 by_cases h2 : a0.toList = ([78, 79, 84] : List UInt8)
 ·have hk : expr_operator.kind a0.toList l1 = expr_operator.tell ((l1.length : Int) == 1) (expr_operator.every l1 1) 1 := by rw [h2]; rfl
  rw [hk]
  exact expr_operator.case1 _ _ a0 l1 w hr1 hc1 h2
 by_cases h3 : a0.toList = ([78, 69, 71] : List UInt8)
 ·have hk : expr_operator.kind a0.toList l1 = expr_operator.tell ((l1.length : Int) == 1) (expr_operator.every l1 2) 2 := by rw [h3]; rfl
  rw [hk]
  exact expr_operator.case2 _ _ a0 l1 w hr1 hc1 h3
 by_cases h4 : a0.toList = ([79, 82] : List UInt8)
 ·have hk : expr_operator.kind a0.toList l1 = expr_operator.tell ((l1.length : Int) == 2) (expr_operator.every l1 1) 1 := by rw [h4]; rfl
  rw [hk]
  exact expr_operator.case3 _ _ a0 l1 w hr1 hc1 (.inl h4)
 by_cases h5 : a0.toList = ([65, 78, 68] : List UInt8)
 ·have hk : expr_operator.kind a0.toList l1 = expr_operator.tell ((l1.length : Int) == 2) (expr_operator.every l1 1) 1 := by rw [h5]; rfl
  rw [hk]
  exact expr_operator.case3 _ _ a0 l1 w hr1 hc1 (.inr h5)
 by_cases h6 : a0.toList = ([43] : List UInt8)
 ·have hk : expr_operator.kind a0.toList l1 = expr_operator.tell ((l1.length : Int) == 2) (expr_operator.every l1 2) 2 := by rw [h6]; rfl
  rw [hk]
  exact expr_operator.case4 _ _ a0 l1 w hr1 hc1 (.inl h6)
 by_cases h7 : a0.toList = ([45] : List UInt8)
 ·have hk : expr_operator.kind a0.toList l1 = expr_operator.tell ((l1.length : Int) == 2) (expr_operator.every l1 2) 2 := by rw [h7]; rfl
  rw [hk]
  exact expr_operator.case4 _ _ a0 l1 w hr1 hc1 (.inr (.inl h7))
 by_cases h8 : a0.toList = ([42] : List UInt8)
 ·have hk : expr_operator.kind a0.toList l1 = expr_operator.tell ((l1.length : Int) == 2) (expr_operator.every l1 2) 2 := by rw [h8]; rfl
  rw [hk]
  exact expr_operator.case4 _ _ a0 l1 w hr1 hc1 (.inr (.inr (.inl h8)))
 by_cases h9 : a0.toList = ([47] : List UInt8)
 ·have hk : expr_operator.kind a0.toList l1 = expr_operator.tell ((l1.length : Int) == 2) (expr_operator.every l1 2) 2 := by rw [h9]; rfl
  rw [hk]
  exact expr_operator.case4 _ _ a0 l1 w hr1 hc1 (.inr (.inr (.inr (.inl h9))))
 by_cases h10 : a0.toList = ([37] : List UInt8)
 ·have hk : expr_operator.kind a0.toList l1 = expr_operator.tell ((l1.length : Int) == 2) (expr_operator.every l1 2) 2 := by rw [h10]; rfl
  rw [hk]
  exact expr_operator.case4 _ _ a0 l1 w hr1 hc1 (.inr (.inr (.inr (.inr h10))))
 by_cases h11 : a0.toList = ([61] : List UInt8)
 ·have hk : expr_operator.kind a0.toList l1 = expr_operator.tell ((l1.length : Int) == 2) (((l1.length : Int) == 2) && expr_operator.same l1) 1 := by rw [h11]; rfl
  rw [hk]
  exact expr_operator.case5 _ _ a0 l1 w hr1 hc1 (.inl h11)
 by_cases h12 : a0.toList = ([60, 62] : List UInt8)
 ·have hk : expr_operator.kind a0.toList l1 = expr_operator.tell ((l1.length : Int) == 2) (((l1.length : Int) == 2) && expr_operator.same l1) 1 := by rw [h12]; rfl
  rw [hk]
  exact expr_operator.case5 _ _ a0 l1 w hr1 hc1 (.inr (.inl h12))
 by_cases h13 : a0.toList = ([60] : List UInt8)
 ·have hk : expr_operator.kind a0.toList l1 = expr_operator.tell ((l1.length : Int) == 2) (((l1.length : Int) == 2) && expr_operator.same l1) 1 := by rw [h13]; rfl
  rw [hk]
  exact expr_operator.case5 _ _ a0 l1 w hr1 hc1 (.inr (.inr (.inl h13)))
 by_cases h14 : a0.toList = ([60, 61] : List UInt8)
 ·have hk : expr_operator.kind a0.toList l1 = expr_operator.tell ((l1.length : Int) == 2) (((l1.length : Int) == 2) && expr_operator.same l1) 1 := by rw [h14]; rfl
  rw [hk]
  exact expr_operator.case5 _ _ a0 l1 w hr1 hc1 (.inr (.inr (.inr (.inl h14))))
 by_cases h15 : a0.toList = ([62] : List UInt8)
 ·have hk : expr_operator.kind a0.toList l1 = expr_operator.tell ((l1.length : Int) == 2) (((l1.length : Int) == 2) && expr_operator.same l1) 1 := by rw [h15]; rfl
  rw [hk]
  exact expr_operator.case5 _ _ a0 l1 w hr1 hc1 (.inr (.inr (.inr (.inr (.inl h15)))))
 by_cases h16 : a0.toList = ([62, 61] : List UInt8)
 ·have hk : expr_operator.kind a0.toList l1 = expr_operator.tell ((l1.length : Int) == 2) (((l1.length : Int) == 2) && expr_operator.same l1) 1 := by rw [h16]; rfl
  rw [hk]
  exact expr_operator.case5 _ _ a0 l1 w hr1 hc1 (.inr (.inr (.inr (.inr (.inr h16)))))
 have hk : expr_operator.kind a0.toList l1 = (0, 9) := by simp only [expr_operator.kind, h0, h1, h2, h3, h4, h5, h6, h7, h8, h9, h10, h11, h12, h13, h14, h15, h16, or_self, if_false]
 rw [hk]
 exact expr_operator.rest _ _ a0 l1 w hr1 hc1 h0 h1 h2 h3 h4 h5 h6 h7 h8 h9 h10 h11 h12 h13 h14 h15 h16

end Go.Proofs.Ytpmecpmankpcbaa.PK
