/- Expressions as plain functions over trees: their kinds, their values, how great they are; nothing of a program. No conditions. -/
import Derived.Test.YtpmecpmankpcbaaPKx0
import Derived.Test.YtpmecpmankpcbaaPKw
namespace Go.Proofs.Ytpmecpmankpcbaa.EK
open Go.RowKit Go.Proofs.YtpmecpmankpcbaaW.PrintWords Go.Proofs.YtpmecpmankpcbaaW.PrintLast Go.Proofs.Ytpmecpmankpcbaa.PK
set_option linter.unusedVariables false
set_option linter.unusedSimpArgs false

/-! ## values -/
def null : S23 := ⟨0, 0, ⟨#[]⟩⟩
def truth (b : Bool) : S23 := ⟨1, if b then 1 else 0, ⟨#[]⟩⟩
def may (v : S23) : Bool := if v.f0 = 0 then decide (v.f1 = 0) && v.f2.toList == [] else if v.f0 = 1 then (decide (v.f1 = 0) || decide (v.f1 = 1)) && v.f2.toList == [] else if v.f0 = 2 then v.f2.toList == [] else if v.f0 = 3 then decide (v.f1 = 0) && decide ((v.f2.size : Int) ≤ 64) else false
def col (cols : List S57) (s : ByteArray) : Int := match cols.findIdx? (fun c => c.f0.toList == s.toList) with
  | some i => (i : Int)
  | none => -1
def isNull (v : S23) : Bool := v.f0 == 0

/-! ## sums -/
def fits (n : Int) : Bool := decide (-9223372036854775808 ≤ n) && decide (n ≤ 9223372036854775807)
def add (a b : Int) : Int × Int := if fits (a + b) then (a + b, 0) else (0, 5)
def sub (a b : Int) : Int × Int := if fits (a - b) then (a - b, 0) else (0, 5)
def mul (a b : Int) : Int × Int := if fits (a * b) then (a * b, 0) else (0, 5)
def number (x : Int × Int) : S23 × Int := if x.2 = 0 then (⟨2, x.1, ⟨#[]⟩⟩, 0) else (null, x.2)
/-- '+', '-', '*', '/', '%' (whatever else: as '/'). -/
def reckon (s : List UInt8) (a b : Int) : Int × Int := if s = [43] then add a b else if s = [45] then sub a b else if s = [42] then mul a b else if b = 0 then (0, 17) else if s = [37] then (Int.tmod a b, 0) else if b = -1 then sub 0 a else (Int.tdiv a b, 0)
def holds (s : List UInt8) (c : Int) : Bool := if s = [61] then c == 0 else if s = [60, 62] then c != 0 else if s = [60] then decide (c < 0) else if s = [60, 61] then decide (c ≤ 0) else if s = [62] then decide (c > 0) else decide (c ≥ 0)
def cmpInt (a b : Int) : Int := if a < b then -1 else if a > b then 1 else 0
def compare (a b : S23) : Int := if cmpInt a.f0 b.f0 ≠ 0 then cmpInt a.f0 b.f0 else if cmpInt a.f1 b.f1 ≠ 0 then cmpInt a.f1 b.f1 else Lib.compareBytes a.f2.data.toList b.f2.data.toList
def both (l : List S23) (wins : Int) : S23 := match l.find? (fun v => !(isNull v) && v.f1 == wins) with
  | some v => v
  | none => if l.any isNull then null else truth (wins == 0)
/-- What an operator makes of values. -/
def does (s : List UInt8) (l : List S23) : S23 × Int :=
  if s = [73, 83, 78, 85, 76, 76] then (truth (isNull (rd_T23 l 0)), 0)
  else if s = [78, 79, 84, 78, 85, 76, 76] then (truth (!(isNull (rd_T23 l 0))), 0)
  else if s = [65, 78, 68] then (both l 0, 0)
  else if s = [79, 82] then (both l 1, 0)
  else if l.any isNull then (null, 0)
  else if s = [78, 79, 84] then (truth (!((rd_T23 l 0).f0 == 1 && ((rd_T23 l 0).f1 == 1 && (rd_T23 l 0).f2.toList == []))), 0)
  else if s = [78, 69, 71] then number (sub 0 (rd_T23 l 0).f1)
  else if s = [61] ∨ s = [60, 62] ∨ s = [60] ∨ s = [60, 61] ∨ s = [62] ∨ s = [62, 61] then (truth (holds s (compare (rd_T23 l 0) (rd_T23 l 1))), 0)
  else number (reckon s (rd_T23 l 0).f1 (rd_T23 l 1).f1)

/-! ## kinds of operators -/
def tell (many such : Bool) (k : Int) : Int × Int := if many = true then (if such = true then (k, 0) else (0, 15)) else (0, 9)
def every (l : List Int) (k : Int) : Bool := l.all (fun x => x == k || x == 0)
def same (l : List Int) : Bool := (rd l 0 == rd l 1) || (rd l 0 == 0) || (rd l 1 == 0)

/-! ## expressions -/
section
variable (opk : List UInt8 → List Int → Int × Int) (cols : List S57) (row : List S23)
mutual
def kind : S26 → Int × Int
  | ⟨k, s, v, args⟩ =>
    if k = 1 then (if s.toList = [] then (if (args.length : Int) > 0 then (0, 9) else if may v then (v.f0, 0) else (0, 9)) else (0, 9))
    else if k = 2 then (if col cols s < 0 then (0, 14) else if (args.length : Int) > 0 then (0, 9) else if (!(v.f0 == 0) || (!(v.f1 == 0) || (!(v.f2.toList == ([] : List UInt8))))) = true then (0, 9) else ((rd_T57 cols (col cols s)).f1, 0))
    else if k = 3 then (if (kinds args).2 = 0 then (if (!(v.f0 == 0) || (!(v.f1 == 0) || (!(v.f2.toList == ([] : List UInt8))))) = true then (0, 9) else opk s.toList (kinds args).1) else (0, (kinds args).2))
    else (0, 9)
def kinds : List S26 → List Int × Int
  | [] => ([], 0)
  | a :: l => if (kind a).2 = 0 then (if (kinds l).2 = 0 then ((kind a).1 :: (kinds l).1, 0) else ([], (kinds l).2)) else ([], (kind a).2)
end
mutual
def value : S26 → S23 × Int
  | ⟨k, s, v, args⟩ =>
    if k = 1 then (v, 0)
    else if k = 2 then (rd_T23 row (col cols s), 0)
    else if (values args).2 = 0 then does s.toList (values args).1 else (null, (values args).2)
def values : List S26 → List S23 × Int
  | [] => ([], 0)
  | a :: l => if (value a).2 = 0 then (if (values l).2 = 0 then ((value a).1 :: (values l).1, 0) else ([], (values l).2)) else ([], (value a).2)
end
end
mutual
def parts : S26 → Nat
  | ⟨_, _, _, args⟩ => 1 + partsL args
def partsL : List S26 → Nat
  | [] => 0
  | a :: l => parts a + partsL l
end
mutual
/-- Is it not too great? How many parts have been counted. -/
def small : S26 → Int → Int → Bool × Int
  | ⟨_, _, _, args⟩, d, p => if d > 64 then (false, p + 1) else if p + 1 > 4096 then (false, p + 1) else smallL args d (p + 1)
def smallL : List S26 → Int → Int → Bool × Int
  | [], _, p => (true, p)
  | a :: l, d, p => if (small a (d + 1) p).1 = true then smallL l d (small a (d + 1) p).2 else (false, (small a (d + 1) p).2)
end
mutual
def light : S26 → Int → Int
  | ⟨_, s, v, args⟩, left => if left ≤ 0 ∨ (s.size : Int) > 100 ∨ (v.f2.size : Int) > 200 then 0 else lightL args (left - 1)
def lightL : List S26 → Int → Int
  | [], left => left
  | a :: l, left => if left > 0 then lightL l (light a left) else left
end
end Go.Proofs.Ytpmecpmankpcbaa.EK
