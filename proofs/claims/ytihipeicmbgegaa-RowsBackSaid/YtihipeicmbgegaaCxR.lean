/- How the seat's functions are read. No conditions. -/
import Derived.Test.YtihipeicmbgegaaRJa
import Derived.Test.YtihipeicmbgegaaTab
namespace Go.Proofs.Ytihipeicmbgegaa.Rf
open Go Go.Proofs
/-- Which result of a function is a row of its own. -/
def ownL : List (Nat × Nat) := [(17, 0), (19, 0), (31, 0), (32, 0), (39, 0), (40, 0), (41, 0), (42, 0), (47, 0), (49, 0), (51, 0), (55, 0), (58, 0), (59, 0), (61, 0), (63, 0), (79, 0)]
def own : FuncId → Option Nat := fun f => look ownL f
/-- Numbers, rising, each once. -/
def insI (x : Int) : List Int → List Int
  | [] => [x]
  | y :: l => if x < y then x :: y :: l else if x = y then y :: l else y :: insI x l
def srtI : List Int → List Int
  | [] => []
  | x :: l => insI x (srtI l)
def regF : List A → Option R
  | [.val s] => cnd (Nat.ble (s.fld 0).toList.length 4096) (some (.sl ((srtI ((s.fld 0).toList.map G.toInt)).map fun x => .int .i64 x), [])) none
  | _ => none
def ext : FuncId → Option (List A → Option R) := fun f => cnd (Nat.beq f 47) (some regF) none
noncomputable def C (n : Nat) (f : FuncId) (xs : List A) : Option R := run Try.prog tab own ext n f xs
end Go.Proofs.Ytihipeicmbgegaa.Rf
