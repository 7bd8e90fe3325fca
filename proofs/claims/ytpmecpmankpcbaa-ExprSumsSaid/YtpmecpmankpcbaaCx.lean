/- How the seat's functions are read. No conditions. -/
import Derived.Test.YtpmecpmankpcbaaRJa
import Derived.Test.YtpmecpmankpcbaaTab
import Derived.Lib.Bytealg
namespace Go.Proofs.Ytpmecpmankpcbaa.Rf
open Go Go.Proofs
def own : FuncId → Option Nat := fun _ => none
/-- Strings held against each other. -/
def cmpF : List A → Option R
  | [.val a, .val b] => some (.int .i64 (Lib.compareBytes a.toStr b.toStr), [])
  | _ => none
def ext : FuncId → Option (List A → Option R) := fun f => cnd (Nat.beq f 70) (some cmpF) none
noncomputable def C (n : Nat) (f : FuncId) (xs : List A) : Option R := run Try.prog tab own ext n f xs
end Go.Proofs.Ytpmecpmankpcbaa.Rf
