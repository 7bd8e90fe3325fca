/- The pure statement of the law ExprKinds: numbers, lists and trees alone. No conditions. -/
import Derived.Test.YtpmecpmankpcbaaPKx19
import Derived.Test.YtpmecpmankpcbaaPKw
namespace Go.Proofs.Ytpmecpmankpcbaa.PK
open Go.RowKit Go.Proofs.YtpmecpmankpcbaaW.PrintWords
def antipodelaw19_ExprKinds.Pure : Prop := ∀ (x0 : S26) (x1 : List (S23)), W26 x0 → (x1.length ≤ maxLen ∧ ∀ y_ ∈ x1, W23 y_) → ∃ k, antipodelaw19_ExprKinds.f k x0.f0 x0.f1 x0.f2.f0 x0.f2.f1 x0.f2.f2 x0.f3 x1 = some true
end Go.Proofs.Ytpmecpmankpcbaa.PK
