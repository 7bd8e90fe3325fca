/- What is known of the arguments of the laws (sizes, whole numbers within their kinds). No conditions. -/
import Derived.Test.YtpmecpmankpcbaaPKx0
namespace Go.Proofs.Ytpmecpmankpcbaa.PK
open Go.RowKit Go.Proofs.YtpmecpmankpcbaaW.PrintWords
structure W23 (x : S23) : Prop where
  mk ::
  h0 : (Lit.int .i64 x.f0).wf = true
  h1 : (Lit.int .i64 x.f1).wf = true
  h2 : x.f2.size ≤ maxLen
inductive W26 : S26 → Prop
  | mk {x : S26} (h0 : (Lit.int .i64 x.f0).wf = true) (h1 : x.f1.size ≤ maxLen) (h2 : W23 x.f2) (h3 : x.f3.length ≤ maxLen) (h3e : ∀ y_ ∈ x.f3, W26 y_) : W26 x
theorem W26.h0 {x : S26} (hx : W26 x) : (Lit.int .i64 x.f0).wf = true := by
  cases hx
  first | assumption | exact ⟨by assumption, by assumption⟩
theorem W26.h1 {x : S26} (hx : W26 x) : x.f1.size ≤ maxLen := by
  cases hx
  first | assumption | exact ⟨by assumption, by assumption⟩
theorem W26.h2 {x : S26} (hx : W26 x) : W23 x.f2 := by
  cases hx
  first | assumption | exact ⟨by assumption, by assumption⟩
theorem W26.h3 {x : S26} (hx : W26 x) : (x.f3.length ≤ maxLen ∧ ∀ y_ ∈ x.f3, W26 y_) := by
  cases hx
  first | assumption | exact ⟨by assumption, by assumption⟩
end Go.Proofs.Ytpmecpmankpcbaa.PK
