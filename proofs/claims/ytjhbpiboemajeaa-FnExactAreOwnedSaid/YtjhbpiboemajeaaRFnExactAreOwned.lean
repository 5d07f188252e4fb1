/- The pure statement of the law FnExactAreOwned, without Go and memory: for all arguments that a Go program can read, the printed function answers true. -/
import Derived.Test.YtjhbpiboemajeaaPFnExactAreOwnedx3
namespace Go.Proofs.Ytjhbpiboemajeaa.PFnExactAreOwned
open Go.RowKit Go.Proofs.YtjhbpiboemajeaaW.PrintWords Go.Proofs.YtjhbpiboemajeaaW.PrintLast
def laws_FnExactAreOwned.PureR : Prop := ∀ (l0 : (List (List Int))) (l1 : (List Int)) (l2 : (List Int)) (a3 : Int), (l0.length ≤ 9223372036854775807 ∧ ∀ y0_ ∈ l0, (y0_.length ≤ 9223372036854775807 ∧ ∀ y1_ ∈ y0_, (Lit.int .i64 y1_).wf = true)) → (l1.length ≤ 9223372036854775807 ∧ ∀ y0_ ∈ l1, (Lit.int .i64 y0_).wf = true) → (l2.length ≤ 9223372036854775807 ∧ ∀ y0_ ∈ l2, (Lit.int .i64 y0_).wf = true) → (Lit.int .i64 a3).wf = true → ∃ k, laws_FnExactAreOwned.f k l0 l1 l2 a3 = some true
end Go.Proofs.Ytjhbpiboemajeaa.PFnExactAreOwned
