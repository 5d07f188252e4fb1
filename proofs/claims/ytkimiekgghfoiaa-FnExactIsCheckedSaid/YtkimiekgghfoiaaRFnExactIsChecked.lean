/- The pure statement of the law FnExactIsChecked, without Go and memory: for all arguments that a Go program can read, the printed function answers true. -/
import Derived.Test.YtkimiekgghfoiaaPFnExactIsCheckedx9
namespace Go.Proofs.Ytkimiekgghfoiaa.PFnExactIsChecked
open Go.RowKit Go.Proofs.YtkimiekgghfoiaaW.PrintWords Go.Proofs.YtkimiekgghfoiaaW.PrintLast
def laws_FnExactIsChecked.PureR : Prop := ∀ (l0 : (List (List Int))) (l1 : (List Int)) (a2 : Int), (l0.length ≤ 9223372036854775807 ∧ ∀ y0_ ∈ l0, (y0_.length ≤ 9223372036854775807 ∧ ∀ y1_ ∈ y0_, (Lit.int .i64 y1_).wf = true)) → (l1.length ≤ 9223372036854775807 ∧ ∀ y0_ ∈ l1, (Lit.int .i64 y0_).wf = true) → (Lit.int .i64 a2).wf = true → ∃ k, laws_FnExactIsChecked.f k l0 l1 a2 = some true
end Go.Proofs.Ytkimiekgghfoiaa.PFnExactIsChecked
