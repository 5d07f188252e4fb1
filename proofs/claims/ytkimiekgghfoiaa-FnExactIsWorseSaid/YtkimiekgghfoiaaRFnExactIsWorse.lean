/- The pure statement of the law FnExactIsWorse, without Go and memory: for all arguments that a Go program can read, the printed function answers true. -/
import Derived.Test.YtkimiekgghfoiaaPFnExactIsWorsex2
namespace Go.Proofs.Ytkimiekgghfoiaa.PFnExactIsWorse
open Go.RowKit Go.Proofs.YtkimiekgghfoiaaW.PrintWords Go.Proofs.YtkimiekgghfoiaaW.PrintLast
def laws_FnExactIsWorse.PureR : Prop := ∀ (l0 : (List Int)) (l1 : (List Int)) (a2 : Int), (l0.length ≤ 9223372036854775807 ∧ ∀ y0_ ∈ l0, (Lit.int .i64 y0_).wf = true) → (l1.length ≤ 9223372036854775807 ∧ ∀ y0_ ∈ l1, (Lit.int .i64 y0_).wf = true) → (Lit.int .i64 a2).wf = true → ∃ k, laws_FnExactIsWorse.f k l0 l1 a2 = some true
end Go.Proofs.Ytkimiekgghfoiaa.PFnExactIsWorse
