/- The pure statement of the law FnExactDecideTrial, without Go and memory: for all arguments that a Go program can read, the printed function answers true. -/
import Derived.Test.YtkimiekgghfoiaaPFnExactDecideTrialx6
namespace Go.Proofs.Ytkimiekgghfoiaa.PFnExactDecideTrial
open Go.RowKit Go.Proofs.YtkimiekgghfoiaaW.PrintWords Go.Proofs.YtkimiekgghfoiaaW.PrintLast
def laws_FnExactDecideTrial.PureR : Prop := ∀ (l0 : (List Int)) (l1 : (List Int)) (l2 : (List (List Int))) (l3 : (List (List Int))) (a4 : Int) (a5 : Int), (l0.length ≤ 9223372036854775807 ∧ ∀ y0_ ∈ l0, (Lit.int .i64 y0_).wf = true) → (l1.length ≤ 9223372036854775807 ∧ ∀ y0_ ∈ l1, (Lit.int .i64 y0_).wf = true) → (l2.length ≤ 9223372036854775807 ∧ ∀ y0_ ∈ l2, (y0_.length ≤ 9223372036854775807 ∧ ∀ y1_ ∈ y0_, (Lit.int .i64 y1_).wf = true)) → (l3.length ≤ 9223372036854775807 ∧ ∀ y0_ ∈ l3, (y0_.length ≤ 9223372036854775807 ∧ ∀ y1_ ∈ y0_, (Lit.int .i64 y1_).wf = true)) → (Lit.int .i64 a4).wf = true → (Lit.int .i64 a5).wf = true → ∃ k, laws_FnExactDecideTrial.f k l0 l1 l2 l3 a4 a5 = some true
end Go.Proofs.Ytkimiekgghfoiaa.PFnExactDecideTrial
