/- The pure statement of the law FnTrials, without Go and memory: for all arguments that a Go program can read, the printed function answers true. -/
import Derived.Test.YtkimiekgghfoiaaPFnTrialsx4
namespace Go.Proofs.Ytkimiekgghfoiaa.PFnTrials
open Go.RowKit Go.Proofs.YtkimiekgghfoiaaW.PrintWords Go.Proofs.YtkimiekgghfoiaaW.PrintLast
def laws_FnTrials.PureR : Prop := ∀ (l0 : (List Int)), (l0.length ≤ 9223372036854775807 ∧ ∀ y0_ ∈ l0, (Lit.int .u8 y0_).wf = true) → ∃ k, laws_FnTrials.f k l0 = some true
end Go.Proofs.Ytkimiekgghfoiaa.PFnTrials
