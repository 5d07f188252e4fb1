/- The pure statement of the law FnObserved, without Go and memory: for all arguments that a Go program can read, the printed function answers true. -/
import Derived.Test.YtiipcophnnfnoaaPFnObservedx22
namespace Go.Proofs.Ytiipcophnnfnoaa.PFnObserved
open Go.RowKit Go.Proofs.YtiipcophnnfnoaaW.PrintWords Go.Proofs.YtiipcophnnfnoaaW.PrintLast
def laws_FnObserved.PureR : Prop := ∀ (l0 : (List Int)), (l0.length ≤ 9223372036854775807 ∧ ∀ y0_ ∈ l0, (Lit.int .u8 y0_).wf = true) → ∃ k, laws_FnObserved.f k l0 = some true
end Go.Proofs.Ytiipcophnnfnoaa.PFnObserved
