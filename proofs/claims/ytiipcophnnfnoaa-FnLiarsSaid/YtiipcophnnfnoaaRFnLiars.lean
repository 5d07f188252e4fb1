/- The pure statement of the law FnLiars, without Go and memory: for all arguments that a Go program can read, the printed function answers true. -/
import Derived.Test.YtiipcophnnfnoaaPFnLiarsx12
namespace Go.Proofs.Ytiipcophnnfnoaa.PFnLiars
open Go.RowKit Go.Proofs.YtiipcophnnfnoaaW.PrintWords Go.Proofs.YtiipcophnnfnoaaW.PrintLast
def laws_FnLiars.PureR : Prop := ∀ (l0 : (List Int)), (l0.length ≤ 9223372036854775807 ∧ ∀ y0_ ∈ l0, (Lit.int .u8 y0_).wf = true) → ∃ k, laws_FnLiars.f k l0 = some true
end Go.Proofs.Ytiipcophnnfnoaa.PFnLiars
