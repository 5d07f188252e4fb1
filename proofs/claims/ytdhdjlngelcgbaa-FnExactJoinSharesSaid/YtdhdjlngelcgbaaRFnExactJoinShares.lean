/- The pure statement of the law FnExactJoinShares, without Go and memory: for all arguments that a Go program can read, the printed function answers true. -/
import Derived.Test.YtdhdjlngelcgbaaPFnExactJoinSharesx2
namespace Go.Proofs.Ytdhdjlngelcgbaa.PFnExactJoinShares
open Go.RowKit Go.Proofs.YtdhdjlngelcgbaaW.PrintWords Go.Proofs.YtdhdjlngelcgbaaW.PrintLast
def laws_FnExactJoinShares.PureR : Prop := ∀ (l0 : (List Int)), (l0.length ≤ 9223372036854775807 ∧ ∀ y0_ ∈ l0, (Lit.int .i64 y0_).wf = true) → ∃ k, laws_FnExactJoinShares.f k l0 = some true
end Go.Proofs.Ytdhdjlngelcgbaa.PFnExactJoinShares
