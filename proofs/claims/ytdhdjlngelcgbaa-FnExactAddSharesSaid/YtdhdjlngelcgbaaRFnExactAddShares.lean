/- The pure statement of the law FnExactAddShares, without Go and memory: for all arguments that a Go program can read, the printed function answers true. -/
import Derived.Test.YtdhdjlngelcgbaaPFnExactAddSharesx3
namespace Go.Proofs.Ytdhdjlngelcgbaa.PFnExactAddShares
open Go.RowKit Go.Proofs.YtdhdjlngelcgbaaW.PrintWords Go.Proofs.YtdhdjlngelcgbaaW.PrintLast
def laws_FnExactAddShares.PureR : Prop := ∀ (l0 : (List Int)) (l1 : (List Int)), (l0.length ≤ 9223372036854775807 ∧ ∀ y0_ ∈ l0, (Lit.int .i64 y0_).wf = true) → (l1.length ≤ 9223372036854775807 ∧ ∀ y0_ ∈ l1, (Lit.int .i64 y0_).wf = true) → ∃ k, laws_FnExactAddShares.f k l0 l1 = some true
end Go.Proofs.Ytdhdjlngelcgbaa.PFnExactAddShares
