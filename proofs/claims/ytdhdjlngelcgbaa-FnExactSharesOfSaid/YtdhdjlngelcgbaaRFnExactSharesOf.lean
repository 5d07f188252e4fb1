/- The pure statement of the law FnExactSharesOf, without Go and memory: for all arguments that a Go program can read, the printed function answers true. -/
import Derived.Test.YtdhdjlngelcgbaaPFnExactSharesOfx2
namespace Go.Proofs.Ytdhdjlngelcgbaa.PFnExactSharesOf
open Go.RowKit Go.Proofs.YtdhdjlngelcgbaaW.PrintWords Go.Proofs.YtdhdjlngelcgbaaW.PrintLast
def laws_FnExactSharesOf.PureR : Prop := ∀ (a0 : Int) (l1 : (List Int)), (Lit.int .i64 a0).wf = true → (l1.length ≤ 9223372036854775807 ∧ ∀ y0_ ∈ l1, (Lit.int .i64 y0_).wf = true) → ∃ k, laws_FnExactSharesOf.f k a0 l1 = some true
end Go.Proofs.Ytdhdjlngelcgbaa.PFnExactSharesOf
