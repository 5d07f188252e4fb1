/- The pure statement of the law FnExactIsTimes, without Go and memory: for all arguments that a Go program can read, the printed function answers true. -/
import Derived.Test.YtdhdjlngelcgbaaPFnExactIsTimesx2
namespace Go.Proofs.Ytdhdjlngelcgbaa.PFnExactIsTimes
open Go.RowKit Go.Proofs.YtdhdjlngelcgbaaW.PrintWords Go.Proofs.YtdhdjlngelcgbaaW.PrintLast
def laws_FnExactIsTimes.PureR : Prop := ∀ (l0 : (List (List Int))), (l0.length ≤ 9223372036854775807 ∧ ∀ y0_ ∈ l0, (y0_.length ≤ 9223372036854775807 ∧ ∀ y1_ ∈ y0_, (Lit.int .i64 y1_).wf = true)) → ∃ k, laws_FnExactIsTimes.f k l0 = some true
end Go.Proofs.Ytdhdjlngelcgbaa.PFnExactIsTimes
