/- The pure statement of the law FnExactTimeOver, without Go and memory: for all arguments that a Go program can read, the printed function answers true. -/
import Derived.Test.YtdhdjlngelcgbaaPFnExactTimeOverx3
namespace Go.Proofs.Ytdhdjlngelcgbaa.PFnExactTimeOver
open Go.RowKit Go.Proofs.YtdhdjlngelcgbaaW.PrintWords Go.Proofs.YtdhdjlngelcgbaaW.PrintLast
def laws_FnExactTimeOver.PureR : Prop := ∀ (l0 : (List (List Int))) (a1 : Int) (a2 : Int) (a3 : Int), (l0.length ≤ 9223372036854775807 ∧ ∀ y0_ ∈ l0, (y0_.length ≤ 9223372036854775807 ∧ ∀ y1_ ∈ y0_, (Lit.int .i64 y1_).wf = true)) → (Lit.int .i64 a1).wf = true → (Lit.int .i64 a2).wf = true → (Lit.int .i64 a3).wf = true → ∃ k, laws_FnExactTimeOver.f k l0 a1 a2 a3 = some true
end Go.Proofs.Ytdhdjlngelcgbaa.PFnExactTimeOver
