/- The pure statement of the law FnExactHideAs, without Go and memory: for all arguments that a Go program can read, the printed function answers true. -/
import Derived.Test.YtdhdjlngelcgbaaPFnExactHideAsx3
namespace Go.Proofs.Ytdhdjlngelcgbaa.PFnExactHideAs
open Go.RowKit Go.Proofs.YtdhdjlngelcgbaaW.PrintWords Go.Proofs.YtdhdjlngelcgbaaW.PrintLast
def laws_FnExactHideAs.PureR : Prop := ∀ (l0 : (List Int)) (a1 : Int) (a2 : Int), (l0.length ≤ 9223372036854775807 ∧ ∀ y0_ ∈ l0, (Lit.int .i64 y0_).wf = true) → (Lit.int .i64 a1).wf = true → (Lit.int .i64 a2).wf = true → ∃ k, laws_FnExactHideAs.f k l0 a1 a2 = some true
end Go.Proofs.Ytdhdjlngelcgbaa.PFnExactHideAs
