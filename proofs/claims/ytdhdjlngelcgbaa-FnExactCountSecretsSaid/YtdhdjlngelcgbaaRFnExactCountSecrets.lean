/- The pure statement of the law FnExactCountSecrets, without Go and memory: for all arguments that a Go program can read, the printed function answers true. -/
import Derived.Test.YtdhdjlngelcgbaaPFnExactCountSecretsx2
namespace Go.Proofs.Ytdhdjlngelcgbaa.PFnExactCountSecrets
open Go.RowKit Go.Proofs.YtdhdjlngelcgbaaW.PrintWords Go.Proofs.YtdhdjlngelcgbaaW.PrintLast
def laws_FnExactCountSecrets.PureR : Prop := ∀ (l0 : (List Int)) (a1 : Int), (l0.length ≤ 9223372036854775807 ∧ ∀ y0_ ∈ l0, (Lit.int .i64 y0_).wf = true) → (Lit.int .i64 a1).wf = true → ∃ k, laws_FnExactCountSecrets.f k l0 a1 = some true
end Go.Proofs.Ytdhdjlngelcgbaa.PFnExactCountSecrets
