/- The pure statement of the law FnExactForgetSeen, without Go and memory: for all arguments that a Go program can read, the printed function answers true. -/
import Derived.Test.YtdhdjlngelcgbaaPFnExactForgetSeenx2
namespace Go.Proofs.Ytdhdjlngelcgbaa.PFnExactForgetSeen
open Go.RowKit Go.Proofs.YtdhdjlngelcgbaaW.PrintWords Go.Proofs.YtdhdjlngelcgbaaW.PrintLast
def Wf67 (x : S67) : Prop := (Lit.int .i64 x.f0).wf = true ∧ (Lit.int .i64 x.f1).wf = true ∧ (Lit.int .i64 x.f2).wf = true ∧ (Lit.int .i64 x.f3).wf = true ∧ True
def laws_FnExactForgetSeen.PureR : Prop := ∀ (l0 : (List S67)) (a1 : Int), (l0.length ≤ 9223372036854775807 ∧ ∀ y0_ ∈ l0, Wf67 y0_) → (Lit.int .i64 a1).wf = true → ∃ k, laws_FnExactForgetSeen.f k l0 a1 = some true
end Go.Proofs.Ytdhdjlngelcgbaa.PFnExactForgetSeen
