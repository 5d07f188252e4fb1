/- The pure statement of the law FnExactGain, without Go and memory: for all arguments that a Go program can read, the printed function answers true. -/
import Derived.Test.YtjhbpiboemajeaaPFnExactGainx4
namespace Go.Proofs.Ytjhbpiboemajeaa.PFnExactGain
open Go.RowKit Go.Proofs.YtjhbpiboemajeaaW.PrintWords Go.Proofs.YtjhbpiboemajeaaW.PrintLast
def laws_FnExactGain.PureR : Prop := ∀ (l0 : (List (List Int))) (a1 : Int) (a2 : Int), (l0.length ≤ 9223372036854775807 ∧ ∀ y0_ ∈ l0, (y0_.length ≤ 9223372036854775807 ∧ ∀ y1_ ∈ y0_, (Lit.int .i64 y1_).wf = true)) → (Lit.int .i64 a1).wf = true → (Lit.int .i64 a2).wf = true → ∃ k, laws_FnExactGain.f k l0 a1 a2 = some true
end Go.Proofs.Ytjhbpiboemajeaa.PFnExactGain
