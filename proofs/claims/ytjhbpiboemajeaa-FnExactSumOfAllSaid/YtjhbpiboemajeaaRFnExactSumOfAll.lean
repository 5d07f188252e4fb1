/- The pure statement of the law FnExactSumOfAll, without Go and memory: for all arguments that a Go program can read, the printed function answers true. -/
import Derived.Test.YtjhbpiboemajeaaPFnExactSumOfAllx4
namespace Go.Proofs.Ytjhbpiboemajeaa.PFnExactSumOfAll
open Go.RowKit Go.Proofs.YtjhbpiboemajeaaW.PrintWords Go.Proofs.YtjhbpiboemajeaaW.PrintLast
def laws_FnExactSumOfAll.PureR : Prop := ∀ (l0 : (List (List Int))), (l0.length ≤ 9223372036854775807 ∧ ∀ y0_ ∈ l0, (y0_.length ≤ 9223372036854775807 ∧ ∀ y1_ ∈ y0_, (Lit.int .i64 y1_).wf = true)) → ∃ k, laws_FnExactSumOfAll.f k l0 = some true
end Go.Proofs.Ytjhbpiboemajeaa.PFnExactSumOfAll
