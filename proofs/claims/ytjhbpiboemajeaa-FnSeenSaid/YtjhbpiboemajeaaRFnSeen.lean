/- The pure statement of the law FnSeen, without Go and memory: for all arguments that a Go program can read, the printed function answers true. -/
import Derived.Test.YtjhbpiboemajeaaPFnSeenx4
namespace Go.Proofs.Ytjhbpiboemajeaa.PFnSeen
open Go.RowKit Go.Proofs.YtjhbpiboemajeaaW.PrintWords Go.Proofs.YtjhbpiboemajeaaW.PrintLast
def laws_FnSeen.PureR : Prop := ∀ (l0 : (List Int)), (l0.length ≤ 9223372036854775807 ∧ ∀ y0_ ∈ l0, (Lit.int .u8 y0_).wf = true) → ∃ k, laws_FnSeen.f k l0 = some true
end Go.Proofs.Ytjhbpiboemajeaa.PFnSeen
