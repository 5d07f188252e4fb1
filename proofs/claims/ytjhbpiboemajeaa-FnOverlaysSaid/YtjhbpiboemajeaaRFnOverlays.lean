/- The pure statement of the law FnOverlays, without Go and memory: for all arguments that a Go program can read, the printed function answers true. -/
import Derived.Test.YtjhbpiboemajeaaPFnOverlaysx5
namespace Go.Proofs.Ytjhbpiboemajeaa.PFnOverlays
open Go.RowKit Go.Proofs.YtjhbpiboemajeaaW.PrintWords Go.Proofs.YtjhbpiboemajeaaW.PrintLast
def laws_FnOverlays.PureR : Prop := ∀ (l0 : (List Int)), (l0.length ≤ 9223372036854775807 ∧ ∀ y0_ ∈ l0, (Lit.int .u8 y0_).wf = true) → ∃ k, laws_FnOverlays.f k l0 = some true
end Go.Proofs.Ytjhbpiboemajeaa.PFnOverlays
