/- The pure statement of the law FnSecrets, without Go and memory: for all arguments that a Go program can read, the printed function answers true. -/
import Derived.Test.YtjhbpiboemajeaaPFnSecretsx5
namespace Go.Proofs.Ytjhbpiboemajeaa.PFnSecrets
open Go.RowKit Go.Proofs.YtjhbpiboemajeaaW.PrintWords Go.Proofs.YtjhbpiboemajeaaW.PrintLast
def laws_FnSecrets.PureR : Prop := ∀ (l0 : (List Int)), (l0.length ≤ 9223372036854775807 ∧ ∀ y0_ ∈ l0, (Lit.int .u8 y0_).wf = true) → ∃ k, laws_FnSecrets.f k l0 = some true
end Go.Proofs.Ytjhbpiboemajeaa.PFnSecrets
