/- The pure statement of the law FnExactGoodOnes, without Go and memory: for all arguments that a Go program can read, the printed function answers true. -/
import Derived.Test.YtjhbpiboemajeaaPFnExactGoodOnesx3
namespace Go.Proofs.Ytjhbpiboemajeaa.PFnExactGoodOnes
open Go.RowKit Go.Proofs.YtjhbpiboemajeaaW.PrintWords Go.Proofs.YtjhbpiboemajeaaW.PrintLast
def Wf64 (x : S64) : Prop := (Lit.int .i64 x.f0).wf = true ∧ (Lit.int .i64 x.f1).wf = true ∧ (Lit.int .i64 x.f2).wf = true ∧ (Lit.int .i64 x.f3).wf = true ∧ True
def laws_FnExactGoodOnes.PureR : Prop := ∀ (l0 : (List S64)) (a1 : Int), (l0.length ≤ 9223372036854775807 ∧ ∀ y0_ ∈ l0, Wf64 y0_) → (Lit.int .i64 a1).wf = true → ∃ k, laws_FnExactGoodOnes.f k l0 a1 = some true
end Go.Proofs.Ytjhbpiboemajeaa.PFnExactGoodOnes
