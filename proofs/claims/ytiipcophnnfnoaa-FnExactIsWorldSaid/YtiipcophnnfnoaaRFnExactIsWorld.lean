/- The pure statement of the law FnExactIsWorld, without Go and memory: for all arguments that a Go program can read, the printed function answers true. -/
import Derived.Test.YtiipcophnnfnoaaPFnExactIsWorldx16
namespace Go.Proofs.Ytiipcophnnfnoaa.PFnExactIsWorld
open Go.RowKit Go.Proofs.YtiipcophnnfnoaaW.PrintWords Go.Proofs.YtiipcophnnfnoaaW.PrintLast
def Wf159 (x : S159) : Prop := (Lit.int .i64 x.f0).wf = true ∧ (Lit.int .i64 x.f1).wf = true
def Wf139 (x : S139) : Prop := (Lit.int .i64 x.f0).wf = true ∧ (Lit.int .i64 x.f1).wf = true ∧ (x.f2.length ≤ 9223372036854775807 ∧ ∀ y0_ ∈ x.f2, (Lit.int .i64 y0_).wf = true)
def Wf142 (x : S142) : Prop := (Lit.int .i64 x.f0).wf = true ∧ (Lit.int .i64 x.f1).wf = true ∧ (Lit.int .i64 x.f2).wf = true ∧ (Lit.int .i64 x.f3).wf = true ∧ True
end Go.Proofs.Ytiipcophnnfnoaa.PFnExactIsWorld
