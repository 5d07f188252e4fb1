/- The pure statement of the law FnExactNewWorld, without Go and memory: for all arguments that a Go program can read, the printed function answers true. -/
import Derived.Test.YtiipcophnnfnoaaPFnExactNewWorldx26
namespace Go.Proofs.Ytiipcophnnfnoaa.PFnExactNewWorld
open Go.RowKit Go.Proofs.YtiipcophnnfnoaaW.PrintWords Go.Proofs.YtiipcophnnfnoaaW.PrintLast
def Wf159 (x : S159) : Prop := (Lit.int .i64 x.f0).wf = true ∧ (Lit.int .i64 x.f1).wf = true
end Go.Proofs.Ytiipcophnnfnoaa.PFnExactNewWorld
