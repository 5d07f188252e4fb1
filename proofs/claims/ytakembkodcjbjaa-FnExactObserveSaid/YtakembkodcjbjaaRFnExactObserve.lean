/- The pure statement of the law FnExactObserve, without Go and memory: for all arguments that a Go program can read, the printed function answers true. -/
import Derived.Test.YtakembkodcjbjaaPFnExactObservex10
namespace Go.Proofs.Ytakembkodcjbjaa.PFnExactObserve
open Go.RowKit Go.Proofs.YtakembkodcjbjaaW.PrintWords Go.Proofs.YtakembkodcjbjaaW.PrintLast
def Wf133 (x : S133) : Prop := (Lit.int .i64 x.f0).wf = true ∧ (Lit.int .i64 x.f1).wf = true
def Wf116 (x : S116) : Prop := (Lit.int .i64 x.f0).wf = true ∧ (Lit.int .i64 x.f1).wf = true ∧ (x.f2.length ≤ 9223372036854775807 ∧ ∀ y0_ ∈ x.f2, (Lit.int .i64 y0_).wf = true)
def Wf120 (x : S120) : Prop := (Lit.int .i64 x.f0).wf = true ∧ (Lit.int .i64 x.f1).wf = true ∧ (Lit.int .i64 x.f2).wf = true ∧ (Lit.int .i64 x.f3).wf = true ∧ True
end Go.Proofs.Ytakembkodcjbjaa.PFnExactObserve
