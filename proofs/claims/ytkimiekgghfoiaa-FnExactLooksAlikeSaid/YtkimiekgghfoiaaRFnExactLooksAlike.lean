/- The pure statement of the law FnExactLooksAlike, without Go and memory: for all arguments that a Go program can read, the printed function answers true. -/
import Derived.Test.YtkimiekgghfoiaaPFnExactLooksAlikex9
namespace Go.Proofs.Ytkimiekgghfoiaa.PFnExactLooksAlike
open Go.RowKit Go.Proofs.YtkimiekgghfoiaaW.PrintWords Go.Proofs.YtkimiekgghfoiaaW.PrintLast
def Wf153 (x : S153) : Prop := (Lit.int .i64 x.f0).wf = true ∧ (Lit.int .i64 x.f1).wf = true
def Wf131 (x : S131) : Prop := (Lit.int .i64 x.f0).wf = true ∧ (Lit.int .i64 x.f1).wf = true ∧ (x.f2.length ≤ 9223372036854775807 ∧ ∀ y0_ ∈ x.f2, (Lit.int .i64 y0_).wf = true)
def Wf135 (x : S135) : Prop := (Lit.int .i64 x.f0).wf = true ∧ (Lit.int .i64 x.f1).wf = true ∧ (Lit.int .i64 x.f2).wf = true ∧ (Lit.int .i64 x.f3).wf = true ∧ True
end Go.Proofs.Ytkimiekgghfoiaa.PFnExactLooksAlike
