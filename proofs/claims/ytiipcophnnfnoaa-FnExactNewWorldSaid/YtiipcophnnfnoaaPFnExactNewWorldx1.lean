import Derived.Test.YtiipcophnnfnoaaPFnExactNewWorldx0
set_option linter.unusedVariables false
set_option linter.unusedSimpArgs false
namespace Go.Proofs.Ytiipcophnnfnoaa.PFnExactNewWorld
open Go.RowKit Go.Proofs.YtiipcophnnfnoaaW.PrintWords Go.Proofs.YtiipcophnnfnoaaW.PrintLast Go.Proofs.YtiipcophnnfnoaaW.PrintMore
set_option maxHeartbeats 8000000
set_option maxRecDepth 100000

theorem eqA133 (d:Nat) (w:World) (x0 y0:Int) (x1 y1:Int):(Op.equalIn (d + 2) 133 (.agg #[.int .i64 x0,.int .i64 x1]) (.agg #[.int .i64 y0,.int .i64 y1])).run Try.prog w=.ok (x0 == y0 && (x1 == y1)) w:=by
 refine eqA_of Try.underlying133 (by kernel_rfl) ?_;refine eqf_cons (by rfl) (by go_simp;rfl) (by go_simp;rfl) (by go_simp) ?_;exact eqf_last (by rfl) (by go_simp;rfl) (by go_simp;rfl) (by go_simp)
end Go.Proofs.Ytiipcophnnfnoaa.PFnExactNewWorld
