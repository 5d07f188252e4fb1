/- What the functions that the law FnOverlays uses compute, and that the program computes it: walks written by a program of this session. -/
import Derived.Test.YtakembkodcjbjaaPFnOverlaysx0
import Derived.Test.YtakembkodcjbjaaPFnOverlaysx1
import Derived.Test.YtakembkodcjbjaaPFnOverlaysx3
import Derived.Test.YtakembkodcjbjaaPFnOverlaysx4
import Derived.Test.YtakembkodcjbjaaPFnOverlaysx5
namespace Go.Proofs.Ytakembkodcjbjaa.PFnOverlays
open Go.RowKit Go.Proofs.YtakembkodcjbjaaW.PrintWords Go.Proofs.YtakembkodcjbjaaW.PrintLast Go.Proofs.YtakembkodcjbjaaW.PrintMore
attribute [local go_sem] max2_int min2_int max_two min_two max_three min_three max_four min_four   -- for this text's walks alone
set_option linter.unusedVariables false
set_option linter.unusedSimpArgs false


end Go.Proofs.Ytakembkodcjbjaa.PFnOverlays
