/- What the functions that the law FnExactObserve uses compute, and that the program computes it: walks written by a program of this session. -/
import Derived.Test.YtakembkodcjbjaaPFnExactObservex0
import Derived.Test.YtakembkodcjbjaaPFnExactObservex1
import Derived.Test.YtakembkodcjbjaaPFnExactObservex2
import Derived.Test.YtakembkodcjbjaaPFnExactObservex4
import Derived.Test.YtakembkodcjbjaaPFnExactObservex5
import Derived.Test.YtakembkodcjbjaaPFnExactObservex7
import Derived.Test.YtakembkodcjbjaaPFnExactObservex9
namespace Go.Proofs.Ytakembkodcjbjaa.PFnExactObserve
open Go.RowKit Go.Proofs.YtakembkodcjbjaaW.PrintWords Go.Proofs.YtakembkodcjbjaaW.PrintLast Go.Proofs.YtakembkodcjbjaaW.PrintMore
attribute [local go_sem] max2_int min2_int max_two min_two max_three min_three max_four min_four   -- for this text's walks alone
set_option linter.unusedVariables false
set_option linter.unusedSimpArgs false


end Go.Proofs.Ytakembkodcjbjaa.PFnExactObserve
