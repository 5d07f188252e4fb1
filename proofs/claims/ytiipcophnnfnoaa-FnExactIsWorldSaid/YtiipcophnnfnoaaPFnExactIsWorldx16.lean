/- What the functions that the law FnExactIsWorld uses compute, and that the program computes it: walks written by a program of this session. -/
import Derived.Test.YtiipcophnnfnoaaPFnExactIsWorldx0
import Derived.Test.YtiipcophnnfnoaaPFnExactIsWorldx3
import Derived.Test.YtiipcophnnfnoaaPFnExactIsWorldx4
import Derived.Test.YtiipcophnnfnoaaPFnExactIsWorldx6
import Derived.Test.YtiipcophnnfnoaaPFnExactIsWorldx12
import Derived.Test.YtiipcophnnfnoaaPFnExactIsWorldx15
namespace Go.Proofs.Ytiipcophnnfnoaa.PFnExactIsWorld
open Go.RowKit Go.Proofs.YtiipcophnnfnoaaW.PrintWords Go.Proofs.YtiipcophnnfnoaaW.PrintLast Go.Proofs.YtiipcophnnfnoaaW.PrintMore
attribute [local go_sem] max2_int min2_int max_two min_two max_three min_three max_four min_four   -- for this text's walks alone
set_option linter.unusedVariables false
set_option linter.unusedSimpArgs false


end Go.Proofs.Ytiipcophnnfnoaa.PFnExactIsWorld
