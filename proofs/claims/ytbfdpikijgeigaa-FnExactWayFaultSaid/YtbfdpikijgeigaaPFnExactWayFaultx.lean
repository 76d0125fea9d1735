-- Written for this claim by a program of this session's (wip/p2.sh).
import Derived.Test.YtbfdpikijgeigaaPFnExactWayFaultx0
import Derived.Test.YtbfdpikijgeigaaPFnExactWayFaultx1
namespace Go.Proofs.Ytbfdpikijgeigaa.PFnExactWayFault
open Go.RowKit Go.Proofs.YtbfdpikijgeigaaW.PrintWords Go.Proofs.YtbfdpikijgeigaaW.PrintLast Go.Proofs.YtbfdpikijgeigaaW.PrintMore
attribute [local go_sem] max2_int min2_int max_two min_two max_three min_three max_four min_four   -- for this text's walks alone
set_option linter.unusedVariables false
set_option linter.unusedSimpArgs false

end Go.Proofs.Ytbfdpikijgeigaa.PFnExactWayFault
