-- Written for this claim by a program of this session's (wip/p2.sh).
import Derived.Test.YtbfdpikijgeigaaPFnExactHasFlagx0
import Derived.Test.YtbfdpikijgeigaaPFnExactHasFlagx1
import Derived.Test.YtbfdpikijgeigaaPFnExactHasFlagx2
namespace Go.Proofs.Ytbfdpikijgeigaa.PFnExactHasFlag
open Go.RowKit Go.Proofs.YtbfdpikijgeigaaW.PrintWords Go.Proofs.YtbfdpikijgeigaaW.PrintLast Go.Proofs.YtbfdpikijgeigaaW.PrintMore
attribute [local go_sem] max2_int min2_int max_two min_two max_three min_three max_four min_four   -- for this text's walks alone
set_option linter.unusedVariables false
set_option linter.unusedSimpArgs false

end Go.Proofs.Ytbfdpikijgeigaa.PFnExactHasFlag
