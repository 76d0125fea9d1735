-- Written for this claim by a program of this session's (wip/p2.sh).
import Derived.Test.YtbfdpikijgeigaaPFnExactShownBytex0
import Derived.Test.YtbfdpikijgeigaaPFnExactShownBytex1
import Derived.Test.YtbfdpikijgeigaaPFnExactShownBytex2
import Derived.Test.YtbfdpikijgeigaaPFnExactShownBytex3
namespace Go.Proofs.Ytbfdpikijgeigaa.PFnExactShownByte
open Go.RowKit Go.Proofs.YtbfdpikijgeigaaW.PrintWords Go.Proofs.YtbfdpikijgeigaaW.PrintLast Go.Proofs.YtbfdpikijgeigaaW.PrintMore
attribute [local go_sem] max2_int min2_int max_two min_two max_three min_three max_four min_four   -- for this text's walks alone
set_option linter.unusedVariables false
set_option linter.unusedSimpArgs false

end Go.Proofs.Ytbfdpikijgeigaa.PFnExactShownByte
