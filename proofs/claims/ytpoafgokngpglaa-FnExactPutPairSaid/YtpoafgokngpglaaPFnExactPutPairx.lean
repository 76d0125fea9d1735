-- Written for this claim by a program of this session's (wip/p2.sh).
import Derived.Test.YtpoafgokngpglaaPFnExactPutPairx0
import Derived.Test.YtpoafgokngpglaaPFnExactPutPairx1
import Derived.Test.YtpoafgokngpglaaPFnExactPutPairx2
import Derived.Test.YtpoafgokngpglaaPFnExactPutPairx3
import Derived.Test.YtpoafgokngpglaaPFnExactPutPairx4
import Derived.Test.YtpoafgokngpglaaPFnExactPutPairx5
import Derived.Test.YtpoafgokngpglaaPFnExactPutPairx6
import Derived.Test.YtpoafgokngpglaaPFnExactPutPairx7
import Derived.Test.YtpoafgokngpglaaPFnExactPutPairx8
import Derived.Test.YtpoafgokngpglaaPFnExactPutPairx9
namespace Go.Proofs.Ytpoafgokngpglaa.PFnExactPutPair
open Go.RowKit Go.Proofs.YtpoafgokngpglaaW.PrintWords Go.Proofs.YtpoafgokngpglaaW.PrintLast Go.Proofs.YtpoafgokngpglaaW.PrintMore
attribute [local go_sem] max2_int min2_int max_two min_two max_three min_three max_four min_four   -- for this text's walks alone
set_option linter.unusedVariables false
set_option linter.unusedSimpArgs false

end Go.Proofs.Ytpoafgokngpglaa.PFnExactPutPair
