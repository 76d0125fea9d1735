-- Written for this claim by a program of this session's (wip/p2.sh).
import Derived.Test.YtpoafgokngpglaaPFnExactPutBindx0
import Derived.Test.YtpoafgokngpglaaPFnExactPutBindx1
import Derived.Test.YtpoafgokngpglaaPFnExactPutBindx2
import Derived.Test.YtpoafgokngpglaaPFnExactPutBindx3
import Derived.Test.YtpoafgokngpglaaPFnExactPutBindx4
import Derived.Test.YtpoafgokngpglaaPFnExactPutBindx5
import Derived.Test.YtpoafgokngpglaaPFnExactPutBindx6
import Derived.Test.YtpoafgokngpglaaPFnExactPutBindx7
import Derived.Test.YtpoafgokngpglaaPFnExactPutBindx8
import Derived.Test.YtpoafgokngpglaaPFnExactPutBindx9
import Derived.Test.YtpoafgokngpglaaPFnExactPutBindx10
import Derived.Test.YtpoafgokngpglaaPFnExactPutBindx11
namespace Go.Proofs.Ytpoafgokngpglaa.PFnExactPutBind
open Go.RowKit Go.Proofs.YtpoafgokngpglaaW.PrintWords Go.Proofs.YtpoafgokngpglaaW.PrintLast Go.Proofs.YtpoafgokngpglaaW.PrintMore
attribute [local go_sem] max2_int min2_int max_two min_two max_three min_three max_four min_four   -- for this text's walks alone
set_option linter.unusedVariables false
set_option linter.unusedSimpArgs false

end Go.Proofs.Ytpoafgokngpglaa.PFnExactPutBind
