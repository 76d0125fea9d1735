-- Written for this claim by a program of this session's (wip/p2.sh).
import Derived.Test.YtpoafgokngpglaaPFnBindsx0
import Derived.Test.YtpoafgokngpglaaPFnBindsx1
import Derived.Test.YtpoafgokngpglaaPFnBindsx2
import Derived.Test.YtpoafgokngpglaaPFnBindsx3
import Derived.Test.YtpoafgokngpglaaPFnBindsx4
import Derived.Test.YtpoafgokngpglaaPFnBindsx5
import Derived.Test.YtpoafgokngpglaaPFnBindsx6
import Derived.Test.YtpoafgokngpglaaPFnBindsx7
import Derived.Test.YtpoafgokngpglaaPFnBindsx8
import Derived.Test.YtpoafgokngpglaaPFnBindsx9
import Derived.Test.YtpoafgokngpglaaPFnBindsx10
import Derived.Test.YtpoafgokngpglaaPFnBindsx11
import Derived.Test.YtpoafgokngpglaaPFnBindsx12
import Derived.Test.YtpoafgokngpglaaPFnBindsx13
namespace Go.Proofs.Ytpoafgokngpglaa.PFnBinds
open Go.RowKit Go.Proofs.YtpoafgokngpglaaW.PrintWords Go.Proofs.YtpoafgokngpglaaW.PrintLast Go.Proofs.YtpoafgokngpglaaW.PrintMore
attribute [local go_sem] max2_int min2_int max_two min_two max_three min_three max_four min_four   -- for this text's walks alone
set_option linter.unusedVariables false
set_option linter.unusedSimpArgs false

end Go.Proofs.Ytpoafgokngpglaa.PFnBinds
