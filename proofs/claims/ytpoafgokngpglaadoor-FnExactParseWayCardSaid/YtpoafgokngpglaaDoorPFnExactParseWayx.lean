-- Written for this claim by a program of this session's (wip/p2.sh).
import Derived.Test.YtpoafgokngpglaaDoorPFnExactParseWayx0
import Derived.Test.YtpoafgokngpglaaDoorPFnExactParseWayx1
import Derived.Test.YtpoafgokngpglaaDoorPFnExactParseWayx2
import Derived.Test.YtpoafgokngpglaaDoorPFnExactParseWayx3
import Derived.Test.YtpoafgokngpglaaDoorPFnExactParseWayx4
import Derived.Test.YtpoafgokngpglaaDoorPFnExactParseWayx5
import Derived.Test.YtpoafgokngpglaaDoorPFnExactParseWayx6
import Derived.Test.YtpoafgokngpglaaDoorPFnExactParseWayx7
import Derived.Test.YtpoafgokngpglaaDoorPFnExactParseWayx8
import Derived.Test.YtpoafgokngpglaaDoorPFnExactParseWayx9
namespace Go.Proofs.YtpoafgokngpglaaDoor.PFnExactParseWay
open Go.RowKit Go.Proofs.YtpoafgokngpglaaDoorW.PrintWords Go.Proofs.YtpoafgokngpglaaDoorW.PrintLast Go.Proofs.YtpoafgokngpglaaDoorW.PrintMore
attribute [local go_sem] max2_int min2_int max_two min_two max_three min_three max_four min_four   -- for this text's walks alone
set_option linter.unusedVariables false
set_option linter.unusedSimpArgs false

end Go.Proofs.YtpoafgokngpglaaDoor.PFnExactParseWay
