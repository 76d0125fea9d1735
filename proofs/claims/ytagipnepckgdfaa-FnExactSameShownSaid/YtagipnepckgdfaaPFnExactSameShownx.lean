-- Written for this claim by a program of this session's (wip/p2.sh).
import Derived.Test.YtagipnepckgdfaaPFnExactSameShownx0
import Derived.Test.YtagipnepckgdfaaPFnExactSameShownx1
import Derived.Test.YtagipnepckgdfaaPFnExactSameShownx2
import Derived.Test.YtagipnepckgdfaaPFnExactSameShownx3
import Derived.Test.YtagipnepckgdfaaPFnExactSameShownx4
import Derived.Test.YtagipnepckgdfaaPFnExactSameShownx5
import Derived.Test.YtagipnepckgdfaaPFnExactSameShownx6
import Derived.Test.YtagipnepckgdfaaPFnExactSameShownx7
import Derived.Test.YtagipnepckgdfaaPFnExactSameShownx8
namespace Go.Proofs.Ytagipnepckgdfaa.PFnExactSameShown
open Go.RowKit Go.Proofs.YtagipnepckgdfaaW.PrintWords Go.Proofs.YtagipnepckgdfaaW.PrintLast Go.Proofs.YtagipnepckgdfaaW.PrintMore
attribute [local go_sem] max2_int min2_int max_two min_two max_three min_three max_four min_four   -- for this text's walks alone
set_option linter.unusedVariables false
set_option linter.unusedSimpArgs false

end Go.Proofs.Ytagipnepckgdfaa.PFnExactSameShown
