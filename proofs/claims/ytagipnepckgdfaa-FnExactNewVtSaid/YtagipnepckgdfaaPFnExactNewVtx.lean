-- Written for this claim by a program of this session's (wip/p2.sh).
import Derived.Test.YtagipnepckgdfaaPFnExactNewVtx0
import Derived.Test.YtagipnepckgdfaaPFnExactNewVtx1
import Derived.Test.YtagipnepckgdfaaPFnExactNewVtx2
import Derived.Test.YtagipnepckgdfaaPFnExactNewVtx3
import Derived.Test.YtagipnepckgdfaaPFnExactNewVtx4
import Derived.Test.YtagipnepckgdfaaPFnExactNewVtx5
namespace Go.Proofs.Ytagipnepckgdfaa.PFnExactNewVt
open Go.RowKit Go.Proofs.YtagipnepckgdfaaW.PrintWords Go.Proofs.YtagipnepckgdfaaW.PrintLast Go.Proofs.YtagipnepckgdfaaW.PrintMore
attribute [local go_sem] max2_int min2_int max_two min_two max_three min_three max_four min_four   -- for this text's walks alone
set_option linter.unusedVariables false
set_option linter.unusedSimpArgs false

end Go.Proofs.Ytagipnepckgdfaa.PFnExactNewVt
