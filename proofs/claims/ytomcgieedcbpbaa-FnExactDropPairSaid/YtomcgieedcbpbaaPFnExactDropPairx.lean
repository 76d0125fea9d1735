-- Written for this claim by a program of this session's (wip/p2.sh).
import Derived.Test.YtomcgieedcbpbaaPFnExactDropPairx0
import Derived.Test.YtomcgieedcbpbaaPFnExactDropPairx1
import Derived.Test.YtomcgieedcbpbaaPFnExactDropPairx2
import Derived.Test.YtomcgieedcbpbaaPFnExactDropPairx3
import Derived.Test.YtomcgieedcbpbaaPFnExactDropPairx4
import Derived.Test.YtomcgieedcbpbaaPFnExactDropPairx5
namespace Go.Proofs.Ytomcgieedcbpbaa.PFnExactDropPair
open Go.RowKit Go.Proofs.YtomcgieedcbpbaaW.PrintWords Go.Proofs.YtomcgieedcbpbaaW.PrintLast Go.Proofs.YtomcgieedcbpbaaW.PrintMore
attribute [local go_sem] max2_int min2_int max_two min_two max_three min_three max_four min_four   -- for this text's walks alone
set_option linter.unusedVariables false
set_option linter.unusedSimpArgs false

end Go.Proofs.Ytomcgieedcbpbaa.PFnExactDropPair
