-- Written for this claim by a program of this session's (wip/p2.sh).
import Derived.Test.YticblminpeodjaaPFnExactBindsFaultx0
import Derived.Test.YticblminpeodjaaPFnExactBindsFaultx1
import Derived.Test.YticblminpeodjaaPFnExactBindsFaultx2
import Derived.Test.YticblminpeodjaaPFnExactBindsFaultx3
import Derived.Test.YticblminpeodjaaPFnExactBindsFaultx4
import Derived.Test.YticblminpeodjaaPFnExactBindsFaultx5
import Derived.Test.YticblminpeodjaaPFnExactBindsFaultx6
namespace Go.Proofs.Yticblminpeodjaa.PFnExactBindsFault
open Go.RowKit Go.Proofs.YticblminpeodjaaW.PrintWords Go.Proofs.YticblminpeodjaaW.PrintLast Go.Proofs.YticblminpeodjaaW.PrintMore
attribute [local go_sem] max2_int min2_int max_two min_two max_three min_three max_four min_four   -- for this text's walks alone
set_option linter.unusedVariables false
set_option linter.unusedSimpArgs false

end Go.Proofs.Yticblminpeodjaa.PFnExactBindsFault
