-- Written for this claim by a program of this session's (wip/p2.sh).
import Derived.Test.YticblminpeodjaaPFnExactSymOfx0
import Derived.Test.YticblminpeodjaaPFnExactSymOfx1
import Derived.Test.YticblminpeodjaaPFnExactSymOfx2
import Derived.Test.YticblminpeodjaaPFnExactSymOfx3
import Derived.Test.YticblminpeodjaaPFnExactSymOfx4
import Derived.Test.YticblminpeodjaaPFnExactSymOfx5
import Derived.Test.YticblminpeodjaaPFnExactSymOfx6
import Derived.Test.YticblminpeodjaaPFnExactSymOfx7
import Derived.Test.YticblminpeodjaaPFnExactSymOfx8
namespace Go.Proofs.Yticblminpeodjaa.PFnExactSymOf
open Go.RowKit Go.Proofs.YticblminpeodjaaW.PrintWords Go.Proofs.YticblminpeodjaaW.PrintLast Go.Proofs.YticblminpeodjaaW.PrintMore
attribute [local go_sem] max2_int min2_int max_two min_two max_three min_three max_four min_four   -- for this text's walks alone
set_option linter.unusedVariables false
set_option linter.unusedSimpArgs false

end Go.Proofs.Yticblminpeodjaa.PFnExactSymOf
