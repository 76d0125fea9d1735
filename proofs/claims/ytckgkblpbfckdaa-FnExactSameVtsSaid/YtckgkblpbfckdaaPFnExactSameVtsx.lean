-- Written for this claim by a program of this session's (wip/p2.sh).
import Derived.Test.YtckgkblpbfckdaaPFnExactSameVtsx0
import Derived.Test.YtckgkblpbfckdaaPFnExactSameVtsx1
import Derived.Test.YtckgkblpbfckdaaPFnExactSameVtsx2
import Derived.Test.YtckgkblpbfckdaaPFnExactSameVtsx3
import Derived.Test.YtckgkblpbfckdaaPFnExactSameVtsx4
import Derived.Test.YtckgkblpbfckdaaPFnExactSameVtsx5
import Derived.Test.YtckgkblpbfckdaaPFnExactSameVtsx6
import Derived.Test.YtckgkblpbfckdaaPFnExactSameVtsx7
import Derived.Test.YtckgkblpbfckdaaPFnExactSameVtsx8
import Derived.Test.YtckgkblpbfckdaaPFnExactSameVtsx9
import Derived.Test.YtckgkblpbfckdaaPFnExactSameVtsx10
import Derived.Test.YtckgkblpbfckdaaPFnExactSameVtsx11
import Derived.Test.YtckgkblpbfckdaaPFnExactSameVtsx12
import Derived.Test.YtckgkblpbfckdaaPFnExactSameVtsx13
namespace Go.Proofs.Ytckgkblpbfckdaa.PFnExactSameVts
open Go.RowKit Go.Proofs.YtckgkblpbfckdaaW.PrintWords Go.Proofs.YtckgkblpbfckdaaW.PrintLast Go.Proofs.YtckgkblpbfckdaaW.PrintMore
attribute [local go_sem] max2_int min2_int max_two min_two max_three min_three max_four min_four   -- for this text's walks alone
set_option linter.unusedVariables false
set_option linter.unusedSimpArgs false

end Go.Proofs.Ytckgkblpbfckdaa.PFnExactSameVts
