-- Written for this claim by a program of this session's (wip/p2.sh).
import Derived.Test.YtpoafgokngpglaaPFnFontsx0
import Derived.Test.YtpoafgokngpglaaPFnFontsx1
import Derived.Test.YtpoafgokngpglaaPFnFontsx2
import Derived.Test.YtpoafgokngpglaaPFnFontsx3
import Derived.Test.YtpoafgokngpglaaPFnFontsx4
import Derived.Test.YtpoafgokngpglaaPFnFontsx5
import Derived.Test.YtpoafgokngpglaaPFnFontsx6
import Derived.Test.YtpoafgokngpglaaPFnFontsx7
import Derived.Test.YtpoafgokngpglaaPFnFontsx8
import Derived.Test.YtpoafgokngpglaaPFnFontsx9
import Derived.Test.YtpoafgokngpglaaPFnFontsx10
namespace Go.Proofs.Ytpoafgokngpglaa.PFnFonts
open Go.RowKit Go.Proofs.YtpoafgokngpglaaW.PrintWords Go.Proofs.YtpoafgokngpglaaW.PrintLast Go.Proofs.YtpoafgokngpglaaW.PrintMore
attribute [local go_sem] max2_int min2_int max_two min_two max_three min_three max_four min_four   -- for this text's walks alone
set_option linter.unusedVariables false
set_option linter.unusedSimpArgs false

end Go.Proofs.Ytpoafgokngpglaa.PFnFonts
