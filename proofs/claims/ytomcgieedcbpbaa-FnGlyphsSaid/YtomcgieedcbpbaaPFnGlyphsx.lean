-- Written for this claim by a program of this session's (wip/p2.sh).
import Derived.Test.YtomcgieedcbpbaaPFnGlyphsx0
import Derived.Test.YtomcgieedcbpbaaPFnGlyphsx1
import Derived.Test.YtomcgieedcbpbaaPFnGlyphsx2
import Derived.Test.YtomcgieedcbpbaaPFnGlyphsx3
import Derived.Test.YtomcgieedcbpbaaPFnGlyphsx4
import Derived.Test.YtomcgieedcbpbaaPFnGlyphsx5
import Derived.Test.YtomcgieedcbpbaaPFnGlyphsx6
import Derived.Test.YtomcgieedcbpbaaPFnGlyphsx7
import Derived.Test.YtomcgieedcbpbaaPFnGlyphsx8
namespace Go.Proofs.Ytomcgieedcbpbaa.PFnGlyphs
open Go.RowKit Go.Proofs.YtomcgieedcbpbaaW.PrintWords Go.Proofs.YtomcgieedcbpbaaW.PrintLast Go.Proofs.YtomcgieedcbpbaaW.PrintMore
set_option linter.unusedVariables false
set_option linter.unusedSimpArgs false

end Go.Proofs.Ytomcgieedcbpbaa.PFnGlyphs
