/- Constants: each constant of the program is the document's. No condition. -/
import Derived.Test.YtbfdpikijgeigaaPFnExactConstantsx
import Derived.Test.YtbfdpikijgeigaaPlain
namespace Go.Proofs.Ytbfdpikijgeigaa.Pure
open Go Go.RowKit Go.Proofs.Ytbfdpikijgeigaa.PFnExactConstants Go.Proofs.YtbfdpikijgeigaaW.PrintWords Go.Proofs.YtbfdpikijgeigaaW.PrintLast Go.Proofs.YtbfdpikijgeigaaPlain



theorem FnExactConstants : laws_FnExactConstants.Pure := rfl

end Go.Proofs.Ytbfdpikijgeigaa.Pure
