/- The law FnExactConstants answers true: each constant is what the document names; no condition. -/
import Derived.Test.YtajcddlhifhefaaPFnExactConstantsx1
import Derived.Test.YtajcddlhifhefaaModel
namespace Go.Proofs.Ytajcddlhifhefaa.Pure
open Go.RowKit Go.Proofs.Ytajcddlhifhefaa.PFnExactConstants Go.Proofs.YtajcddlhifhefaaW.PrintWords Go.Proofs.YtajcddlhifhefaaW.PrintLast Go.Proofs.Ytajcddlhifhefaa.Base Go.Proofs.Ytajcddlhifhefaa.Model


theorem FnExactConstants : laws_FnExactConstants.Pure := rfl

end Go.Proofs.Ytajcddlhifhefaa.Pure
