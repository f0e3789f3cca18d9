/- All exported constants have the values that the reference names; no condition. -/
import Derived.Test.YtakdgpoiihjjlaaPFnExactConstantsx1
namespace Go.Proofs.Ytakdgpoiihjjlaa.Pure
open Go.RowKit Go.Proofs.Ytakdgpoiihjjlaa.PFnExactConstants Go.Proofs.YtakdgpoiihjjlaaW.PrintWords Go.Proofs.YtakdgpoiihjjlaaW.PrintLast

theorem FnExactConstants : laws_FnExactConstants.Pure := rfl

end Go.Proofs.Ytakdgpoiihjjlaa.Pure
