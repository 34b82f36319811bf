/- The law FnExactConstants returns true: every exported constant of the program is the document's. No conditions. -/
import Derived.Test.YtonfmdgklgdgfaaPFnExactConstantsx1
namespace Go.Proofs.Ytonfmdgklgdgfaa.Pure
open Go.RowKit Go.Proofs.Ytonfmdgklgdgfaa.PFnExactConstants Go.Proofs.YtonfmdgklgdgfaaW.PrintWords Go.Proofs.YtonfmdgklgdgfaaW.PrintLast

theorem FnExactConstants : laws_FnExactConstants.Pure := by
  rfl

end Go.Proofs.Ytonfmdgklgdgfaa.Pure
