/- The program's constants have the values that the law lists: no input, no condition. -/
import Derived.Test.YtinjochelhmkjaaPFnExactConstantsx1
set_option linter.unusedVariables false
set_option linter.unusedSimpArgs false
namespace Go.Proofs.Ytinjochelhmkjaa.Pure
open Go.RowKit Go.Proofs.Ytinjochelhmkjaa.PFnExactConstants Go.Proofs.YtinjochelhmkjaaW.PrintWords Go.Proofs.YtinjochelhmkjaaW.PrintLast

theorem FnExactConstants : laws_FnExactConstants.Pure := rfl

end Go.Proofs.Ytinjochelhmkjaa.Pure
