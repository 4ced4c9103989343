/- The exported constants have the values that the specification gives. -/
import Derived.Test.YtelgmnlkkhikfaaPFnExactConstantsx1
namespace Go.Proofs.Ytelgmnlkkhikfaa.Pure
open Go.RowKit Go.Proofs.Ytelgmnlkkhikfaa.PFnExactConstants Go.Proofs.YtelgmnlkkhikfaaW.PrintWords Go.Proofs.YtelgmnlkkhikfaaW.PrintLast Go.Proofs.YtelgmnlkkhikfaaW.PrintMore
set_option linter.unusedVariables false
set_option linter.unusedSimpArgs false

theorem FnExactConstants : laws_FnExactConstants.Pure := rfl

end Go.Proofs.Ytelgmnlkkhikfaa.Pure
