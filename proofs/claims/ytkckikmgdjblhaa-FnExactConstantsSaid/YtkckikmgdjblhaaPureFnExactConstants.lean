/- The pure statement of FnExactConstants: the program's constants are the document's. No condition. -/
import Derived.Test.YtkckikmgdjblhaaF2
namespace Go.Proofs.Ytkckikmgdjblhaa.Pure
set_option linter.unusedVariables false
set_option linter.unusedSimpArgs false
open Go.Proofs.Ytkckikmgdjblhaa.F
theorem FnExactConstants : laws_FnExactConstants.Pure := rfl
end Go.Proofs.Ytkckikmgdjblhaa.Pure
