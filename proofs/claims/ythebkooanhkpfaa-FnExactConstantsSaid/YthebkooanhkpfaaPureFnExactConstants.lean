/- Constants: every exported constant of the program is the document's; no condition. -/
import Derived.Test.YthebkooanhkpfaaPFnExactConstantsx1
import Derived.Test.YthebkooanhkpfaaPlain
set_option linter.unusedVariables false
set_option linter.unusedSimpArgs false
namespace Go.Proofs.Ythebkooanhkpfaa.Pure
open Go.RowKit Go.Proofs.Ythebkooanhkpfaa.PFnExactConstants Go.Proofs.YthebkooanhkpfaaW.PrintWords Go.Proofs.YthebkooanhkpfaaW.PrintLast Go.Proofs.Ythebkooanhkpfaa.Plain

theorem FnExactConstants : laws_FnExactConstants.Pure := rfl

end Go.Proofs.Ythebkooanhkpfaa.Pure
