/-
  What is handed in, opened. No condition.
-/
import Derived.Test.YtaaahjcldomnbaaLabelBackFct
import Derived.Test.YtaaahjcldomnbaaBOpen
namespace Go.Proofs.Ytaaahjcldomnbaa
open Go Go.RowKit
set_option linter.unusedVariables false
set_option linter.unusedSimpArgs false
set_option linter.unnecessarySimpa false
open Go.ChangeShapes Go.WideShapes Go.ChangeAt

end Go.Proofs.Ytaaahjcldomnbaa
