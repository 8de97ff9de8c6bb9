/-
  THE TYPES OF THE LAWS' PARAMETERS: what reads as data is of the printed texts' kinds, with these bounds.
-/
import Derived.Test.YtagfmkedimhgbaaDoorGx0
import Derived.Test.YtagfmkedimhgbaaDoorOpen
namespace Go.Proofs.YtagfmkedimhgbaaDoor.G
open Go.RowKit Go.Proofs.YtagfmkedimhgbaaDoorW.PrintWords
set_option linter.unusedVariables false

end Go.Proofs.YtagfmkedimhgbaaDoor.G
