/- The program's tables, as far as they are read: the block in which each lies, its type, its cells. No conditions. -/
import Derived.Test.YtnlacdclnhoghaaSet
namespace Go.Proofs.Ytnlacdclnhoghaa
open Go.RowKit
set_option linter.unusedVariables false
/-- none -/
def gtab : List (Nat × List Value) := []
end Go.Proofs.Ytnlacdclnhoghaa
