/- What a law's row opens, of any seat: all memory as data; where elements lie. No conditions. -/
import Derived.Test.YtpdhbddkcnffbaaDoorRow
import Derived.Test.YtpdhbddkcnffbaaDoorFlat
import Derived.Deep.Slices
namespace Go.Proofs.YtpdhbddkcnffbaaDoor
open Go.ChangeShapes Go.WideShapes Go.RowKit Go.Joins Go.Deep
set_option linter.unusedVariables false
set_option linter.unusedVariables false

/-- all memory that is there, as data -/
def allhw (w : World) : Nat → Nat := fun b => match w.heap[b]? with | some (.cells vs _ _) => vs.size | _ => 0
end Go.Proofs.YtpdhbddkcnffbaaDoor
