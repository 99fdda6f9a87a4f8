/- '==' of arrays of integers: true just if all elements are the same. No program in sight but its types. -/
import Derived.Test.YtcfefmbbbfdppaaSGa
namespace Go.Proofs.Ytcfefmbbbfdppaa
open Go.RowKit
set_option linter.unusedVariables false
section
variable {P : Program}
end
end Go.Proofs.Ytcfefmbbbfdppaa
