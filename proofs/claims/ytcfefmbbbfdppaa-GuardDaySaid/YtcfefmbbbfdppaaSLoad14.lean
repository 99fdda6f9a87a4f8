/- load: get of turn, what is long enough. Conditions: as said. -/
import Derived.Test.YtcfefmbbbfdppaaSGi
namespace Go.Proofs.Ytcfefmbbbfdppaa
open Go.RowKit Go.Lib Go.IntWalk
set_option linter.unusedVariables false
set_option maxRecDepth 100000
end Go.Proofs.Ytcfefmbbbfdppaa
