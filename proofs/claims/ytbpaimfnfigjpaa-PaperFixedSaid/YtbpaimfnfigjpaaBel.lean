/- Bytes name no variable. No conditions. -/
import Derived.Test.YtbpaimfnfigjpaaWide2
namespace Go.Proofs.Ytbpaimfnfigjpaa
open Go.RowKit Go.Lib
set_option linter.unusedVariables false

end Go.Proofs.Ytbpaimfnfigjpaa
