/- The program's tables, as far as they are read: the block in which each lies, its type, its cells. No conditions. -/
import Derived.Test.YtdmlmcoeklgapaaDoorSet
namespace Go.Proofs.YtdmlmcoeklgapaaDoor
open Go.RowKit
set_option linter.unusedVariables false
/-- the table of math/bits -/
def gtab : List (Nat × List Value) := [(0, [0, 1, 56, 2, 57, 49, 28, 3, 61, 58, 42, 50, 38, 29, 17, 4, 62, 47, 59, 36, 45, 43, 51, 22, 53, 39, 33, 30, 24, 18, 12, 5, 63, 55, 48, 27, 60, 41, 37, 16, 46, 35, 44, 21, 52, 32, 23, 11, 54, 26, 40, 15, 34, 20, 31, 10, 25, 14, 19, 9, 13, 8, 7, 6].map fun z : Int => Value.int .u8 z)]
end Go.Proofs.YtdmlmcoeklgapaaDoor
