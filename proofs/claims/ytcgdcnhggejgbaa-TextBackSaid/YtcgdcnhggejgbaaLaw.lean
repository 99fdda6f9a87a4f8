/- What the walks of the laws over 256-bit numbers share: the cells of a raw thing and of a number, their sizes. No conditions. -/
import Derived.Test.YtcgdcnhggejgbaaBase
import Derived.Test.YtcgdcnhggejgbaaPure
namespace Go.Proofs.Ytcgdcnhggejgbaa
open Go.RowKit
set_option linter.unusedVariables false
set_option maxRecDepth 100000

@[reducible] def raw (k a b : Int) (s : ByteArray) : Array Value := #[.int .i64 k, .int .i64 a, .int .i64 b, .string s]
theorem zero_u (w : World) : (zeroValue 26).run Try.prog w = .ok (.agg z4) w := by kernel_rfl
theorem size_u : (Try.prog.info? 26).map (·.size) = some 4 := by kernel_rfl
theorem size_raw : (Try.prog.info? 23).map (·.size) = some 4 := by kernel_rfl

end Go.Proofs.Ytcgdcnhggejgbaa
