/- What the functions of wide make of numbers, as contracts over data. Conditions: the numbers are below 2 to the 256. -/
import Derived.Test.YtcgdcnhggejgbaaDNum
import Derived.Test.YtcgdcnhggejgbaaAdd
import Derived.Test.YtcgdcnhggejgbaaCmp
namespace Go.Proofs.Ytcgdcnhggejgbaa
open Go.RowKit
set_option linter.unusedVariables false
set_option maxRecDepth 100000
theorem p_wadd (a b s : Nat) (o : Bool) (ha : a < M256) (hb : b < M256) (hs : (a + b) % M256 = s) (ho : decide (M256 ≤ a + b) = o) : Pur Try.prog 17 [U a, U b] (.tup [U s, .bool o]) :=
  pur_of_calls (vs := [u a, u b]) rfl rfl rfl (add_is a b s o ha hb hs ho)
theorem p_wsub (a b s : Nat) (o : Bool) (ha : a < M256) (hb : b < M256) (hs : (a + M256 - b) % M256 = s) (ho : decide (a < b) = o) : Pur Try.prog 19 [U a, U b] (.tup [U s, .bool o]) :=
  pur_of_calls (vs := [u a, u b]) rfl rfl rfl (sub_is a b s o ha hb hs ho)
theorem p_cmp (a b : Nat) (c : Int) (ha : a < M256) (hb : b < M256) (hc : cmpI a b = c) : Pur Try.prog 20 [U a, U b] (.int .i64 c) :=
  pur_of_calls (vs := [u a, u b]) rfl rfl rfl (cmp_is a b c ha hb hc)
end Go.Proofs.Ytcgdcnhggejgbaa
