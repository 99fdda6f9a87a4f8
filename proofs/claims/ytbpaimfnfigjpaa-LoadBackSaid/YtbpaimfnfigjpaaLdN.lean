/- wide.Cmp, as a contract over data. Conditions: the numbers are below 2 to the 256. -/
import Derived.Test.YtbpaimfnfigjpaaDNum
import Derived.Test.YtbpaimfnfigjpaaCmp
namespace Go.Proofs.Ytbpaimfnfigjpaa
open Go.RowKit
set_option linter.unusedVariables false
set_option maxRecDepth 100000
theorem p_cmp (a b : Nat) (c : Int) (ha : a < M256) (hb : b < M256) (hc : cmpI a b = c) : Pur Try.prog 31 [U a, U b] (.int .i64 c) :=
  pur_of_calls (vs := [u a, u b]) rfl rfl rfl (cmp_is a b c ha hb hc)
end Go.Proofs.Ytbpaimfnfigjpaa
