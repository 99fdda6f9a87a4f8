/- Bytes name no variable. No conditions. -/
import Derived.Test.YtbpaimfnfigjpaaDoorBy32D
namespace Go.Proofs.YtbpaimfnfigjpaaDoor
open Go.RowKit Go.Lib
set_option linter.unusedVariables false

theorem bs_bels (n : Nat) (l : List UInt8) : D.bels n (bs l) = true := by
  induction l with
  | nil => rfl
  | cons a l ih => exact ih
theorem bs_bel (n : Nat) (l : List UInt8) : D.bel n (.agg (bs l)) = true := bs_bels n l
theorem bs_idx (l : List UInt8) (k : Nat) (c : UInt8) (h : l[k]? = some c) : cut ⟨false, 1, [.int .u8 0]⟩ (((k : Nat) : Int).toNat * 1) (bs l) = some (.int .u8 (c.toNat : Int)) := by
  rw [Int.toNat_natCast, Nat.mul_one]
  unfold cut
  simp only [cond_false]
  rw [bs_get l k c h]
end Go.Proofs.YtbpaimfnfigjpaaDoor
