/- basculekeep.wideTells: it is true. -/
import Derived.Test.YtcgdcnhggejgbaaCmp
import Derived.Test.YtcgdcnhggejgbaaEq
import Derived.Test.YtcgdcnhggejgbaaBase
namespace Go.Proofs.Ytcgdcnhggejgbaa
open Go.RowKit
set_option linter.unusedVariables false

theorem one_one (w : World) : Calls Try.prog 17 #[.agg #[.int .u64 1, .int .u64 0, .int .u64 0, .int .u64 0], .agg #[.int .u64 1, .int .u64 0, .int .u64 0, .int .u64 0]] w fun e w' =>
    e = .returned (.tuple #[.agg #[.int .u64 2, .int .u64 0, .int .u64 0, .int .u64 0], .bool false]) ∧ New w w' := by
  have h := add_any 1 1 (by decide) (by decide) w
  rw [u_one, show (1 + 1) % M256 = 2 from by decide, u_small 2 (by decide)] at h
  exact h

theorem tells_any (w : World) : Calls Try.prog 18 #[] w fun e w' => e = .returned (.bool true) ∧ New w w' := by
  go_enter Try.func18, Try.ntmps18
  go_wp2_with (go_at_call 17; refine (one_one _).mono ?_; rintro e w1 ⟨rfl, hb⟩)
  go_ret
  exact ⟨rfl, by (repeat' (first | with_reducible exact new_refl _ | with_reducible assumption | with_reducible refine new_drewN ?_ _ | with_reducible refine new_drew ?_ | with_reducible refine new_alloc ?_ _ | with_reducible refine new_set ?_ ?_ _ | with_reducible refine new_freeze ?_ ?_ _ | with_reducible refine new_trans ?_ (by assumption) | (simp; done) | (simp; omega)))⟩

end Go.Proofs.Ytcgdcnhggejgbaa
