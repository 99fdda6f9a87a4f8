/- basculekeep's fieldTells. -/
import Derived.Test.YtdelfiijbkhldaaRing
namespace Go.Proofs.Ytdelfiijbkhldaa
open Go.RowKit
set_option linter.unusedVariables false
set_option linter.unusedSimpArgs false

theorem mul_225 (w : World) : Calls Try.prog 12 #[.agg #[.int .u64 2, .int .u64 0, .int .u64 0, .int .u64 0], .agg #[.int .u64 2, .int .u64 0, .int .u64 0, .int .u64 0], .agg #[.int .u64 5, .int .u64 0, .int .u64 0, .int .u64 0]] w
    fun e w' => e = .returned (.tuple #[.agg #[.int .u64 4, .int .u64 0, .int .u64 0, .int .u64 0], .int .i64 0]) ∧ New w w' := by
  have h := Mul_to 2 2 5 4 (by decide) (by decide) (by decide) (by decide) w
  rw [u_small 2 (by decide), u_small 4 (by decide), u_small 5 (by decide)] at h
  exact h
theorem ftells_any (w : World) : Calls Try.prog 13 #[] w fun e w' => e = .returned (.bool true) ∧ New w w' := by
  go_enter Try.func13, Try.ntmps13
  go_wp2_with fail
  refine (mul_225 _).mono ?_
  rintro e w1 ⟨rfl, hb⟩
  have N := hb
  go_wp2
  go_ret
  exact ⟨rfl, by (repeat' (first | with_reducible exact new_refl _ | with_reducible assumption | with_reducible refine new_drewN ?_ _ | with_reducible refine new_drew ?_ | with_reducible refine new_alloc ?_ _ | with_reducible refine new_set ?_ ?_ _ | with_reducible refine new_freeze ?_ ?_ _ | with_reducible refine new_trans ?_ (by assumption) | (simp; done) | (simp; omega)))⟩
theorem cmp_m (a m : Nat) (hm : m < M256) (h : a < m) (w : World) : Calls Try.prog 14 #[u a, u m] w fun e w' => e = .returned (.int .i64 (-1)) ∧ New w w' := cmp_lt a m hm h w
end Go.Proofs.Ytdelfiijbkhldaa
