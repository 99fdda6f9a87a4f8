/- basculekeep's picked: what it computes. (For seats without the 256-bit numbers.) -/
import Derived.Test.YtnlacdclnhoghaaKit
namespace Go.Proofs.Ytnlacdclnhoghaa
open Go.RowKit
set_option linter.unusedVariables false

theorem picked_any (n m : Int) (hm : 0 < m) (hm' : m ≤ 4611686018427387904) (w : World) :
    Calls Try.prog 10 #[.int .i64 n, .int .i64 m] w fun e w' => e = .returned (.int .i64 (n % m)) ∧ w = w' := by
  have h1 := hide (tmod_emod n m hm)
  have h2 := hide (Int.emod_nonneg n (by omega : m ≠ 0))
  have h3 := hide (Int.emod_lt_of_pos n hm)
  go_enter Try.func10, Try.ntmps10
  go_wp2
  · have h : n.tmod m < 0 := by assumption
    go_ret
    refine ⟨ret_int ?_, rfl⟩
    have h1 := h1.out; have h2 := h2.out; have h3 := h3.out
    rw [if_pos h] at h1
    rw [wrap64, ← h1]; omega
  · have h : 0 ≤ n.tmod m := by assumption
    go_ret
    refine ⟨ret_int ?_, rfl⟩
    have h1 := h1.out
    rw [if_neg (by omega)] at h1
    exact h1.symm
theorem picked_q (n m : Int) (hm : 0 < m) (hm' : m ≤ 4611686018427387904) (w : World) :
    Calls Try.prog 10 #[.int .i64 n, .int .i64 m] w fun e w' => e = .returned (.int .i64 (n % m)) ∧ w' = w := (picked_any n m hm hm' w).mono fun _ _ h => ⟨h.1, h.2.symm⟩

end Go.Proofs.Ytnlacdclnhoghaa
