/- basculekeep's small helpers (picked, number): what they compute. -/
import Derived.Test.YtpdhbddkcnffbaaAdd
namespace Go.Proofs.Ytpdhbddkcnffbaa
open Go.RowKit
set_option linter.unusedVariables false

theorem picked_any (n m : Int) (hm : 0 < m) (hm' : m ≤ 4611686018427387904) (w : World) :
    Calls Try.prog 6 #[.int .i64 n, .int .i64 m] w fun e w' => e = .returned (.int .i64 (n % m)) ∧ w = w' := by
  have h1 := hide (tmod_emod n m hm)
  have h2 := hide (Int.emod_nonneg n (by omega : m ≠ 0))
  have h3 := hide (Int.emod_lt_of_pos n hm)
  go_enter Try.func6, Try.ntmps6
  go_wp2
  · have h : n.tmod m < 0 := by assumption
    go_ret
    refine ⟨ret_int ?_, rfl⟩
    have h1 := h1.out; have h2 := h2.out; have h3 := h3.out
    rw [if_pos h] at h1
    rw [wrap64, ← h1]; omega
  · have h : 0 ≤ n.tmod m := by assumption
    go_ret
    refine ⟨ret_int ?_, rfl⟩
    have h1 := h1.out
    rw [if_neg (by omega)] at h1
    exact h1.symm


/-- the number that a raw thing stands for -/
def num (k a b : Int) : Nat :=
  if k % 5 = 0 then mk4 (a % 1000) 0 0 0
  else if k % 5 = 1 then mk4 (IntKind.u64.wrap a) 0 0 0
  else if k % 5 = 2 then mk4 (IntKind.u64.wrap a) (IntKind.u64.wrap b) 0 0
  else if k % 5 = 3 then mk4 (IntKind.u64.wrap (IntKind.u64.wrap a * 11400714819323198485)) (IntKind.u64.wrap b) (bits BinOp.xor IntKind.u64 (IntKind.u64.wrap a) (IntKind.u64.wrap b)) (IntKind.u64.wrap (IntKind.u64.wrap b * 14029467366897019727))
  else mk4 (bits BinOp.xor IntKind.u64 IntKind.u64.max (IntKind.u64.wrap a)) (bits BinOp.xor IntKind.u64 IntKind.u64.max (IntKind.u64.wrap b)) 18446744073709551615 18446744073709551615

theorem thousand_bd (a : Int) : 0 ≤ a % 1000 ∧ a % 1000 < 18446744073709551616 := by omega

theorem num_lt (k a b : Int) : num k a b < M256 := by
  have z : (0 : Int) ≤ 0 ∧ (0 : Int) < 18446744073709551616 := by decide
  have m : (0 : Int) ≤ 18446744073709551615 ∧ (18446744073709551615 : Int) < 18446744073709551616 := by decide
  unfold num
  split
  · exact mk4_lt (thousand_bd a) z z z
  split
  · exact mk4_lt (wrapu_bd a) z z z
  split
  · exact mk4_lt (wrapu_bd a) (wrapu_bd b) z z
  split
  · exact mk4_lt (wrapu_bd _) (wrapu_bd b) (bitsu_bd _ _ _) (wrapu_bd _)
  · exact mk4_lt (bitsu_bd _ _ _) (bitsu_bd _ _ _) m m

end Go.Proofs.Ytpdhbddkcnffbaa
