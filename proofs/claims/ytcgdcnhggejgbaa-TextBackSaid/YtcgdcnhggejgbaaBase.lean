/- basculekeep's small helpers (picked, number): what they compute. -/
import Derived.Test.YtcgdcnhggejgbaaAdd
namespace Go.Proofs.Ytcgdcnhggejgbaa
open Go.RowKit
set_option linter.unusedVariables false

theorem picked_any (n m : Int) (hm : 0 < m) (hm' : m ≤ 4611686018427387904) (w : World) :
    Calls Try.prog 25 #[.int .i64 n, .int .i64 m] w fun e w' => e = .returned (.int .i64 (n % m)) ∧ w = w' := by
  have h1 := hide (tmod_emod n m hm)
  have h2 := hide (Int.emod_nonneg n (by omega : m ≠ 0))
  have h3 := hide (Int.emod_lt_of_pos n hm)
  go_enter Try.func25, Try.ntmps25
  go_wp2
  · have h : n.tmod m < 0 := by assumption
    go_ret
    refine ⟨ret_int ?_, rfl⟩
    have h1 := h1.out; have h2 := h2.out; have h3 := h3.out
    rw [if_pos h] at h1
    rw [wrap64, ← h1]; omega
  · have h : 0 ≤ n.tmod m := by assumption
    go_ret
    refine ⟨ret_int ?_, rfl⟩
    have h1 := h1.out
    rw [if_neg (by omega)] at h1
    exact h1.symm


/-- the number that a raw thing stands for -/
def num (k a b : Int) : Nat :=
  if k % 5 = 0 then mk4 (a % 1000) 0 0 0
  else if k % 5 = 1 then mk4 (IntKind.u64.wrap a) 0 0 0
  else if k % 5 = 2 then mk4 (IntKind.u64.wrap a) (IntKind.u64.wrap b) 0 0
  else if k % 5 = 3 then mk4 (IntKind.u64.wrap (IntKind.u64.wrap a * 11400714819323198485)) (IntKind.u64.wrap b) (bits BinOp.xor IntKind.u64 (IntKind.u64.wrap a) (IntKind.u64.wrap b)) (IntKind.u64.wrap (IntKind.u64.wrap b * 14029467366897019727))
  else mk4 (bits BinOp.xor IntKind.u64 IntKind.u64.max (IntKind.u64.wrap a)) (bits BinOp.xor IntKind.u64 IntKind.u64.max (IntKind.u64.wrap b)) 18446744073709551615 18446744073709551615

theorem thousand_bd (a : Int) : 0 ≤ a % 1000 ∧ a % 1000 < 18446744073709551616 := by omega

theorem num_lt (k a b : Int) : num k a b < M256 := by
  have z : (0 : Int) ≤ 0 ∧ (0 : Int) < 18446744073709551616 := by decide
  have m : (0 : Int) ≤ 18446744073709551615 ∧ (18446744073709551615 : Int) < 18446744073709551616 := by decide
  unfold num
  split
  · exact mk4_lt (thousand_bd a) z z z
  split
  · exact mk4_lt (wrapu_bd a) z z z
  split
  · exact mk4_lt (wrapu_bd a) (wrapu_bd b) z z
  split
  · exact mk4_lt (wrapu_bd _) (wrapu_bd b) (bitsu_bd _ _ _) (wrapu_bd _)
  · exact mk4_lt (bitsu_bd _ _ _) (bitsu_bd _ _ _) m m

theorem number_any (k a b : Int) (s : ByteArray) (w : World) :
    Calls Try.prog 16 #[.agg #[.int .i64 k, .int .i64 a, .int .i64 b, .string s]] w fun e w' => e = .returned (u (num k a b)) ∧ New w w' := by
  have z : (0 : Int) ≤ 0 ∧ (0 : Int) < 18446744073709551616 := by decide
  have m : (0 : Int) ≤ 18446744073709551615 ∧ (18446744073709551615 : Int) < 18446744073709551616 := by decide
  have hk : k % 5 = 0 ∨ k % 5 = 1 ∨ k % 5 = 2 ∨ k % 5 = 3 ∨ k % 5 = 4 := by omega
  rcases hk with hk | hk | hk | hk | hk
  · have e := hide (show Value.agg #[.int .u64 (a % 1000), .int .u64 (0), .int .u64 (0), .int .u64 (0)] = u (num k a b) by unfold num; rw [if_pos hk]; exact u_mk4 (thousand_bd a) (z) (z) (z))
    clear z m
    go_enter Try.func16, Try.ntmps16
    go_wp2
    go_quiet (fail)
    go_wp2_with (go_at_call 25; refine (picked_any _ _ (by omega) (by omega) _).mono ?_; rintro e w' ⟨rfl, rfl⟩)
    all_goals refine bodyPost_ret (v := Value.agg #[.int .u64 (a % 1000), .int .u64 (0), .int .u64 (0), .int .u64 (0)]) (by simp [results, Try.results16, go_sem]) rfl ⟨by rw [e.out], ?_⟩
    all_goals (repeat' (first | with_reducible exact new_refl _ | with_reducible assumption | with_reducible refine new_drewN ?_ _ | with_reducible refine new_drew ?_ | with_reducible refine new_alloc ?_ _ | with_reducible refine new_set ?_ ?_ _ | with_reducible refine new_freeze ?_ ?_ _ | with_reducible refine new_trans ?_ (by assumption) | (simp; done) | (simp; omega)))
  · have e := hide (show Value.agg #[.int .u64 (IntKind.u64.wrap a), .int .u64 (0), .int .u64 (0), .int .u64 (0)] = u (num k a b) by unfold num; rw [if_neg (by omega)]; rw [if_pos hk]; exact u_mk4 (wrapu_bd a) (z) (z) (z))
    clear z m
    go_enter Try.func16, Try.ntmps16
    go_wp2
    go_quiet (fail)
    go_wp2_with (go_at_call 25; refine (picked_any _ _ (by omega) (by omega) _).mono ?_; rintro e w' ⟨rfl, rfl⟩)
    all_goals refine bodyPost_ret (v := Value.agg #[.int .u64 (IntKind.u64.wrap a), .int .u64 (0), .int .u64 (0), .int .u64 (0)]) (by simp [results, Try.results16, go_sem]) rfl ⟨by rw [e.out], ?_⟩
    all_goals (repeat' (first | with_reducible exact new_refl _ | with_reducible assumption | with_reducible refine new_drewN ?_ _ | with_reducible refine new_drew ?_ | with_reducible refine new_alloc ?_ _ | with_reducible refine new_set ?_ ?_ _ | with_reducible refine new_freeze ?_ ?_ _ | with_reducible refine new_trans ?_ (by assumption) | (simp; done) | (simp; omega)))
  · have e := hide (show Value.agg #[.int .u64 (IntKind.u64.wrap a), .int .u64 (IntKind.u64.wrap b), .int .u64 (0), .int .u64 (0)] = u (num k a b) by unfold num; rw [if_neg (by omega)]; rw [if_neg (by omega)]; rw [if_pos hk]; exact u_mk4 (wrapu_bd a) (wrapu_bd b) (z) (z))
    clear z m
    go_enter Try.func16, Try.ntmps16
    go_wp2
    go_quiet (fail)
    go_wp2_with (go_at_call 25; refine (picked_any _ _ (by omega) (by omega) _).mono ?_; rintro e w' ⟨rfl, rfl⟩)
    all_goals refine bodyPost_ret (v := Value.agg #[.int .u64 (IntKind.u64.wrap a), .int .u64 (IntKind.u64.wrap b), .int .u64 (0), .int .u64 (0)]) (by simp [results, Try.results16, go_sem]) rfl ⟨by rw [e.out], ?_⟩
    all_goals (repeat' (first | with_reducible exact new_refl _ | with_reducible assumption | with_reducible refine new_drewN ?_ _ | with_reducible refine new_drew ?_ | with_reducible refine new_alloc ?_ _ | with_reducible refine new_set ?_ ?_ _ | with_reducible refine new_freeze ?_ ?_ _ | with_reducible refine new_trans ?_ (by assumption) | (simp; done) | (simp; omega)))
  · have e := hide (show Value.agg #[.int .u64 (IntKind.u64.wrap (IntKind.u64.wrap a * 11400714819323198485)), .int .u64 (IntKind.u64.wrap b), .int .u64 (bits BinOp.xor IntKind.u64 (IntKind.u64.wrap a) (IntKind.u64.wrap b)), .int .u64 (IntKind.u64.wrap (IntKind.u64.wrap b * 14029467366897019727))] = u (num k a b) by unfold num; rw [if_neg (by omega)]; rw [if_neg (by omega)]; rw [if_neg (by omega)]; rw [if_pos hk]; exact u_mk4 (wrapu_bd _) (wrapu_bd b) (bitsu_bd _ _ _) (wrapu_bd _))
    clear z m
    go_enter Try.func16, Try.ntmps16
    go_wp2
    go_quiet (fail)
    go_wp2_with (go_at_call 25; refine (picked_any _ _ (by omega) (by omega) _).mono ?_; rintro e w' ⟨rfl, rfl⟩)
    all_goals refine bodyPost_ret (v := Value.agg #[.int .u64 (IntKind.u64.wrap (IntKind.u64.wrap a * 11400714819323198485)), .int .u64 (IntKind.u64.wrap b), .int .u64 (bits BinOp.xor IntKind.u64 (IntKind.u64.wrap a) (IntKind.u64.wrap b)), .int .u64 (IntKind.u64.wrap (IntKind.u64.wrap b * 14029467366897019727))]) (by simp [results, Try.results16, go_sem]) rfl ⟨by rw [e.out], ?_⟩
    all_goals (repeat' (first | with_reducible exact new_refl _ | with_reducible assumption | with_reducible refine new_drewN ?_ _ | with_reducible refine new_drew ?_ | with_reducible refine new_alloc ?_ _ | with_reducible refine new_set ?_ ?_ _ | with_reducible refine new_freeze ?_ ?_ _ | with_reducible refine new_trans ?_ (by assumption) | (simp; done) | (simp; omega)))
  · have e := hide (show Value.agg #[.int .u64 (bits BinOp.xor IntKind.u64 IntKind.u64.max (IntKind.u64.wrap a)), .int .u64 (bits BinOp.xor IntKind.u64 IntKind.u64.max (IntKind.u64.wrap b)), .int .u64 (18446744073709551615), .int .u64 (18446744073709551615)] = u (num k a b) by unfold num; rw [if_neg (by omega)]; rw [if_neg (by omega)]; rw [if_neg (by omega)]; rw [if_neg (by omega)]; exact u_mk4 (bitsu_bd _ _ _) (bitsu_bd _ _ _) (m) (m))
    clear z m
    go_enter Try.func16, Try.ntmps16
    go_wp2
    go_quiet (fail)
    go_wp2_with (go_at_call 25; refine (picked_any _ _ (by omega) (by omega) _).mono ?_; rintro e w' ⟨rfl, rfl⟩)
    all_goals refine bodyPost_ret (v := Value.agg #[.int .u64 (bits BinOp.xor IntKind.u64 IntKind.u64.max (IntKind.u64.wrap a)), .int .u64 (bits BinOp.xor IntKind.u64 IntKind.u64.max (IntKind.u64.wrap b)), .int .u64 (18446744073709551615), .int .u64 (18446744073709551615)]) (by simp [results, Try.results16, go_sem]) rfl ⟨by rw [e.out], ?_⟩
    all_goals (repeat' (first | with_reducible exact new_refl _ | with_reducible assumption | with_reducible refine new_drewN ?_ _ | with_reducible refine new_drew ?_ | with_reducible refine new_alloc ?_ _ | with_reducible refine new_set ?_ ?_ _ | with_reducible refine new_freeze ?_ ?_ _ | with_reducible refine new_trans ?_ (by assumption) | (simp; done) | (simp; omega)))

end Go.Proofs.Ytcgdcnhggejgbaa
