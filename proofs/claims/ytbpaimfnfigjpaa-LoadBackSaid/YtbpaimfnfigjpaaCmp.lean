/- wide.Cmp: what it computes. -/
import Derived.Test.YtbpaimfnfigjpaaGa
namespace Go.Proofs.Ytbpaimfnfigjpaa
open Go.RowKit
set_option linter.unusedVariables false

def cmpI (a b : Nat) : Int := if a < b then -1 else if b < a then 1 else 0

def cmpL (a0 a1 a2 a3 b0 b1 b2 b3 : Int) : Int :=
  if a3 < b3 then -1 else if b3 < a3 then 1 else if a2 < b2 then -1 else if b2 < a2 then 1 else if a1 < b1 then -1 else if b1 < a1 then 1 else if a0 < b0 then -1 else if b0 < a0 then 1 else 0

theorem cmpL_eq (a b : Nat) (a0 a1 a2 a3 b0 b1 b2 b3 : Int) (va : (a : Int) = a0 + 18446744073709551616 * a1 + 340282366920938463463374607431768211456 * a2 + 6277101735386680763835789423207666416102355444464034512896 * a3)
    (vb : (b : Int) = b0 + 18446744073709551616 * b1 + 340282366920938463463374607431768211456 * b2 + 6277101735386680763835789423207666416102355444464034512896 * b3)
    (ha0 : 0 ≤ a0 ∧ a0 < 18446744073709551616) (ha1 : 0 ≤ a1 ∧ a1 < 18446744073709551616) (ha2 : 0 ≤ a2 ∧ a2 < 18446744073709551616)
    (hb0 : 0 ≤ b0 ∧ b0 < 18446744073709551616) (hb1 : 0 ≤ b1 ∧ b1 < 18446744073709551616) (hb2 : 0 ≤ b2 ∧ b2 < 18446744073709551616) :
    cmpL a0 a1 a2 a3 b0 b1 b2 b3 = cmpI a b := by
  unfold cmpL cmpI
  split
  · rw [if_pos (by omega)]
  split
  · rw [if_neg (by omega), if_pos (by omega)]
  obtain rfl : a3 = b3 := by omega
  split
  · rw [if_pos (by omega)]
  split
  · rw [if_neg (by omega), if_pos (by omega)]
  obtain rfl : a2 = b2 := by omega
  split
  · rw [if_pos (by omega)]
  split
  · rw [if_neg (by omega), if_pos (by omega)]
  obtain rfl : a1 = b1 := by omega
  split
  · rw [if_pos (by omega)]
  split
  · rw [if_neg (by omega), if_pos (by omega)]
  · rw [if_neg (by omega), if_neg (by omega)]

theorem cmp_walk (a0 a1 a2 a3 b0 b1 b2 b3 : Int) (w : World) :
    Calls Try.prog 31 #[.agg #[.int .u64 a0, .int .u64 a1, .int .u64 a2, .int .u64 a3], .agg #[.int .u64 b0, .int .u64 b1, .int .u64 b2, .int .u64 b3]] w fun e w' => e = .returned (.int .i64 (cmpL a0 a1 a2 a3 b0 b1 b2 b3)) ∧ New w w' := by
  go_enter Try.func31, Try.ntmps31
  go_wp2
  refine wp_loop_rounds 5 ?_
  rw [rounds_succ]; go_wp2; go_quiet (fail); go_wp2
  · (go_ret; exact ⟨ret_int (by unfold cmpL; repeat (first | rw [if_pos (by omega)] | rw [if_neg (by omega)])), by (repeat' (first | with_reducible exact new_refl _ | with_reducible assumption | with_reducible refine new_drewN ?_ _ | with_reducible refine new_drew ?_ | with_reducible refine new_alloc ?_ _ | with_reducible refine new_set ?_ ?_ _ | with_reducible refine new_freeze ?_ ?_ _ | with_reducible refine new_trans ?_ (by assumption) | (simp; done) | (simp; omega)))⟩)
  go_quiet (fail); go_wp2
  · (go_ret; exact ⟨ret_int (by unfold cmpL; repeat (first | rw [if_pos (by omega)] | rw [if_neg (by omega)])), by (repeat' (first | with_reducible exact new_refl _ | with_reducible assumption | with_reducible refine new_drewN ?_ _ | with_reducible refine new_drew ?_ | with_reducible refine new_alloc ?_ _ | with_reducible refine new_set ?_ ?_ _ | with_reducible refine new_freeze ?_ ?_ _ | with_reducible refine new_trans ?_ (by assumption) | (simp; done) | (simp; omega)))⟩)
  rw [rounds_succ]; go_wp2; go_quiet (fail); go_wp2
  · (go_ret; exact ⟨ret_int (by unfold cmpL; repeat (first | rw [if_pos (by omega)] | rw [if_neg (by omega)])), by (repeat' (first | with_reducible exact new_refl _ | with_reducible assumption | with_reducible refine new_drewN ?_ _ | with_reducible refine new_drew ?_ | with_reducible refine new_alloc ?_ _ | with_reducible refine new_set ?_ ?_ _ | with_reducible refine new_freeze ?_ ?_ _ | with_reducible refine new_trans ?_ (by assumption) | (simp; done) | (simp; omega)))⟩)
  go_quiet (fail); go_wp2
  · (go_ret; exact ⟨ret_int (by unfold cmpL; repeat (first | rw [if_pos (by omega)] | rw [if_neg (by omega)])), by (repeat' (first | with_reducible exact new_refl _ | with_reducible assumption | with_reducible refine new_drewN ?_ _ | with_reducible refine new_drew ?_ | with_reducible refine new_alloc ?_ _ | with_reducible refine new_set ?_ ?_ _ | with_reducible refine new_freeze ?_ ?_ _ | with_reducible refine new_trans ?_ (by assumption) | (simp; done) | (simp; omega)))⟩)
  rw [rounds_succ]; go_wp2; go_quiet (fail); go_wp2
  · (go_ret; exact ⟨ret_int (by unfold cmpL; repeat (first | rw [if_pos (by omega)] | rw [if_neg (by omega)])), by (repeat' (first | with_reducible exact new_refl _ | with_reducible assumption | with_reducible refine new_drewN ?_ _ | with_reducible refine new_drew ?_ | with_reducible refine new_alloc ?_ _ | with_reducible refine new_set ?_ ?_ _ | with_reducible refine new_freeze ?_ ?_ _ | with_reducible refine new_trans ?_ (by assumption) | (simp; done) | (simp; omega)))⟩)
  go_quiet (fail); go_wp2
  · (go_ret; exact ⟨ret_int (by unfold cmpL; repeat (first | rw [if_pos (by omega)] | rw [if_neg (by omega)])), by (repeat' (first | with_reducible exact new_refl _ | with_reducible assumption | with_reducible refine new_drewN ?_ _ | with_reducible refine new_drew ?_ | with_reducible refine new_alloc ?_ _ | with_reducible refine new_set ?_ ?_ _ | with_reducible refine new_freeze ?_ ?_ _ | with_reducible refine new_trans ?_ (by assumption) | (simp; done) | (simp; omega)))⟩)
  rw [rounds_succ]; go_wp2; go_quiet (fail); go_wp2
  · (go_ret; exact ⟨ret_int (by unfold cmpL; repeat (first | rw [if_pos (by omega)] | rw [if_neg (by omega)])), by (repeat' (first | with_reducible exact new_refl _ | with_reducible assumption | with_reducible refine new_drewN ?_ _ | with_reducible refine new_drew ?_ | with_reducible refine new_alloc ?_ _ | with_reducible refine new_set ?_ ?_ _ | with_reducible refine new_freeze ?_ ?_ _ | with_reducible refine new_trans ?_ (by assumption) | (simp; done) | (simp; omega)))⟩)
  go_quiet (fail); go_wp2
  · (go_ret; exact ⟨ret_int (by unfold cmpL; repeat (first | rw [if_pos (by omega)] | rw [if_neg (by omega)])), by (repeat' (first | with_reducible exact new_refl _ | with_reducible assumption | with_reducible refine new_drewN ?_ _ | with_reducible refine new_drew ?_ | with_reducible refine new_alloc ?_ _ | with_reducible refine new_set ?_ ?_ _ | with_reducible refine new_freeze ?_ ?_ _ | with_reducible refine new_trans ?_ (by assumption) | (simp; done) | (simp; omega)))⟩)
  rw [rounds_succ]; go_wp2
  (go_ret; exact ⟨ret_int (by unfold cmpL; repeat (first | rw [if_pos (by omega)] | rw [if_neg (by omega)])), by (repeat' (first | with_reducible exact new_refl _ | with_reducible assumption | with_reducible refine new_drewN ?_ _ | with_reducible refine new_drew ?_ | with_reducible refine new_alloc ?_ _ | with_reducible refine new_set ?_ ?_ _ | with_reducible refine new_freeze ?_ ?_ _ | with_reducible refine new_trans ?_ (by assumption) | (simp; done) | (simp; omega)))⟩)

theorem cmp_any (a b : Nat) (ha : a < M256) (hb : b < M256) (w : World) :
    Calls Try.prog 31 #[u a, u b] w fun e w' => e = .returned (.int .i64 (cmpI a b)) ∧ New w w' := by
  have h := cmp_walk (lim a 0) (lim a 1) (lim a 2) (lim a 3) (lim b 0) (lim b 1) (lim b 2) (lim b 3) w
  rw [cmpL_eq a b _ _ _ _ _ _ _ _ (val_lim a ha) (val_lim b hb) (lim_bd a 0) (lim_bd a 1) (lim_bd a 2) (lim_bd b 0) (lim_bd b 1) (lim_bd b 2)] at h
  exact h

theorem cmp_is (a b : Nat) (c : Int) (ha : a < M256) (hb : b < M256) (hc : cmpI a b = c) (w : World) :
    Calls Try.prog 31 #[u a, u b] w fun e w' => e = .returned (.int .i64 c) ∧ New w w' := hc ▸ cmp_any a b ha hb w

theorem cmp_lit (c : Int) (a b : Nat) (ha : a < 18446744073709551616) (hb : b < 18446744073709551616) (hc : cmpI a b = c) (w : World) :
    Calls Try.prog 31 #[.agg #[.int .u64 (a : Int), .int .u64 0, .int .u64 0, .int .u64 0], .agg #[.int .u64 (b : Int), .int .u64 0, .int .u64 0, .int .u64 0]] w fun e w' => e = .returned (.int .i64 c) ∧ New w w' := by
  have h := cmp_is a b c (by unfold M256; omega) (by unfold M256; omega) hc w
  rw [u_small a ha, u_small b hb] at h
  exact h

end Go.Proofs.Ytbpaimfnfigjpaa
