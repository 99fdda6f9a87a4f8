/- Regions that draw their order: more kinds of operations. Of any program. No conditions. -/
import Derived.Test.YtpdhbddkcnffbaaDoorGa
import Derived.Shelf.Spec.BitsCarry
import Derived.WalkSmall
import Derived.Shelf.Strconv.Itoa0
import Derived.Lib.BitFns
import Derived.RegionTactic
import Derived.Test.YtpdhbddkcnffbaaDoorEq
namespace Go.Proofs.YtpdhbddkcnffbaaDoor
open Go.RowKit
set_option linter.unusedVariables false
set_option linter.unusedVariables false

theorem add64 (x y c : Int) (hx : 0 ≤ x) (hy : 0 ≤ y) (hc0 : 0 ≤ c) (hc : c ≤ 1) (w : World) : (callFunc 62 #[.int .u64 x, .int .u64 y, .int .u64 c]).run Tryd.prog w =
    .ok (.value (.tuple #[.int .u64 ((x + y + c) % 18446744073709551616), .int .u64 ((x + y + c) / 18446744073709551616)])) w := by
  rw [run_callFunc_extern Tryd.func62 (by kernel_rfl) (by kernel_rfl) (by kernel_rfl) (e := add64Entry) (by kernel_rfl), run_add64 x y c (by omega) (by omega) (by omega) (by omega)]
  rfl

theorem add64' (x y c : Int) (hx : 0 ≤ x) (hy : 0 ≤ y) (hx' : x < 18446744073709551616) (hy' : y < 18446744073709551616) (hc0 : 0 ≤ c) (hc : c ≤ 1) : ∃ s d : Int,
    (∀ w, (callFunc 62 #[.int .u64 x, .int .u64 y, .int .u64 c]).run Tryd.prog w = .ok (.value (.tuple #[.int .u64 s, .int .u64 d])) w) ∧ 0 ≤ s ∧ s < 18446744073709551616 ∧ 0 ≤ d ∧ d ≤ 1 ∧ x + y + c = s + 18446744073709551616 * d :=
  ⟨_, _, add64 x y c hx hy hc0 hc, by omega, by omega, by omega, by omega, by omega⟩

theorem add_walk (a0 a1 a2 a3 b0 b1 b2 b3 s0 s1 s2 s3 c1 c2 c3 c4 : Int)
    (A0 : ∀ w, (callFunc 62 #[.int .u64 a0, .int .u64 b0, .int .u64 0]).run Tryd.prog w = .ok (.value (.tuple #[.int .u64 s0, .int .u64 c1])) w)
    (A1 : ∀ w, (callFunc 62 #[.int .u64 a1, .int .u64 b1, .int .u64 c1]).run Tryd.prog w = .ok (.value (.tuple #[.int .u64 s1, .int .u64 c2])) w)
    (A2 : ∀ w, (callFunc 62 #[.int .u64 a2, .int .u64 b2, .int .u64 c2]).run Tryd.prog w = .ok (.value (.tuple #[.int .u64 s2, .int .u64 c3])) w)
    (A3 : ∀ w, (callFunc 62 #[.int .u64 a3, .int .u64 b3, .int .u64 c3]).run Tryd.prog w = .ok (.value (.tuple #[.int .u64 s3, .int .u64 c4])) w) (w : World) :
    Calls Tryd.prog 39 #[.agg #[.int .u64 a0, .int .u64 a1, .int .u64 a2, .int .u64 a3], .agg #[.int .u64 b0, .int .u64 b1, .int .u64 b2, .int .u64 b3]] w fun e w' => e = .returned (.tuple #[.agg #[.int .u64 s0, .int .u64 s1, .int .u64 s2, .int .u64 s3], .bool (c4 == 1)]) ∧ New w w' := by
  go_enter Tryd.func39, Tryd.ntmps39
  go_wp2
  refine wp_loop_rounds 5 ?_
  rw [rounds_succ]; go_wp2; go_region; go_wp2
  rw [rounds_succ]; go_wp2; go_region; go_wp2
  rw [rounds_succ]; go_wp2; go_region; go_wp2
  rw [rounds_succ]; go_wp2; go_region; go_wp2
  rw [rounds_succ]; go_wp2
  exact bodyPost_ret (v := .tuple #[.agg #[.int .u64 s0, .int .u64 s1, .int .u64 s2, .int .u64 s3], .bool (c4 == 1)]) (by simp [results, Tryd.results39, go_sem]) rfl ⟨rfl, by repeat (first | exact new_refl _ | refine new_drew ?_ | refine new_alloc ?_ _)⟩

theorem add_any (a b : Nat) (ha : a < M256) (hb : b < M256) (w : World) :
    Calls Tryd.prog 39 #[u a, u b] w fun e w' => e = .returned (.tuple #[u ((a + b) % M256), .bool (decide (M256 ≤ a + b))]) ∧ New w w' := by
  rw [u_mod]
  have va := val_lim a ha
  have vb := val_lim b hb
  obtain ⟨a0, a0'⟩ := lim_bd a 0; obtain ⟨a1, a1'⟩ := lim_bd a 1; obtain ⟨a2, a2'⟩ := lim_bd a 2; obtain ⟨a3, a3'⟩ := lim_bd a 3
  obtain ⟨b0, b0'⟩ := lim_bd b 0; obtain ⟨b1, b1'⟩ := lim_bd b 1; obtain ⟨b2, b2'⟩ := lim_bd b 2; obtain ⟨b3, b3'⟩ := lim_bd b 3
  obtain ⟨s0, c1, A0, s0p, s0q, c1p, c1q, h1⟩ := add64' (lim a 0) (lim b 0) 0 a0 b0 a0' b0' (by decide) (by decide)
  obtain ⟨s1, c2, A1, s1p, s1q, c2p, c2q, h2⟩ := add64' (lim a 1) (lim b 1) c1 a1 b1 a1' b1' c1p c1q
  obtain ⟨s2, c3, A2, s2p, s2q, c3p, c3q, h3⟩ := add64' (lim a 2) (lim b 2) c2 a2 b2 a2' b2' c2p c2q
  obtain ⟨s3, c4, A3, s3p, s3q, c4p, c4q, h4⟩ := add64' (lim a 3) (lim b 3) c3 a3 b3 a3' b3' c3p c3q
  have h := add_walk _ _ _ _ _ _ _ _ _ _ _ _ _ _ _ _ A0 A1 A2 A3 w
  have hs := sum_parts _ _ _ _ _ _ _ _ _ _ _ _ _ _ _ _ _ _ va vb h1 h2 h3 h4
  rw [← Int.natCast_add] at hs
  obtain ⟨e0, e1, e2, e3⟩ := lim_of (a + b) s0 s1 s2 s3 c4 s0p s0q s1p s1q s2p s2q s3p s3q hs
  have e4 := top_bit (a + b) s0 s1 s2 s3 c4 s0p s1p s2p s3p s0q s1q s2q s3q c4p c4q hs
  rw [← e0, ← e1, ← e2, ← e3, ← e4] at h
  exact h

theorem sub64' (x y c : Int) (hx : 0 ≤ x) (hy : 0 ≤ y) (hx' : x < 18446744073709551616) (hy' : y < 18446744073709551616) (hc0 : 0 ≤ c) (hc : c ≤ 1) : ∃ s d : Int,
    (∀ w, (callFunc 48 #[.int .u64 x, .int .u64 y, .int .u64 c]).run Tryd.prog w = .ok (.value (.tuple #[.int .u64 s, .int .u64 d])) w) ∧ 0 ≤ s ∧ s < 18446744073709551616 ∧ 0 ≤ d ∧ d ≤ 1 ∧ x - y - c = s - 18446744073709551616 * d := by
  obtain ⟨x, rfl⟩ := Int.eq_ofNat_of_zero_le hx
  obtain ⟨y, rfl⟩ := Int.eq_ofNat_of_zero_le hy
  obtain ⟨c, rfl⟩ := Int.eq_ofNat_of_zero_le hc0
  refine ⟨(((x + 18446744073709551616 - y - c) % 18446744073709551616 : Nat) : Int), ((if x < y + c then 1 else 0 : Nat) : Int), fun w => ?_, by omega, by omega, by omega, by split <;> omega, by split <;> omega⟩
  rw [run_callFunc_extern Tryd.func48 (by kernel_rfl) (by kernel_rfl) (by kernel_rfl) (e := sub64Entry) (by kernel_rfl), run_sub64 x y c (by omega)]
  rfl

theorem sub_walk (a0 a1 a2 a3 b0 b1 b2 b3 s0 s1 s2 s3 c1 c2 c3 c4 : Int)
    (A0 : ∀ w, (callFunc 48 #[.int .u64 a0, .int .u64 b0, .int .u64 0]).run Tryd.prog w = .ok (.value (.tuple #[.int .u64 s0, .int .u64 c1])) w)
    (A1 : ∀ w, (callFunc 48 #[.int .u64 a1, .int .u64 b1, .int .u64 c1]).run Tryd.prog w = .ok (.value (.tuple #[.int .u64 s1, .int .u64 c2])) w)
    (A2 : ∀ w, (callFunc 48 #[.int .u64 a2, .int .u64 b2, .int .u64 c2]).run Tryd.prog w = .ok (.value (.tuple #[.int .u64 s2, .int .u64 c3])) w)
    (A3 : ∀ w, (callFunc 48 #[.int .u64 a3, .int .u64 b3, .int .u64 c3]).run Tryd.prog w = .ok (.value (.tuple #[.int .u64 s3, .int .u64 c4])) w) (w : World) :
    Calls Tryd.prog 22 #[.agg #[.int .u64 a0, .int .u64 a1, .int .u64 a2, .int .u64 a3], .agg #[.int .u64 b0, .int .u64 b1, .int .u64 b2, .int .u64 b3]] w fun e w' => e = .returned (.tuple #[.agg #[.int .u64 s0, .int .u64 s1, .int .u64 s2, .int .u64 s3], .bool (c4 == 1)]) ∧ New w w' := by
  go_enter Tryd.func22, Tryd.ntmps22
  go_wp2
  refine wp_loop_rounds 5 ?_
  rw [rounds_succ]; go_wp2; go_region; go_wp2
  rw [rounds_succ]; go_wp2; go_region; go_wp2
  rw [rounds_succ]; go_wp2; go_region; go_wp2
  rw [rounds_succ]; go_wp2; go_region; go_wp2
  rw [rounds_succ]; go_wp2
  exact bodyPost_ret (v := .tuple #[.agg #[.int .u64 s0, .int .u64 s1, .int .u64 s2, .int .u64 s3], .bool (c4 == 1)]) (by simp [results, Tryd.results22, go_sem]) rfl ⟨rfl, by repeat (first | exact new_refl _ | refine new_drew ?_ | refine new_alloc ?_ _)⟩

theorem sub_any (a b : Nat) (ha : a < M256) (hb : b < M256) (w : World) :
    Calls Tryd.prog 22 #[u a, u b] w fun e w' => e = .returned (.tuple #[u ((a + M256 - b) % M256), .bool (decide (a < b))]) ∧ New w w' := by
  rw [u_mod]
  have va := val_lim a ha
  have vb := val_lim b hb
  obtain ⟨a0, a0'⟩ := lim_bd a 0; obtain ⟨a1, a1'⟩ := lim_bd a 1; obtain ⟨a2, a2'⟩ := lim_bd a 2; obtain ⟨a3, a3'⟩ := lim_bd a 3
  obtain ⟨b0, b0'⟩ := lim_bd b 0; obtain ⟨b1, b1'⟩ := lim_bd b 1; obtain ⟨b2, b2'⟩ := lim_bd b 2; obtain ⟨b3, b3'⟩ := lim_bd b 3
  obtain ⟨s0, c1, A0, s0p, s0q, c1p, c1q, h1⟩ := sub64' (lim a 0) (lim b 0) 0 a0 b0 a0' b0' (by decide) (by decide)
  obtain ⟨s1, c2, A1, s1p, s1q, c2p, c2q, h2⟩ := sub64' (lim a 1) (lim b 1) c1 a1 b1 a1' b1' c1p c1q
  obtain ⟨s2, c3, A2, s2p, s2q, c3p, c3q, h3⟩ := sub64' (lim a 2) (lim b 2) c2 a2 b2 a2' b2' c2p c2q
  obtain ⟨s3, c4, A3, s3p, s3q, c4p, c4q, h4⟩ := sub64' (lim a 3) (lim b 3) c3 a3 b3 a3' b3' c3p c3q
  have h := sub_walk _ _ _ _ _ _ _ _ _ _ _ _ _ _ _ _ A0 A1 A2 A3 w
  have hs := dif_parts _ _ _ _ _ _ _ _ _ _ _ _ _ _ _ _ _ _ va vb h1 h2 h3 h4
  obtain ⟨e0, e1, e2, e3⟩ := lim_of (a + M256 - b) s0 s1 s2 s3 (1 - c4) s0p s0q s1p s1q s2p s2q s3p s3q (dif_of a b s0 s1 s2 s3 c4 hb hs)
  have e4 := low_bit a b s0 s1 s2 s3 c4 s0p s1p s2p s3p s0q s1q s2q s3q c4p c4q hs
  rw [← e0, ← e1, ← e2, ← e3, ← e4] at h
  exact h

theorem add_is (a b s : Nat) (o : Bool) (ha : a < M256) (hb : b < M256) (hs : (a + b) % M256 = s) (ho : decide (M256 ≤ a + b) = o) (w : World) :
    Calls Tryd.prog 39 #[u a, u b] w fun e w' => e = .returned (.tuple #[u s, .bool o]) ∧ New w w' := hs ▸ ho ▸ add_any a b ha hb w

theorem sub_is (a b s : Nat) (o : Bool) (ha : a < M256) (hb : b < M256) (hs : (a + M256 - b) % M256 = s) (ho : decide (a < b) = o) (w : World) :
    Calls Tryd.prog 22 #[u a, u b] w fun e w' => e = .returned (.tuple #[u s, .bool o]) ∧ New w w' := hs ▸ ho ▸ sub_any a b ha hb w

/-- which of two numbers is greater -/
def cmpI (a b : Nat) : Int := if a < b then -1 else if b < a then 1 else 0

end Go.Proofs.YtpdhbddkcnffbaaDoor

namespace Go.Proofs.YtpdhbddkcnffbaaDoor
open Go.RowKit
set_option linter.unusedVariables false
set_option linter.unusedVariables false

def cmpL (a0 a1 a2 a3 b0 b1 b2 b3 : Int) : Int :=
  if a3 < b3 then -1 else if b3 < a3 then 1 else if a2 < b2 then -1 else if b2 < a2 then 1 else if a1 < b1 then -1 else if b1 < a1 then 1 else if a0 < b0 then -1 else if b0 < a0 then 1 else 0

theorem cmpL_eq (a b : Nat) (a0 a1 a2 a3 b0 b1 b2 b3 : Int) (va : (a : Int) = a0 + 18446744073709551616 * a1 + 340282366920938463463374607431768211456 * a2 + 6277101735386680763835789423207666416102355444464034512896 * a3)
    (vb : (b : Int) = b0 + 18446744073709551616 * b1 + 340282366920938463463374607431768211456 * b2 + 6277101735386680763835789423207666416102355444464034512896 * b3)
    (ha0 : 0 ≤ a0 ∧ a0 < 18446744073709551616) (ha1 : 0 ≤ a1 ∧ a1 < 18446744073709551616) (ha2 : 0 ≤ a2 ∧ a2 < 18446744073709551616)
    (hb0 : 0 ≤ b0 ∧ b0 < 18446744073709551616) (hb1 : 0 ≤ b1 ∧ b1 < 18446744073709551616) (hb2 : 0 ≤ b2 ∧ b2 < 18446744073709551616) :
    cmpL a0 a1 a2 a3 b0 b1 b2 b3 = cmpI a b := by
  unfold cmpL cmpI
  split
  · rw [if_pos (by omega)]
  split
  · rw [if_neg (by omega), if_pos (by omega)]
  obtain rfl : a3 = b3 := by omega
  split
  · rw [if_pos (by omega)]
  split
  · rw [if_neg (by omega), if_pos (by omega)]
  obtain rfl : a2 = b2 := by omega
  split
  · rw [if_pos (by omega)]
  split
  · rw [if_neg (by omega), if_pos (by omega)]
  obtain rfl : a1 = b1 := by omega
  split
  · rw [if_pos (by omega)]
  split
  · rw [if_neg (by omega), if_pos (by omega)]
  · rw [if_neg (by omega), if_neg (by omega)]

theorem cmp_walk (a0 a1 a2 a3 b0 b1 b2 b3 : Int) (w : World) :
    Calls Tryd.prog 23 #[.agg #[.int .u64 a0, .int .u64 a1, .int .u64 a2, .int .u64 a3], .agg #[.int .u64 b0, .int .u64 b1, .int .u64 b2, .int .u64 b3]] w fun e w' => e = .returned (.int .i64 (cmpL a0 a1 a2 a3 b0 b1 b2 b3)) ∧ New w w' := by
  go_enter Tryd.func23, Tryd.ntmps23
  go_wp2
  refine wp_loop_rounds 5 ?_
  rw [rounds_succ]; go_wp2; go_quiet (fail); go_wp2
  · (go_ret; exact ⟨ret_int (by unfold cmpL; repeat (first | rw [if_pos (by omega)] | rw [if_neg (by omega)])), by (repeat' (first | with_reducible exact new_refl _ | with_reducible assumption | with_reducible refine new_drewN ?_ _ | with_reducible refine new_drew ?_ | with_reducible refine new_alloc ?_ _ | with_reducible refine new_set ?_ ?_ _ | with_reducible refine new_freeze ?_ ?_ _ | with_reducible refine new_trans ?_ (by assumption) | (simp; done) | (simp; omega)))⟩)
  go_quiet (fail); go_wp2
  · (go_ret; exact ⟨ret_int (by unfold cmpL; repeat (first | rw [if_pos (by omega)] | rw [if_neg (by omega)])), by (repeat' (first | with_reducible exact new_refl _ | with_reducible assumption | with_reducible refine new_drewN ?_ _ | with_reducible refine new_drew ?_ | with_reducible refine new_alloc ?_ _ | with_reducible refine new_set ?_ ?_ _ | with_reducible refine new_freeze ?_ ?_ _ | with_reducible refine new_trans ?_ (by assumption) | (simp; done) | (simp; omega)))⟩)
  rw [rounds_succ]; go_wp2; go_quiet (fail); go_wp2
  · (go_ret; exact ⟨ret_int (by unfold cmpL; repeat (first | rw [if_pos (by omega)] | rw [if_neg (by omega)])), by (repeat' (first | with_reducible exact new_refl _ | with_reducible assumption | with_reducible refine new_drewN ?_ _ | with_reducible refine new_drew ?_ | with_reducible refine new_alloc ?_ _ | with_reducible refine new_set ?_ ?_ _ | with_reducible refine new_freeze ?_ ?_ _ | with_reducible refine new_trans ?_ (by assumption) | (simp; done) | (simp; omega)))⟩)
  go_quiet (fail); go_wp2
  · (go_ret; exact ⟨ret_int (by unfold cmpL; repeat (first | rw [if_pos (by omega)] | rw [if_neg (by omega)])), by (repeat' (first | with_reducible exact new_refl _ | with_reducible assumption | with_reducible refine new_drewN ?_ _ | with_reducible refine new_drew ?_ | with_reducible refine new_alloc ?_ _ | with_reducible refine new_set ?_ ?_ _ | with_reducible refine new_freeze ?_ ?_ _ | with_reducible refine new_trans ?_ (by assumption) | (simp; done) | (simp; omega)))⟩)
  rw [rounds_succ]; go_wp2; go_quiet (fail); go_wp2
  · (go_ret; exact ⟨ret_int (by unfold cmpL; repeat (first | rw [if_pos (by omega)] | rw [if_neg (by omega)])), by (repeat' (first | with_reducible exact new_refl _ | with_reducible assumption | with_reducible refine new_drewN ?_ _ | with_reducible refine new_drew ?_ | with_reducible refine new_alloc ?_ _ | with_reducible refine new_set ?_ ?_ _ | with_reducible refine new_freeze ?_ ?_ _ | with_reducible refine new_trans ?_ (by assumption) | (simp; done) | (simp; omega)))⟩)
  go_quiet (fail); go_wp2
  · (go_ret; exact ⟨ret_int (by unfold cmpL; repeat (first | rw [if_pos (by omega)] | rw [if_neg (by omega)])), by (repeat' (first | with_reducible exact new_refl _ | with_reducible assumption | with_reducible refine new_drewN ?_ _ | with_reducible refine new_drew ?_ | with_reducible refine new_alloc ?_ _ | with_reducible refine new_set ?_ ?_ _ | with_reducible refine new_freeze ?_ ?_ _ | with_reducible refine new_trans ?_ (by assumption) | (simp; done) | (simp; omega)))⟩)
  rw [rounds_succ]; go_wp2; go_quiet (fail); go_wp2
  · (go_ret; exact ⟨ret_int (by unfold cmpL; repeat (first | rw [if_pos (by omega)] | rw [if_neg (by omega)])), by (repeat' (first | with_reducible exact new_refl _ | with_reducible assumption | with_reducible refine new_drewN ?_ _ | with_reducible refine new_drew ?_ | with_reducible refine new_alloc ?_ _ | with_reducible refine new_set ?_ ?_ _ | with_reducible refine new_freeze ?_ ?_ _ | with_reducible refine new_trans ?_ (by assumption) | (simp; done) | (simp; omega)))⟩)
  go_quiet (fail); go_wp2
  · (go_ret; exact ⟨ret_int (by unfold cmpL; repeat (first | rw [if_pos (by omega)] | rw [if_neg (by omega)])), by (repeat' (first | with_reducible exact new_refl _ | with_reducible assumption | with_reducible refine new_drewN ?_ _ | with_reducible refine new_drew ?_ | with_reducible refine new_alloc ?_ _ | with_reducible refine new_set ?_ ?_ _ | with_reducible refine new_freeze ?_ ?_ _ | with_reducible refine new_trans ?_ (by assumption) | (simp; done) | (simp; omega)))⟩)
  rw [rounds_succ]; go_wp2
  (go_ret; exact ⟨ret_int (by unfold cmpL; repeat (first | rw [if_pos (by omega)] | rw [if_neg (by omega)])), by (repeat' (first | with_reducible exact new_refl _ | with_reducible assumption | with_reducible refine new_drewN ?_ _ | with_reducible refine new_drew ?_ | with_reducible refine new_alloc ?_ _ | with_reducible refine new_set ?_ ?_ _ | with_reducible refine new_freeze ?_ ?_ _ | with_reducible refine new_trans ?_ (by assumption) | (simp; done) | (simp; omega)))⟩)

theorem cmp_any (a b : Nat) (ha : a < M256) (hb : b < M256) (w : World) :
    Calls Tryd.prog 23 #[u a, u b] w fun e w' => e = .returned (.int .i64 (cmpI a b)) ∧ New w w' := by
  have h := cmp_walk (lim a 0) (lim a 1) (lim a 2) (lim a 3) (lim b 0) (lim b 1) (lim b 2) (lim b 3) w
  rw [cmpL_eq a b _ _ _ _ _ _ _ _ (val_lim a ha) (val_lim b hb) (lim_bd a 0) (lim_bd a 1) (lim_bd a 2) (lim_bd b 0) (lim_bd b 1) (lim_bd b 2)] at h
  exact h

theorem cmp_is (a b : Nat) (c : Int) (ha : a < M256) (hb : b < M256) (hc : cmpI a b = c) (w : World) :
    Calls Tryd.prog 23 #[u a, u b] w fun e w' => e = .returned (.int .i64 c) ∧ New w w' := hc ▸ cmp_any a b ha hb w

end Go.Proofs.YtpdhbddkcnffbaaDoor

namespace Go.Proofs.YtpdhbddkcnffbaaDoor
open Go.RowKit
set_option linter.unusedVariables false
set_option linter.unusedVariables false

theorem and_one (x : Int) (t : Nat) (hx : 0 ≤ x) (hx' : x < 18446744073709551616) : bits BinOp.and IntKind.u64 (x / 2 ^ t) 1 = x / 2 ^ t % 2 := by
  have h0 : 0 ≤ x / 2 ^ t := Int.ediv_nonneg hx (Int.le_of_lt (Int.pow_pos (by decide)))
  have h1 : x / 2 ^ t ≤ x := Int.ediv_le_self _ hx
  obtain ⟨y, hy⟩ := Int.eq_ofNat_of_zero_le h0
  rw [hy]
  exact and_one_u64 _ (by omega) (by omega)

set_option maxRecDepth 100000 in
theorem bit_0 (x0 x1 x2 x3 : Int) (i : Int) (t : Nat) (e1 : i / 64 = 0) (e2 : i % 64 = t) (h0 : 0 ≤ i) (h1 : i < 256) (ht : (t : Int) < 64) (hx : 0 ≤ x0) (hx' : x0 < 18446744073709551616) (w : World) :
    Calls Tryd.prog 40 #[.agg #[.int .u64 x0, .int .u64 x1, .int .u64 x2, .int .u64 x3], .int .i64 i] w fun e w' => e = .returned (.int .u64 (x0 / 2 ^ t % 2)) ∧ New w w' := by
  have E := hide (and_one x0 t hx hx')
  go_enter Tryd.func40, Tryd.ntmps40
  go_wp2
  go_ret
  exact ⟨ret_int (unhide E), by (repeat' (first | with_reducible exact new_refl _ | with_reducible assumption | with_reducible refine new_drewN ?_ _ | with_reducible refine new_drew ?_ | with_reducible refine new_alloc ?_ _ | with_reducible refine new_set ?_ ?_ _ | with_reducible refine new_freeze ?_ ?_ _ | with_reducible refine new_trans ?_ (by assumption) | (simp; done) | (simp; omega)))⟩

set_option maxRecDepth 100000 in
theorem bit_1 (x0 x1 x2 x3 : Int) (i : Int) (t : Nat) (e1 : i / 64 = 1) (e2 : i % 64 = t) (h0 : 0 ≤ i) (h1 : i < 256) (ht : (t : Int) < 64) (hx : 0 ≤ x1) (hx' : x1 < 18446744073709551616) (w : World) :
    Calls Tryd.prog 40 #[.agg #[.int .u64 x0, .int .u64 x1, .int .u64 x2, .int .u64 x3], .int .i64 i] w fun e w' => e = .returned (.int .u64 (x1 / 2 ^ t % 2)) ∧ New w w' := by
  have E := hide (and_one x1 t hx hx')
  go_enter Tryd.func40, Tryd.ntmps40
  go_wp2
  go_ret
  exact ⟨ret_int (unhide E), by (repeat' (first | with_reducible exact new_refl _ | with_reducible assumption | with_reducible refine new_drewN ?_ _ | with_reducible refine new_drew ?_ | with_reducible refine new_alloc ?_ _ | with_reducible refine new_set ?_ ?_ _ | with_reducible refine new_freeze ?_ ?_ _ | with_reducible refine new_trans ?_ (by assumption) | (simp; done) | (simp; omega)))⟩

set_option maxRecDepth 100000 in
theorem bit_2 (x0 x1 x2 x3 : Int) (i : Int) (t : Nat) (e1 : i / 64 = 2) (e2 : i % 64 = t) (h0 : 0 ≤ i) (h1 : i < 256) (ht : (t : Int) < 64) (hx : 0 ≤ x2) (hx' : x2 < 18446744073709551616) (w : World) :
    Calls Tryd.prog 40 #[.agg #[.int .u64 x0, .int .u64 x1, .int .u64 x2, .int .u64 x3], .int .i64 i] w fun e w' => e = .returned (.int .u64 (x2 / 2 ^ t % 2)) ∧ New w w' := by
  have E := hide (and_one x2 t hx hx')
  go_enter Tryd.func40, Tryd.ntmps40
  go_wp2
  go_ret
  exact ⟨ret_int (unhide E), by (repeat' (first | with_reducible exact new_refl _ | with_reducible assumption | with_reducible refine new_drewN ?_ _ | with_reducible refine new_drew ?_ | with_reducible refine new_alloc ?_ _ | with_reducible refine new_set ?_ ?_ _ | with_reducible refine new_freeze ?_ ?_ _ | with_reducible refine new_trans ?_ (by assumption) | (simp; done) | (simp; omega)))⟩

set_option maxRecDepth 100000 in
theorem bit_3 (x0 x1 x2 x3 : Int) (i : Int) (t : Nat) (e1 : i / 64 = 3) (e2 : i % 64 = t) (h0 : 0 ≤ i) (h1 : i < 256) (ht : (t : Int) < 64) (hx : 0 ≤ x3) (hx' : x3 < 18446744073709551616) (w : World) :
    Calls Tryd.prog 40 #[.agg #[.int .u64 x0, .int .u64 x1, .int .u64 x2, .int .u64 x3], .int .i64 i] w fun e w' => e = .returned (.int .u64 (x3 / 2 ^ t % 2)) ∧ New w w' := by
  have E := hide (and_one x3 t hx hx')
  go_enter Tryd.func40, Tryd.ntmps40
  go_wp2
  go_ret
  exact ⟨ret_int (unhide E), by (repeat' (first | with_reducible exact new_refl _ | with_reducible assumption | with_reducible refine new_drewN ?_ _ | with_reducible refine new_drew ?_ | with_reducible refine new_alloc ?_ _ | with_reducible refine new_set ?_ ?_ _ | with_reducible refine new_freeze ?_ ?_ _ | with_reducible refine new_trans ?_ (by assumption) | (simp; done) | (simp; omega)))⟩

theorem lim_bit (a q t : Nat) (ht : t < 64) : lim a q / 2 ^ t % 2 = ((a / 2 ^ (64 * q + t) % 2 : Nat) : Int) := by
  unfold lim
  have h : (18446744073709551616 : Nat) ^ q = 2 ^ (64 * q) := by rw [Nat.pow_mul]
  rw [h, Nat.pow_add, ← Nat.div_div_eq_div_mul]
  have e : ((2 : Int) ^ t) = ((2 ^ t : Nat) : Int) := by simp
  rw [e]
  generalize a / 2 ^ (64 * q) = y
  have e2 : (18446744073709551616 : Nat) = 2 ^ t * 2 ^ (64 - t) := by rw [← Nat.pow_add, show t + (64 - t) = 64 from by omega]
  have e3 : (2 : Nat) ^ (64 - t) = 2 * 2 ^ (63 - t) := by rw [show 64 - t = (63 - t) + 1 from by omega, Nat.pow_succ, Nat.mul_comm]
  have : y % 18446744073709551616 / 2 ^ t % 2 = y / 2 ^ t % 2 := by
    rw [e2, Nat.mod_mul_right_div_self, e3, Nat.mod_mul_right_mod]
  omega

theorem bit_any (a i : Nat) (hi : i < 256) (w : World) :
    Calls Tryd.prog 40 #[u a, .int .i64 i] w fun e w' => e = .returned (.int .u64 ((a / 2 ^ i % 2 : Nat) : Int)) ∧ New w w' := by
  obtain ⟨q, t, ht, rfl⟩ : ∃ q t, t < 64 ∧ i = 64 * q + t := ⟨i / 64, i % 64, by omega, by omega⟩
  rw [← lim_bit a q t ht]
  have hq : q = 0 ∨ q = 1 ∨ q = 2 ∨ q = 3 := by omega
  rcases hq with rfl | rfl | rfl | rfl
  · exact bit_0 _ _ _ _ _ t (by omega) (by omega) (by omega) (by omega) (by omega) (lim_nonneg a 0) (lim_lt a 0) w
  · exact bit_1 _ _ _ _ _ t (by omega) (by omega) (by omega) (by omega) (by omega) (lim_nonneg a 1) (lim_lt a 1) w
  · exact bit_2 _ _ _ _ _ t (by omega) (by omega) (by omega) (by omega) (by omega) (lim_nonneg a 2) (lim_lt a 2) w
  · exact bit_3 _ _ _ _ _ t (by omega) (by omega) (by omega) (by omega) (by omega) (lim_nonneg a 3) (lim_lt a 3) w
end Go.Proofs.YtpdhbddkcnffbaaDoor

namespace Go.Proofs.YtpdhbddkcnffbaaDoor
open Go.RowKit Go.Shelf
set_option linter.unusedVariables false
set_option linter.unusedVariables false

def lays129_ren : Go.Shelf.Ren := ⟨fun | 129 => 61 | n => n, fun | 53 => 22 | 3 => 3 | 4 => 4 | 46 => 127 | 5 => 5 | 9 => 9 | n => n, fun | n => n⟩
theorem lays129 : Go.Proofs.Lays.n129 Tryd.prog lays129_ren := {
  mixed := by kernel_rfl
  f129 := Tryd.func61.trans (congrArg some (by kernel_rfl))
  t3 := Tryd.underlying3
  a3 := Tryd.isAgg3
  z3 := Tryd.sizeOf3
  v3 := Tryd.zeroValue3
  t4 := Tryd.underlying4
  a4 := Tryd.isAgg4
  z4 := Tryd.sizeOf4
  v4 := Tryd.zeroValue4
  t5 := Tryd.underlying5
  a5 := Tryd.isAgg5
  z5 := Tryd.sizeOf5
  v5 := Tryd.zeroValue5
  t9 := Tryd.underlying9
  a9 := Tryd.isAgg9
  z9 := Tryd.sizeOf9
  v9 := Tryd.zeroValue9
  t46 := Tryd.underlying127
  a46 := Tryd.isAgg127
  z46 := Tryd.sizeOf127
  v46 := Tryd.zeroValue127
  t53 := Tryd.underlying22
  a53 := Tryd.isAgg22
  z53 := Tryd.sizeOf22
  v53 := Tryd.zeroValue22 }

theorem len64 (x : Int) (w : World) (h0 : 0 ≤ x) (h1 : x ≤ 18446744073709551615) :
    Calls Tryd.prog 61 #[.int .u64 x] w fun e w' => e = .returned (.int .i64 (Lib.bitLen x.toNat : Int)) ∧ w' = w := Any.bits_Len64 lays129 x w h0 h1

theorem bitLen_le : ∀ (f x : Nat), Lib.bitLenAux f x ≤ f
  | 0, _ => by simp [Lib.bitLenAux]
  | f + 1, x => by
    unfold Lib.bitLenAux
    split
    · omega
    · have := bitLen_le f (x / 2); omega
theorem bitLen_lt : ∀ (f x : Nat), x < 2 ^ f → x < 2 ^ Lib.bitLenAux f x
  | 0, x, h => by simpa [Lib.bitLenAux] using h
  | f + 1, x, h => by
    unfold Lib.bitLenAux
    split
    · omega
    · have h2 : x / 2 < 2 ^ f := by rw [Nat.pow_succ] at h; omega
      have := bitLen_lt f (x / 2) h2
      rw [Nat.add_comm, Nat.pow_succ]; omega

/-- the length of a word, under a name of its own -/
def bl (x : Int) : Int := (Lib.bitLen x.toNat : Int)
theorem bl_bd (x : Int) : 0 ≤ bl x ∧ bl x ≤ 64 := ⟨Int.natCast_nonneg _, by have := bitLen_le 64 x.toNat; unfold bl Lib.bitLen; omega⟩
theorem bl_any (x : Int) (w : World) (h0 : 0 ≤ x) (h1 : x < 18446744073709551616) :
    Calls Tryd.prog 61 #[.int .u64 x] w fun e w' => e = .returned (.int .i64 (bl x)) ∧ w = w' := (len64 x w h0 (by omega)).mono fun e w' h => ⟨h.1, h.2.symm⟩

@[go_sem] theorem idx_u256_0 (y0 y1 y2 y3 : Value) (w : World) : (Instr.index 24 (.agg #[y0, y1, y2, y3]) (.int .i64 0)).run Tryd.prog w = .ok y0 w := by kernel_rfl
@[go_sem] theorem idx_u256_1 (y0 y1 y2 y3 : Value) (w : World) : (Instr.index 24 (.agg #[y0, y1, y2, y3]) (.int .i64 1)).run Tryd.prog w = .ok y1 w := by kernel_rfl
@[go_sem] theorem idx_u256_2 (y0 y1 y2 y3 : Value) (w : World) : (Instr.index 24 (.agg #[y0, y1, y2, y3]) (.int .i64 2)).run Tryd.prog w = .ok y2 w := by kernel_rfl
@[go_sem] theorem idx_u256_3 (y0 y1 y2 y3 : Value) (w : World) : (Instr.index 24 (.agg #[y0, y1, y2, y3]) (.int .i64 3)).run Tryd.prog w = .ok y3 w := by kernel_rfl

def lenL (x0 x1 x2 x3 : Int) : Int := if x3 = 0 then (if x2 = 0 then (if x1 = 0 then (if x0 = 0 then 0 else bl x0) else 64 + bl x1) else 128 + bl x2) else 192 + bl x3

set_option maxRecDepth 100000 in
set_option maxHeartbeats 1000000 in
theorem length_walk (x0 x1 x2 x3 : Int) (h0 : 0 ≤ x0) (k0 : x0 < 18446744073709551616) (h1 : 0 ≤ x1) (k1 : x1 < 18446744073709551616) (h2 : 0 ≤ x2) (k2 : x2 < 18446744073709551616) (h3 : 0 ≤ x3) (k3 : x3 < 18446744073709551616) (w : World) :
    Calls Tryd.prog 38 #[.agg #[.int .u64 x0, .int .u64 x1, .int .u64 x2, .int .u64 x3]] w fun e w' => e = .returned (.int .i64 (lenL x0 x1 x2 x3)) ∧ New w w' := by
  obtain ⟨b0, c0⟩ := bl_bd x0; obtain ⟨b1, c1⟩ := bl_bd x1; obtain ⟨b2, c2⟩ := bl_bd x2; obtain ⟨b3, c3⟩ := bl_bd x3
  by_cases z0 : x0 = 0 <;> by_cases z1 : x1 = 0 <;> by_cases z2 : x2 = 0 <;> by_cases z3 : x3 = 0
  all_goals
    go_enter Tryd.func38, Tryd.ntmps38
    go_wp2
    refine wp_loop_rounds 5 ?_
    rw [rounds_succ]; go_wp2_with (go_at_call 61; refine (bl_any _ _ (by assumption) (by assumption)).mono ?_; rintro e w' ⟨rfl, rfl⟩)
    rw [rounds_succ]; go_wp2_with (go_at_call 61; refine (bl_any _ _ (by assumption) (by assumption)).mono ?_; rintro e w' ⟨rfl, rfl⟩)
    rw [rounds_succ]; go_wp2_with (go_at_call 61; refine (bl_any _ _ (by assumption) (by assumption)).mono ?_; rintro e w' ⟨rfl, rfl⟩)
    rw [rounds_succ]; go_wp2_with (go_at_call 61; refine (bl_any _ _ (by assumption) (by assumption)).mono ?_; rintro e w' ⟨rfl, rfl⟩)
    rw [rounds_succ]; go_wp2
    go_ret
    exact ⟨ret_int (by simp [lenL, *]), by (repeat' (first | with_reducible exact new_refl _ | with_reducible assumption | with_reducible refine new_drewN ?_ _ | with_reducible refine new_drew ?_ | with_reducible refine new_alloc ?_ _ | with_reducible refine new_set ?_ ?_ _ | with_reducible refine new_freeze ?_ ?_ _ | with_reducible refine new_trans ?_ (by assumption) | (simp; done) | (simp; omega)))⟩

theorem blen_ok (x : Int) (h0 : 0 ≤ x) (h1 : x < 18446744073709551616) : x < (2 ^ (bl x).toNat : Nat) := by
  unfold bl
  have := bitLen_lt 64 x.toNat (by omega)
  rw [Int.toNat_natCast]
  unfold Lib.bitLen
  omega

def blen (a : Nat) : Nat := (lenL (lim a 0) (lim a 1) (lim a 2) (lim a 3)).toNat

theorem blen_spec (a : Nat) (ha : a < M256) : blen a ≤ 256 ∧ a < 2 ^ blen a ∧ lenL (lim a 0) (lim a 1) (lim a 2) (lim a 3) = blen a := by
  have v := val_lim a ha
  have b0 := lim_bd a 0; have b1 := lim_bd a 1; have b2 := lim_bd a 2; have b3 := lim_bd a 3
  unfold blen
  generalize lim a 0 = x0 at *; generalize lim a 1 = x1 at *; generalize lim a 2 = x2 at *; generalize lim a 3 = x3 at *
  have q0 := blen_ok x0 b0.1 b0.2; have q1 := blen_ok x1 b1.1 b1.2; have q2 := blen_ok x2 b2.1 b2.2; have q3 := blen_ok x3 b3.1 b3.2
  have r0 := bl_bd x0; have r1 := bl_bd x1; have r2 := bl_bd x2; have r3 := bl_bd x3
  unfold lenL
  split
  · split
    · split
      · split
        · refine ⟨by decide, ?_, rfl⟩; simp; omega
        · refine ⟨by omega, ?_, by omega⟩; omega
      · refine ⟨by omega, ?_, by omega⟩
        rw [show (64 + bl x1).toNat = 64 + (bl x1).toNat from by omega, Nat.pow_add]
        generalize 2 ^ (bl x1).toNat = p at *
        omega
    · refine ⟨by omega, ?_, by omega⟩
      rw [show (128 + bl x2).toNat = 128 + (bl x2).toNat from by omega, Nat.pow_add]
      generalize 2 ^ (bl x2).toNat = p at *
      omega
  · refine ⟨by omega, ?_, by omega⟩
    rw [show (192 + bl x3).toNat = 192 + (bl x3).toNat from by omega, Nat.pow_add]
    generalize 2 ^ (bl x3).toNat = p at *
    omega

theorem length_any (a : Nat) (ha : a < M256) (w : World) :
    Calls Tryd.prog 38 #[u a] w fun e w' => e = .returned (.int .i64 (blen a)) ∧ New w w' := by
  have := length_walk _ _ _ _ (lim_nonneg a 0) (lim_lt a 0) (lim_nonneg a 1) (lim_lt a 1) (lim_nonneg a 2) (lim_lt a 2) (lim_nonneg a 3) (lim_lt a 3) w
  rw [(blen_spec a ha).2.2] at this
  exact this

end Go.Proofs.YtpdhbddkcnffbaaDoor

namespace Go.Proofs.YtpdhbddkcnffbaaDoor
open Go.RowKit
set_option linter.unusedVariables false
set_option linter.unusedVariables false
set_option maxRecDepth 100000

/-- what is left, and the quotient in its place, when the bits above k have been gone through -/
def restk (a b k : Nat) : Nat := a / 2 ^ k % b
def quok (a b k : Nat) : Nat := a / 2 ^ k / b * 2 ^ k

theorem half_step (a i : Nat) : a / 2 ^ i = 2 * (a / 2 ^ (i + 1)) + a / 2 ^ i % 2 := by
  rw [Nat.pow_succ, ← Nat.div_div_eq_div_mul]; omega

theorem div_hi (A b bit : Nat) (hb : 0 < b) (h : b ≤ 2 * (A % b) + bit) (hbit : bit ≤ 1) : (2 * A + bit) / b = 2 * (A / b) + 1 ∧ (2 * A + bit) % b = 2 * (A % b) + bit - b := by
  have h1 := Nat.div_add_mod A b
  have h2 := Nat.mod_lt A hb
  have e : 2 * A + bit = (2 * (A % b) + bit - b) + b * (2 * (A / b) + 1) := by
    rw [Nat.mul_add, Nat.mul_left_comm]; omega
  rw [e]
  refine ⟨?_, ?_⟩
  · rw [Nat.add_mul_div_left _ _ hb, Nat.div_eq_of_lt (by omega)]; omega
  · rw [Nat.add_mul_mod_self_left, Nat.mod_eq_of_lt (by omega)]
theorem div_lo (A b bit : Nat) (hb : 0 < b) (h : 2 * (A % b) + bit < b) : (2 * A + bit) / b = 2 * (A / b) ∧ (2 * A + bit) % b = 2 * (A % b) + bit := by
  have h1 := Nat.div_add_mod A b
  have e : 2 * A + bit = (2 * (A % b) + bit) + b * (2 * (A / b)) := by
    rw [Nat.mul_left_comm]; omega
  rw [e]
  refine ⟨?_, ?_⟩
  · rw [Nat.add_mul_div_left _ _ hb, Nat.div_eq_of_lt h]; omega
  · rw [Nat.add_mul_mod_self_left, Nat.mod_eq_of_lt h]

theorem step_hi (a b i : Nat) (hb : 0 < b) (h : b ≤ 2 * restk a b (i + 1) + a / 2 ^ i % 2) :
    restk a b i = 2 * restk a b (i + 1) + a / 2 ^ i % 2 - b ∧ quok a b i = quok a b (i + 1) + 2 ^ i := by
  unfold restk quok at *
  have e := half_step a i
  have hbit : a / 2 ^ i % 2 ≤ 1 := by omega
  generalize a / 2 ^ i % 2 = bit at *
  rw [e]
  obtain ⟨h1, h2⟩ := div_hi (a / 2 ^ (i + 1)) b bit hb h hbit
  rw [h1, h2]
  refine ⟨rfl, ?_⟩
  rw [Nat.add_mul, Nat.one_mul, Nat.pow_succ, Nat.mul_comm 2, Nat.mul_assoc, Nat.mul_comm 2]
theorem step_lo (a b i : Nat) (hb : 0 < b) (h : 2 * restk a b (i + 1) + a / 2 ^ i % 2 < b) :
    restk a b i = 2 * restk a b (i + 1) + a / 2 ^ i % 2 ∧ quok a b i = quok a b (i + 1) := by
  unfold restk quok at *
  have e := half_step a i
  generalize a / 2 ^ i % 2 = bit at *
  rw [e]
  obtain ⟨h1, h2⟩ := div_lo (a / 2 ^ (i + 1)) b bit hb h
  rw [h1, h2]
  refine ⟨rfl, ?_⟩
  rw [Nat.pow_succ, Nat.mul_comm 2, Nat.mul_assoc, Nat.mul_comm 2]

theorem restk_lt (a b k : Nat) (hb : 0 < b) : restk a b k < b := Nat.mod_lt _ hb
theorem start_k (a b k : Nat) (h : a < 2 ^ k) : restk a b k = 0 ∧ quok a b k = 0 := by
  unfold restk quok
  rw [Nat.div_eq_of_lt h]; simp
theorem end_k (a b : Nat) : restk a b 0 = a % b ∧ quok a b 0 = a / b := by
  unfold restk quok; simp

/-! ### limbs -/
theorem lim_pow (n q : Nat) : lim n q = ((n / 2 ^ (64 * q) % 2 ^ 64 : Nat) : Int) := by
  unfold lim
  rw [show (18446744073709551616 : Nat) ^ q = 2 ^ (64 * q) from by rw [Nat.pow_mul]]

theorem or_low (c x t : Nat) (hx : x < 2 ^ t) (h : 2 ^ t * c + x < 2 ^ 64) : bits BinOp.or IntKind.u64 ((2 ^ t * c : Nat) : Int) (x : Int) = ((2 ^ t * c + x : Nat) : Int) := by
  rw [bits_or_u64_nat _ _ (by omega) (by omega), Nat.two_pow_add_eq_or_of_lt hx]

/-- an even number with one more bit -/
theorem or_bit0 (s bit : Nat) (hs : s % 2 = 0) (hb : bit ≤ 1) : bits BinOp.or IntKind.u64 (lim s 0) (bit : Int) = lim (s + bit) 0 ∧ lim (s + bit) 1 = lim s 1 ∧ lim (s + bit) 2 = lim s 2 ∧ lim (s + bit) 3 = lim s 3 := by
  refine ⟨?_, ?_, ?_, ?_⟩
  · rw [lim0, lim0]
    have e : s % 18446744073709551616 = 2 ^ 1 * (s % 18446744073709551616 / 2) := by omega
    rw [e, or_low _ _ 1 (by omega) (by omega)]
    omega
  · rw [lim1, lim1]; omega
  · rw [lim2, lim2]; omega
  · rw [lim3, lim3]; omega

/-- a number that ends in i + 1 noughts with bit i more -/
theorem or_bit (c q t : Nat) (ht : t < 64) : 
    (∀ m, m ≠ q → lim (c * 2 ^ (64 * q + t + 1) + 2 ^ (64 * q + t)) m = lim (c * 2 ^ (64 * q + t + 1)) m) ∧
    bits BinOp.or IntKind.u64 (lim (c * 2 ^ (64 * q + t + 1)) q) ((2 ^ t : Nat) : Int) = lim (c * 2 ^ (64 * q + t + 1) + 2 ^ (64 * q + t)) q := by
  have e1 : c * 2 ^ (64 * q + t + 1) = 2 ^ (64 * q) * (2 ^ (t + 1) * c) := by
    rw [show 64 * q + t + 1 = 64 * q + (t + 1) from by omega, Nat.pow_add, Nat.mul_comm c, Nat.mul_assoc]
  have e2 : (2 : Nat) ^ (64 * q + t) = 2 ^ (64 * q) * 2 ^ t := Nat.pow_add 2 _ _
  have e3 : c * 2 ^ (64 * q + t + 1) + 2 ^ (64 * q + t) = 2 ^ (64 * q) * (2 ^ (t + 1) * c + 2 ^ t) := by rw [e1, e2, Nat.mul_add]
  have hp : 0 < 2 ^ (64 * q) := Nat.pow_pos (by decide)
  refine ⟨fun m hm => ?_, ?_⟩
  · rw [lim_pow, lim_pow]
    rcases Nat.lt_or_gt_of_ne hm with h | h
    · -- below: both end in noughts
      have e4 : 2 ^ (64 * q) = 2 ^ (64 * m) * (2 ^ 64 * 2 ^ (64 * (q - m - 1))) := by
        rw [← Nat.pow_add, ← Nat.pow_add]; congr 1; omega
      have hm0 : 0 < 2 ^ (64 * m) := Nat.pow_pos (by decide)
      have nought : ∀ X : Nat, 2 ^ (64 * q) * X / 2 ^ (64 * m) % 2 ^ 64 = 0 := fun X => by
        rw [e4, Nat.mul_assoc, Nat.mul_div_cancel_left _ hm0, Nat.mul_assoc, Nat.mul_mod_right]
      rw [e3, e1, nought, nought]
    · -- above: nothing has turned
      have e4 : 2 ^ (64 * m) = 2 ^ (64 * q + t + 1) * 2 ^ (64 * m - (64 * q + t + 1)) := by
        rw [← Nat.pow_add]; congr 1; omega
      have hk : 0 < 2 ^ (64 * q + t + 1) := Nat.pow_pos (by decide)
      have e5 : (c * 2 ^ (64 * q + t + 1) + 2 ^ (64 * q + t)) / 2 ^ (64 * q + t + 1) = c := by
        rw [Nat.mul_comm c, Nat.mul_add_div hk, Nat.div_eq_of_lt (Nat.pow_lt_pow_right (by decide) (by omega)), Nat.add_zero]
      rw [e4, ← Nat.div_div_eq_div_mul, ← Nat.div_div_eq_div_mul, e5, Nat.mul_div_cancel _ hk]
  · rw [lim_pow, lim_pow, e3, e1, Nat.mul_div_cancel_left _ hp, Nat.mul_div_cancel_left _ hp]
    have e6 : 2 ^ 64 = 2 ^ (t + 1) * 2 ^ (63 - t) := by rw [← Nat.pow_add]; congr 1; omega
    have e7 : 2 ^ (t + 1) * c % 2 ^ 64 = 2 ^ (t + 1) * (c % 2 ^ (63 - t)) := by rw [e6, Nat.mul_mod_mul_left]
    have e8 : (2 ^ (t + 1) * c + 2 ^ t) % 2 ^ 64 = 2 ^ (t + 1) * (c % 2 ^ (63 - t)) + 2 ^ t := by
      have h1 : c = 2 ^ (63 - t) * (c / 2 ^ (63 - t)) + c % 2 ^ (63 - t) := (Nat.div_add_mod _ _).symm
      have h2 : c % 2 ^ (63 - t) < 2 ^ (63 - t) := Nat.mod_lt _ (Nat.pow_pos (by decide))
      have h3 : 2 ^ (t + 1) * (c % 2 ^ (63 - t)) + 2 ^ t < 2 ^ 64 := by
        have : 2 ^ (t + 1) * (c % 2 ^ (63 - t) + 1) ≤ 2 ^ 64 := by rw [e6]; exact Nat.mul_le_mul_left _ h2
        have h5 : 2 ^ t < 2 ^ (t + 1) := Nat.pow_lt_pow_right (by decide) (by omega)
        rw [Nat.mul_add, Nat.mul_one] at this; omega
      have h4 : 2 ^ (t + 1) * c + 2 ^ t = 2 ^ 64 * (c / 2 ^ (63 - t)) + (2 ^ (t + 1) * (c % 2 ^ (63 - t)) + 2 ^ t) := by
        conv => lhs; rw [h1]
        rw [Nat.mul_add, ← Nat.mul_assoc, ← e6, Nat.add_assoc]
      rw [h4, Nat.mul_add_mod, Nat.mod_eq_of_lt h3]
    have h3 : 2 ^ (t + 1) * (c % 2 ^ (63 - t)) + 2 ^ t < 2 ^ 64 := by rw [← e8]; exact Nat.mod_lt _ (Nat.pow_pos (by decide))
    rw [e7, e8, or_low _ _ (t + 1) (Nat.pow_lt_pow_right (by decide) (by omega)) h3]

theorem uc_get (n q : Nat) (hq : q < 4) : (uc n)[q]? = some (.int .u64 (lim n q)) := by
  have h : q = 0 ∨ q = 1 ∨ q = 2 ∨ q = 3 := by omega
  rcases h with rfl | rfl | rfl | rfl <;> rfl
theorem uc_set (n n' q : Nat) (hq : q < 4) (h : ∀ m, m ≠ q → m < 4 → lim n' m = lim n m) : (uc n).setIfInBounds q (.int .u64 (lim n' q)) = uc n' := by
  have h' : q = 0 ∨ q = 1 ∨ q = 2 ∨ q = 3 := by omega
  rcases h' with rfl | rfl | rfl | rfl
  · simp [uc, h 1 (by decide) (by decide), h 2 (by decide) (by decide), h 3 (by decide) (by decide)]
  · simp [uc, h 0 (by decide) (by decide), h 2 (by decide) (by decide), h 3 (by decide) (by decide)]
  · simp [uc, h 0 (by decide) (by decide), h 1 (by decide) (by decide), h 3 (by decide) (by decide)]
  · simp [uc, h 0 (by decide) (by decide), h 1 (by decide) (by decide), h 2 (by decide) (by decide)]
end Go.Proofs.YtpdhbddkcnffbaaDoor

namespace Go.Proofs.YtpdhbddkcnffbaaDoor
open Go.RowKit
set_option linter.unusedVariables false
set_option linter.unusedVariables false
set_option maxRecDepth 100000

set_option linter.unusedSimpArgs false

theorem zero_iff (n : Nat) (h : n < M256) : (lim n 0 == 0 && (lim n 1 == 0 && (lim n 2 == 0 && lim n 3 == 0))) = decide (n = 0) := by
  have := same_iff n 0 h (by decide)
  have z0 : lim 0 0 = 0 := by decide
  have z1 : lim 0 1 = 0 := by decide
  have z2 : lim 0 2 = 0 := by decide
  have z3 : lim 0 3 = 0 := by decide
  rw [z0, z1, z2, z3] at this
  exact this
theorem uc_zero : uc 0 = #[.int .u64 0, .int .u64 0, .int .u64 0, .int .u64 0] := by
  have := u_zero
  simp only [u, Value.agg.injEq] at this
  exact this

/-- what one round turns, in numbers: twice what is left, with one bit more -/
theorem bit_to (a i bit : Nat) (hi : i < 256) (h : a / 2 ^ i % 2 = bit) (w : World) :
    Calls Tryd.prog 40 #[u a, .int .i64 i] w fun e w' => e = .returned (.int .u64 (bit : Int)) ∧ New w w' := h ▸ bit_any a i hi w

theorem round_nums (bit b R : Nat) (hbit : bit ≤ 1) (hb : b < M256) (hR : R < b) : ∃ (s0 s1 : Nat) (o : Bool), (R + R) % M256 = s0 ∧ decide (M256 ≤ R + R) = o ∧ s0 < M256 ∧ s1 < M256 ∧
    Hid (bits BinOp.or IntKind.u64 (lim s0 0) (bit : Int) = lim s1 0) ∧ Hid (∀ m, m ≠ 0 → m < 4 → lim s1 m = lim s0 m) ∧
    ((o = true ∧ b ≤ 2 * R + bit ∧ (s1 + M256 - b) % M256 = 2 * R + bit - b) ∨
     (o = false ∧ b ≤ 2 * R + bit ∧ (s1 + M256 - b) % M256 = 2 * R + bit - b ∧ ∃ c : Int, cmpI s1 b = c ∧ 0 ≤ c) ∨
     (o = false ∧ 2 * R + bit < b ∧ s1 = 2 * R + bit ∧ cmpI s1 b = -1)) := by
  have hs0 : (R + R) % M256 % 2 = 0 := by unfold M256; omega
  have hs1 : (R + R) % M256 + bit < M256 := by have := mod_lt (R + R); unfold M256 at *; omega
  obtain ⟨f0, f1, f2, f3⟩ := or_bit0 ((R + R) % M256) bit hs0 hbit
  refine ⟨_, (R + R) % M256 + bit, _, rfl, rfl, mod_lt _, hs1, hide f0, hide ?_, ?_⟩
  · intro m hm hm4
    match m, hm, hm4 with
    | 1, _, _ => exact f1
    | 2, _, _ => exact f2
    | 3, _, _ => exact f3
    | 0, h, _ => exact absurd rfl h
    | m + 4, _, h => omega
  · by_cases h1 : M256 ≤ R + R
    · refine .inl ⟨by simp [h1], by omega, by unfold M256 at *; omega⟩
    · by_cases h2 : b ≤ 2 * R + bit
      · refine .inr (.inl ⟨by simp [h1], h2, by unfold M256 at *; omega, cmpI ((R + R) % M256 + bit) b, rfl, ?_⟩)
        unfold cmpI
        rw [if_neg (by unfold M256 at *; omega)]
        split <;> decide
      · refine .inr (.inr ⟨by simp [h1], by omega, by unfold M256 at *; omega, ?_⟩)
        unfold cmpI
        rw [if_pos (by unfold M256 at *; omega)]

theorem shl_one (t : Nat) (ht : t < 64) : IntKind.u64.wrap (2 ^ t) = ((2 ^ t : Nat) : Int) := by
  have h : (2 : Nat) ^ t < 18446744073709551616 := Nat.pow_lt_pow_right (by decide) ht
  have e : ((2 : Int) ^ t) = ((2 ^ t : Nat) : Int) := by simp
  rw [IntKind.wrap_u64, e]
  generalize 2 ^ t = p at h ⊢
  omega

theorem divmod_any (a b : Nat) (ha : a < M256) (hb : b < M256) (hb0 : 0 < b) (w : World) :
    Calls Tryd.prog 17 #[u a, u b] w fun e w' => e = .returned (.tuple #[u (a / b), u (a % b), .int .i64 0]) ∧ New w w' := by
  obtain ⟨L0, L1, _⟩ := blen_spec a ha
  have ez := zero_iff b hb
  rw [decide_eq_false (by omega)] at ez
  have L0 := hide L0; have L1 := hide L1; have hb0 := hide hb0; have ha' := hide ha; have hb' := hide hb
  clear ha hb
  go_enter Tryd.func17, Tryd.ntmps17
  go_wp2_with fail
  generalize hW : World.alloc _ _ = W
  have B2 : Blk W w.heap.size 24 (uc a) := by rw [← hW]; exact (((Blk.new_ _ _ _).al _).al _).al _
  have B3 : Blk W (w.heap.size + 1) 24 (uc b) := by rw [← hW]; exact ((Blk.new1 _ _ _ _).al _).al _
  have B4 : Blk W (w.heap.size + 1 + 1) 24 (uc 0) := by rw [← hW, uc_zero]; exact (Blk.new2 _ _ _ _ _).al _
  have B5 : Blk W (w.heap.size + 1 + 1 + 1) 24 (uc 0) := by rw [← hW, uc_zero]; exact Blk.new3 _ _ _ _ _ _
  have N : New w W := by rw [← hW]; (repeat' (first | with_reducible exact new_refl _ | with_reducible assumption | with_reducible refine new_drewN ?_ _ | with_reducible refine new_drew ?_ | with_reducible refine new_alloc ?_ _ | with_reducible refine new_set ?_ ?_ _ | with_reducible refine new_freeze ?_ ?_ _ | with_reducible refine new_trans ?_ (by assumption) | (simp; done) | (simp; omega)))
  clear hW
  have n45 : w.heap.size + 1 + 1 ≠ w.heap.size + 1 + 1 + 1 := by omega
  have n25 : w.heap.size ≠ w.heap.size + 1 + 1 + 1 := by omega
  have n24 : w.heap.size ≠ w.heap.size + 1 + 1 := by omega
  have n35 : w.heap.size + 1 ≠ w.heap.size + 1 + 1 + 1 := by omega
  have n34 : w.heap.size + 1 ≠ w.heap.size + 1 + 1 := by omega
  have l5 : w.heap.size ≤ w.heap.size + 1 + 1 + 1 := by omega
  have l4 : w.heap.size ≤ w.heap.size + 1 + 1 := by omega
  have l3 : w.heap.size ≤ w.heap.size + 1 := by omega
  generalize w.heap.size + 1 + 1 + 1 = g5 at *
  generalize w.heap.size + 1 + 1 = g4 at *
  generalize w.heap.size + 1 = g3 at *
  generalize hg2 : w.heap.size = g2 at *
  refine (length_any a (unhide ha') _).mono ?_
  rintro e w1 ⟨rfl, hb⟩
  have B2 := B2.up hb; have B3 := B3.up hb; have B4 := B4.up hb; have B5 := B5.up hb; have N := new_trans N hb; clear hb
  go_wp2
  go_loopw [7] (fun i wr => ∃ k : Nat, k ≤ 256 ∧ i = .int .i64 ((k : Int) - 1) ∧ Blk wr g2 24 (uc a) ∧ Blk wr g3 24 (uc b) ∧ Blk wr g4 24 (uc (quok a b k)) ∧ Blk wr g5 24 (uc (restk a b k)) ∧ New w wr) (fun i _ => (intOf i + 1).toNat)
  case atStart =>
    obtain ⟨s1, s2⟩ := start_k a b (blen a) (unhide L1)
    exact ⟨blen a, unhide L0, by simp, B2, B3, by rw [s2]; exact B4, by rw [s1]; exact B5, by (repeat' (first | with_reducible exact new_refl _ | with_reducible assumption | with_reducible refine new_drewN ?_ _ | with_reducible refine new_drew ?_ | with_reducible refine new_alloc ?_ _ | with_reducible refine new_set ?_ ?_ _ | with_reducible refine new_freeze ?_ ?_ _ | with_reducible refine new_trans ?_ (by assumption) | (simp; done) | (simp; omega)))⟩
  case round =>
    obtain ⟨k, hk, rfl, B2, B3, B4, B5, N⟩ := hrel
    cases k with
    | zero =>
      go_wp2
      obtain ⟨z1, z2⟩ := end_k a b
      obtain ⟨Q, eQ⟩ : ∃ Q, a / b = Q := ⟨_, rfl⟩
      obtain ⟨R, eR⟩ : ∃ R, a % b = R := ⟨_, rfl⟩
      rw [z1, eR] at B5; rw [z2, eQ] at B4
      have eQ := hide eQ; have eR := hide eR
      refine region_set (by kernel_rfl) [.inl (u Q), .inl (u R), .inr (.inr (0, uc Q)), .inr (.inr (1, uc R)), .inl (.int .i64 0)] [g4, g5] (by simp [n45]) rfl (by kernel_rfl) rfl ?_ ?_
      · refine ⟨?_, ?_, ?_, ?_, ?_, trivial⟩
        · exact set_read _ fun ρ w' hk hI hc h0 hp => by have h : ρ (.tmp 4) = .pointer (some ⟨g4, 0, none⟩) := h0 4 rfl; have c := Blk.cell (hI 0 g4 2 _ rfl rfl rfl _ _ B4); simp [execOp, go_sem, hc, h, c]
        · exact set_read _ fun ρ w' hk hI hc h0 hp => by have h : ρ (.tmp 5) = .pointer (some ⟨g5, 0, none⟩) := h0 5 rfl; have c := Blk.cell (hI 1 g5 3 _ rfl rfl rfl _ _ B5); simp [execOp, go_sem, hc, h, c]
        · exact set_store 24 0 g4 4 56 0 _ _ _ rfl rfl rfl B4 rfl rfl rfl rfl rfl (by kernel_rfl) rfl (by simp [Value.oneCell'])
        · exact set_store 24 1 g5 5 57 1 _ _ _ rfl rfl rfl B5 rfl rfl rfl rfl rfl (by kernel_rfl) rfl (by simp [Value.oneCell'])
        · exact set_val _ fun ρ w' _ hc h0 _ => by simp [execOp, go_sem, hc]
      · intro w' hK hB
        have N := hK.since N (by simp [l4, l5, hg2])
        have c4 := Blk.cell (hB 0 g4 2 _ _ _ rfl rfl B4)
        have c5 := Blk.cell (hB 1 g5 3 _ _ _ rfl rfl B5)
        simp [frame, gives, Act.put]
        go_wp2
        exact bodyPost_ret (v := .tuple #[u Q, u R, .int .i64 0]) (by simp [results, Tryd.results17, go_sem, c4, c5]) rfl ⟨by rw [unhide eQ, unhide eR], N⟩
    | succ j =>
      rw [show ((j + 1 : Nat) : Int) - 1 = j from by omega]
      obtain ⟨q, t, ht, hq, rfl⟩ : ∃ q t, t < 64 ∧ q < 4 ∧ j = 64 * q + t := ⟨j / 64, j % 64, by omega, by omega, by omega⟩
      have hRb := restk_lt a b (64 * q + t + 1) (unhide hb0)
      have hRM := Nat.lt_trans hRb (unhide hb')
      obtain ⟨bit, ebit⟩ : ∃ bit, a / 2 ^ (64 * q + t) % 2 = bit := ⟨_, rfl⟩
      obtain ⟨s0, s1, o, d0, d1, d2, d3, d4, d5, dd⟩ := round_nums bit b _ (by omega) (unhide hb') hRb
      have st1 := step_hi a b (64 * q + t) (unhide hb0); have st2 := step_lo a b (64 * q + t) (unhide hb0)
      rw [ebit] at st1 st2
      have st1 := hide st1; have st2 := hide st2; have ebit := hide ebit
      obtain ⟨fq, fb⟩ := or_bit (a / 2 ^ (64 * q + t + 1) / b) q t ht
      rw [show a / 2 ^ (64 * q + t + 1) / b * 2 ^ (64 * q + t + 1) = quok a b (64 * q + t + 1) from rfl] at fq fb
      have fq := hide fq; have fb := hide fb; have d0 := hide d0
      have d1 := hide d1; have d2 := hide d2; have d3 := hide d3; have hRb := hide hRb; have hRM := hide hRM
      generalize restk a b (64 * q + t + 1) = R at *
      generalize quok a b (64 * q + t + 1) = U at *
      have c2 := B2.cell; have c3 := B3.cell; have c4 := B4.cell; have c5 := B5.cell; have f2 := B2.free; have f3 := B3.free; have f4 := B4.free; have f5 := B5.free
      go_wp2_with fail
      refine (add_is R R s0 o (unhide hRM) (unhide hRM) (unhide d0) (unhide d1) _).mono ?_
      rintro e w2 ⟨rfl, hb⟩
      have B2 := B2.up hb; have B3 := B3.up hb; have B4 := B4.up hb; have B5 := B5.up hb; have N : New w w2 := new_trans (by (repeat' (first | with_reducible exact new_refl _ | with_reducible assumption | with_reducible refine new_drewN ?_ _ | with_reducible refine new_drew ?_ | with_reducible refine new_alloc ?_ _ | with_reducible refine new_set ?_ ?_ _ | with_reducible refine new_freeze ?_ ?_ _ | with_reducible refine new_trans ?_ (by assumption) | (simp; done) | (simp; omega)))) hb; clear hb c2 c3 c4 c5 f2 f3 f4 f5
      have c2 := B2.cell; have c3 := B3.cell; have c4 := B4.cell; have c5 := B5.cell; have f2 := B2.free; have f3 := B3.free; have f4 := B4.free; have f5 := B5.free
      go_wp2
      have B5 : Blk _ g5 24 (uc s0) := B5.set4 (.int .u64 (lim s0 0)) (.int .u64 (lim s0 1)) (.int .u64 (lim s0 2)) (.int .u64 (lim s0 3))
      have B2 := B2.far4 n25 (.int .u64 (lim s0 0)) (.int .u64 (lim s0 1)) (.int .u64 (lim s0 2)) (.int .u64 (lim s0 3))
      have B3 := B3.far4 n35 (.int .u64 (lim s0 0)) (.int .u64 (lim s0 1)) (.int .u64 (lim s0 2)) (.int .u64 (lim s0 3))
      have B4 := B4.far4 n45 (.int .u64 (lim s0 0)) (.int .u64 (lim s0 1)) (.int .u64 (lim s0 2)) (.int .u64 (lim s0 3))
      have N := new_set4 N (g := g5) (hg2 ▸ l5) (.int .u64 (lim s0 0)) (.int .u64 (lim s0 1)) (.int .u64 (lim s0 2)) (.int .u64 (lim s0 3))
      clear c2 c3 c4 c5 f2 f3 f4 f5
      generalize World.setCell _ _ _ = w3 at *
      have d4' := unhide d4; have d5' := unhide d5
      have hj : 64 * q + t < 256 := by omega
      refine region_set (by kernel_rfl) [.inl (.pointer (some ⟨g5, 0, none⟩)), .inl (.int .u64 (lim s0 0)), .inl (u a), .inl (.int .i64 (64 * q + t)), .inl (.int .u64 (bit : Int)), .inl (.int .u64 (lim s1 0)), .inl (.pointer (some ⟨g5, 0, none⟩)), .inr (.inr (0, (uc s0).setIfInBounds 0 (.int .u64 (lim s1 0))))] [g5] (by simp) rfl (by kernel_rfl) rfl ?_ ?_
      · refine ⟨?_, ?_, ?_, ?_, ?_, ?_, ?_, ?_, trivial⟩
        · exact set_val _ fun ρ w' _ hc h0 _ => by have h : ρ (.tmp 5) = .pointer (some ⟨g5, 0, none⟩) := h0 5 rfl; simp [execOp, go_sem, hc, h]
        · exact set_read _ fun ρ w' hk hI hc h0 hp => by have h := hp 0 _ _ rfl rfl rfl; have c := Blk.cell (hI 0 g5 7 _ rfl rfl rfl _ _ B5); simp [execOp, go_sem, h, c]
        · exact set_val _ fun ρ w' hk hc h0 hp => by have h : ρ (.tmp 2) = .pointer (some ⟨g2, 0, none⟩) := h0 2 rfl; have c := Blk.cell ((hk.block g2 B2.lt (by simp [n25])).trans B2); simp [execOp, go_sem, h, c]
        · exact set_val _ fun ρ w' hk hc h0 hp => by have h : ρ (.tmp 7) = .int .i64 (64 * q + t) := h0 7 rfl; simp [execOp, go_sem, h]
        · exact set_call 40 _ _ _ _ _ rfl Tryd.func40 (by kernel_rfl) (by kernel_rfl) (fun a _ hp => by have h := hp 2 _ _ rfl rfl rfl; have h' := hp 3 _ _ rfl rfl rfl; simp [h, h']) (bit_to a (64 * q + t) bit hj (unhide ebit))
        · exact set_val _ fun ρ w' hk hc h0 hp => by have h := hp 1 _ _ rfl rfl rfl; have h' := hp 4 _ _ rfl rfl rfl; simp [execOp, go_sem, h, h', d4']
        · exact set_val _ fun ρ w' _ hc h0 _ => by have h : ρ (.tmp 5) = .pointer (some ⟨g5, 0, none⟩) := h0 5 rfl; simp [execOp, go_sem, hc, h]
        · exact set_cell 22 0 g5 0 33 32 6 5 _ _ _ rfl rfl rfl B5 (by simp [uc]) rfl rfl rfl rfl rfl rfl rfl (fun w u h1 h2 => by simp [go_sem, h1, h2])
      intro w4 hK hB
      have B2 : Blk w4 g2 24 (uc a) := (hK.block g2 B2.lt (by simp [n25])).trans B2
      have B3 : Blk w4 g3 24 (uc b) := (hK.block g3 B3.lt (by simp [n35])).trans B3
      have B4 : Blk w4 g4 24 (uc U) := (hK.block g4 B4.lt (by simp [n45])).trans B4
      have B5' := hB 0 g5 7 _ _ _ rfl rfl B5
      rw [uc_set s0 s1 0 (by decide) d5'] at B5'
      have B5 : Blk w4 g5 24 (uc s1) := B5'
      have N := hK.since N (by simp [hg2, l5])
      clear hK hB B5' d4' d5'
      simp [frame, gives, Act.put]
      have c2 := B2.cell; have c3 := B3.cell; have c4 := B4.cell; have c5 := B5.cell; have f2 := B2.free; have f3 := B3.free; have f4 := B4.free; have f5 := B5.free
      rcases dd with ⟨rfl, hge, hsub⟩ | ⟨rfl, hge, hsub, c, hc, hc0⟩ | ⟨rfl, hlt, rfl, hc⟩
      rotate_left 2
      · obtain ⟨r1, r2⟩ := unhide st2 hlt
        have hc := hide hc; have hlt := hide hlt; have r1 := hide r1; have r2 := hide r2
        generalize 2 * R + bit = s1 at *
        go_wp2_with fail
        refine (cmp_is s1 b (-1) (unhide d3) (unhide hb') (unhide hc) _).mono ?_
        rintro e w5 ⟨rfl, hb⟩
        have B2 := B2.up hb; have B3 := B3.up hb; have B4 := B4.up hb; have B5 := B5.up hb; have N := new_trans N hb; clear hb c2 c3 c4 c5 f2 f3 f4 f5
        go_wp2
        exact ⟨⟨64 * q + t, by omega, by go_num, B2, B3, by rw [unhide r2]; exact B4, by rw [unhide r1]; exact B5, N⟩, by simp [intOf]; omega⟩
      · obtain ⟨r1, r2⟩ := unhide st1 hge
        have hge := hide hge; have r1 := hide r1; have r2 := hide r2; have hsub := hide hsub
        generalize 2 * R + bit - b = d at *
        go_wp2_with fail
        obtain ⟨sb, hsb⟩ : ∃ sb, decide (s1 < b) = sb := ⟨_, rfl⟩
        have hsb := hide hsb
        refine (sub_is s1 b d sb (unhide d3) (unhide hb') (unhide hsub) (unhide hsb) _).mono ?_
        rintro e w6 ⟨rfl, hb⟩
        have B2 := B2.up hb; have B3 := B3.up hb; have B4 := B4.up hb; have B5 := B5.up hb; have N := new_trans N hb; clear hb c2 c3 c4 c5 f2 f3 f4 f5
        have c2 := B2.cell; have c3 := B3.cell; have c4 := B4.cell; have c5 := B5.cell; have f2 := B2.free; have f3 := B3.free; have f4 := B4.free; have f5 := B5.free
        go_wp2
        have B5 : Blk _ g5 24 (uc d) := B5.set4 (.int .u64 (lim d 0)) (.int .u64 (lim d 1)) (.int .u64 (lim d 2)) (.int .u64 (lim d 3))
        have B2 := B2.far4 n25 (.int .u64 (lim d 0)) (.int .u64 (lim d 1)) (.int .u64 (lim d 2)) (.int .u64 (lim d 3))
        have B3 := B3.far4 n35 (.int .u64 (lim d 0)) (.int .u64 (lim d 1)) (.int .u64 (lim d 2)) (.int .u64 (lim d 3))
        have B4 := B4.far4 n45 (.int .u64 (lim d 0)) (.int .u64 (lim d 1)) (.int .u64 (lim d 2)) (.int .u64 (lim d 3))
        have N := new_set4 N (g := g5) (hg2 ▸ l5) (.int .u64 (lim d 0)) (.int .u64 (lim d 1)) (.int .u64 (lim d 2)) (.int .u64 (lim d 3))
        clear c2 c3 c4 c5 f2 f3 f4 f5
        generalize World.setCell _ _ _ = w7 at *
        obtain ⟨U', eU⟩ : ∃ U', U + 2 ^ (64 * q + t) = U' := ⟨_, rfl⟩
        obtain ⟨v, ev⟩ : ∃ v : Int, ((2 ^ t : Nat) : Int) = v := ⟨_, rfl⟩
        have fq := unhide fq; have fb := unhide fb
        rw [eU] at fq fb; rw [ev] at fb
        have hv := shl_one t ht
        rw [ev] at hv
        have e0 : 0 ≤ (64 * q + t : Int) := by omega
        have e1 : ((64 * q + t : Int)).tdiv 64 = q := by rw [Int.tdiv_eq_ediv_of_nonneg e0]; omega
        have e2 : ((64 * q + t : Int)).tmod 64 = t := by rw [Int.tmod_eq_emod_of_nonneg e0]; omega
        have wq : IntKind.i64.wrap (q : Int) = q := by rw [IntKind.wrap_i64]; omega
        have wt : IntKind.i64.wrap (t : Int) = t := by rw [IntKind.wrap_i64]; omega
        refine region_set (by kernel_rfl) [.inl (.int .i64 (64 * q + t)), .inl (.int .i64 q), .inl (.pointer (some ⟨g4, q, none⟩)), .inl (.int .u64 (lim U q)), .inl (.int .i64 (64 * q + t)), .inl (.int .i64 t), .inl (.int .u64 v), .inl (.int .u64 (lim U' q)), .inl (.pointer (some ⟨g4, q, none⟩)), .inr (.inr (0, (uc U).setIfInBounds q (.int .u64 (lim U' q))))] [g4] (by simp) rfl (by kernel_rfl) rfl ?_ ?_
        · refine ⟨?_, ?_, ?_, ?_, ?_, ?_, ?_, ?_, ?_, ?_, trivial⟩
          · exact set_val _ fun ρ w' hk hc h0 hp => by have h : ρ (.tmp 7) = .int .i64 (64 * q + t) := h0 7 rfl; simp [execOp, go_sem, h]
          · exact set_val _ fun ρ w' hk hc h0 hp => by have h := hp 0 _ _ rfl rfl rfl; simp [execOp, go_sem, h, hc, e1, wq]
          · exact set_val _ fun ρ w' hk hc h0 hp => by have h : ρ (.tmp 4) = .pointer (some ⟨g4, 0, none⟩) := h0 4 rfl; have h' := hp 1 _ _ rfl rfl rfl; simp [execOp, go_sem, h, h']; exact fun hh => absurd hh (by omega)
          · exact set_read _ fun ρ w' hk hI hc h0 hp => by have h := hp 2 _ _ rfl rfl rfl; have c := Blk.cell (hI 0 g4 9 _ rfl rfl rfl _ _ B4); simp [execOp, go_sem, h, c, uc_get _ _ hq]
          · exact set_val _ fun ρ w' hk hc h0 hp => by have h : ρ (.tmp 7) = .int .i64 (64 * q + t) := h0 7 rfl; simp [execOp, go_sem, h]
          · exact set_val _ fun ρ w' hk hc h0 hp => by have h := hp 4 _ _ rfl rfl rfl; simp [execOp, go_sem, h, hc, e2, wt]
          · exact set_val _ fun ρ w' hk hc h0 hp => by have h := hp 5 _ _ rfl rfl rfl; simp [execOp, go_sem, h, hc, hv, ht]
          · exact set_val _ fun ρ w' hk hc h0 hp => by have h := hp 3 _ _ rfl rfl rfl; have h' := hp 6 _ _ rfl rfl rfl; simp [execOp, go_sem, h, h', fb]
          · exact set_val _ fun ρ w' hk hc h0 hp => by have h : ρ (.tmp 4) = .pointer (some ⟨g4, 0, none⟩) := h0 4 rfl; have h' := hp 1 _ _ rfl rfl rfl; simp [execOp, go_sem, h, h']; exact fun hh => absurd hh (by omega)
          · exact set_cell 22 0 g4 q 55 54 8 7 _ _ _ rfl rfl rfl B4 (by simp [uc, hq]) rfl rfl rfl rfl rfl rfl rfl (fun w u h1 h2 => by simp [go_sem, h1, h2])
        intro w8 hK hB
        have B2 : Blk w8 g2 24 (uc a) := (hK.block g2 B2.lt (by simp [n24])).trans B2
        have B3 : Blk w8 g3 24 (uc b) := (hK.block g3 B3.lt (by simp [n34])).trans B3
        have B5 : Blk w8 g5 24 (uc d) := (hK.block g5 B5.lt (by simp [Ne.symm n45])).trans B5
        have B4' := hB 0 g4 9 _ _ _ rfl rfl B4
        rw [uc_set U U' q hq (fun m hm _ => fq m hm)] at B4'
        have B4 : Blk w8 g4 24 (uc U') := B4'
        have N := hK.since N (by simp [hg2, l4])
        clear hK hB B4'
        simp [frame, gives, Act.put]
        go_wp2
        exact ⟨⟨64 * q + t, by omega, by go_num, B2, B3, by rw [unhide r2, eU]; exact B4, by rw [unhide r1]; exact B5, N⟩, by simp [intOf]; omega⟩
      · obtain ⟨r1, r2⟩ := unhide st1 hge
        have hge := hide hge; have r1 := hide r1; have r2 := hide r2; have hsub := hide hsub; have hc := hide hc
        generalize 2 * R + bit - b = d at *
        go_wp2_with fail
        refine (cmp_is s1 b c (unhide d3) (unhide hb') (unhide hc) _).mono ?_
        rintro e w5 ⟨rfl, hb⟩
        have B2 := B2.up hb; have B3 := B3.up hb; have B4 := B4.up hb; have B5 := B5.up hb; have N := new_trans N hb; clear hb c2 c3 c4 c5 f2 f3 f4 f5
        have c2 := B2.cell; have c3 := B3.cell; have c4 := B4.cell; have c5 := B5.cell; have f2 := B2.free; have f3 := B3.free; have f4 := B4.free; have f5 := B5.free
        go_wp2_with fail
        obtain ⟨sb, hsb⟩ : ∃ sb, decide (s1 < b) = sb := ⟨_, rfl⟩
        have hsb := hide hsb
        refine (sub_is s1 b d sb (unhide d3) (unhide hb') (unhide hsub) (unhide hsb) _).mono ?_
        rintro e w6 ⟨rfl, hb⟩
        have B2 := B2.up hb; have B3 := B3.up hb; have B4 := B4.up hb; have B5 := B5.up hb; have N := new_trans N hb; clear hb c2 c3 c4 c5 f2 f3 f4 f5
        have c2 := B2.cell; have c3 := B3.cell; have c4 := B4.cell; have c5 := B5.cell; have f2 := B2.free; have f3 := B3.free; have f4 := B4.free; have f5 := B5.free
        go_wp2
        have B5 : Blk _ g5 24 (uc d) := B5.set4 (.int .u64 (lim d 0)) (.int .u64 (lim d 1)) (.int .u64 (lim d 2)) (.int .u64 (lim d 3))
        have B2 := B2.far4 n25 (.int .u64 (lim d 0)) (.int .u64 (lim d 1)) (.int .u64 (lim d 2)) (.int .u64 (lim d 3))
        have B3 := B3.far4 n35 (.int .u64 (lim d 0)) (.int .u64 (lim d 1)) (.int .u64 (lim d 2)) (.int .u64 (lim d 3))
        have B4 := B4.far4 n45 (.int .u64 (lim d 0)) (.int .u64 (lim d 1)) (.int .u64 (lim d 2)) (.int .u64 (lim d 3))
        have N := new_set4 N (g := g5) (hg2 ▸ l5) (.int .u64 (lim d 0)) (.int .u64 (lim d 1)) (.int .u64 (lim d 2)) (.int .u64 (lim d 3))
        clear c2 c3 c4 c5 f2 f3 f4 f5
        generalize World.setCell _ _ _ = w7 at *
        obtain ⟨U', eU⟩ : ∃ U', U + 2 ^ (64 * q + t) = U' := ⟨_, rfl⟩
        obtain ⟨v, ev⟩ : ∃ v : Int, ((2 ^ t : Nat) : Int) = v := ⟨_, rfl⟩
        have fq := unhide fq; have fb := unhide fb
        rw [eU] at fq fb; rw [ev] at fb
        have hv := shl_one t ht
        rw [ev] at hv
        have e0 : 0 ≤ (64 * q + t : Int) := by omega
        have e1 : ((64 * q + t : Int)).tdiv 64 = q := by rw [Int.tdiv_eq_ediv_of_nonneg e0]; omega
        have e2 : ((64 * q + t : Int)).tmod 64 = t := by rw [Int.tmod_eq_emod_of_nonneg e0]; omega
        have wq : IntKind.i64.wrap (q : Int) = q := by rw [IntKind.wrap_i64]; omega
        have wt : IntKind.i64.wrap (t : Int) = t := by rw [IntKind.wrap_i64]; omega
        refine region_set (by kernel_rfl) [.inl (.int .i64 (64 * q + t)), .inl (.int .i64 q), .inl (.pointer (some ⟨g4, q, none⟩)), .inl (.int .u64 (lim U q)), .inl (.int .i64 (64 * q + t)), .inl (.int .i64 t), .inl (.int .u64 v), .inl (.int .u64 (lim U' q)), .inl (.pointer (some ⟨g4, q, none⟩)), .inr (.inr (0, (uc U).setIfInBounds q (.int .u64 (lim U' q))))] [g4] (by simp) rfl (by kernel_rfl) rfl ?_ ?_
        · refine ⟨?_, ?_, ?_, ?_, ?_, ?_, ?_, ?_, ?_, ?_, trivial⟩
          · exact set_val _ fun ρ w' hk hc h0 hp => by have h : ρ (.tmp 7) = .int .i64 (64 * q + t) := h0 7 rfl; simp [execOp, go_sem, h]
          · exact set_val _ fun ρ w' hk hc h0 hp => by have h := hp 0 _ _ rfl rfl rfl; simp [execOp, go_sem, h, hc, e1, wq]
          · exact set_val _ fun ρ w' hk hc h0 hp => by have h : ρ (.tmp 4) = .pointer (some ⟨g4, 0, none⟩) := h0 4 rfl; have h' := hp 1 _ _ rfl rfl rfl; simp [execOp, go_sem, h, h']; exact fun hh => absurd hh (by omega)
          · exact set_read _ fun ρ w' hk hI hc h0 hp => by have h := hp 2 _ _ rfl rfl rfl; have c := Blk.cell (hI 0 g4 9 _ rfl rfl rfl _ _ B4); simp [execOp, go_sem, h, c, uc_get _ _ hq]
          · exact set_val _ fun ρ w' hk hc h0 hp => by have h : ρ (.tmp 7) = .int .i64 (64 * q + t) := h0 7 rfl; simp [execOp, go_sem, h]
          · exact set_val _ fun ρ w' hk hc h0 hp => by have h := hp 4 _ _ rfl rfl rfl; simp [execOp, go_sem, h, hc, e2, wt]
          · exact set_val _ fun ρ w' hk hc h0 hp => by have h := hp 5 _ _ rfl rfl rfl; simp [execOp, go_sem, h, hc, hv, ht]
          · exact set_val _ fun ρ w' hk hc h0 hp => by have h := hp 3 _ _ rfl rfl rfl; have h' := hp 6 _ _ rfl rfl rfl; simp [execOp, go_sem, h, h', fb]
          · exact set_val _ fun ρ w' hk hc h0 hp => by have h : ρ (.tmp 4) = .pointer (some ⟨g4, 0, none⟩) := h0 4 rfl; have h' := hp 1 _ _ rfl rfl rfl; simp [execOp, go_sem, h, h']; exact fun hh => absurd hh (by omega)
          · exact set_cell 22 0 g4 q 55 54 8 7 _ _ _ rfl rfl rfl B4 (by simp [uc, hq]) rfl rfl rfl rfl rfl rfl rfl (fun w u h1 h2 => by simp [go_sem, h1, h2])
        intro w8 hK hB
        have B2 : Blk w8 g2 24 (uc a) := (hK.block g2 B2.lt (by simp [n24])).trans B2
        have B3 : Blk w8 g3 24 (uc b) := (hK.block g3 B3.lt (by simp [n34])).trans B3
        have B5 : Blk w8 g5 24 (uc d) := (hK.block g5 B5.lt (by simp [Ne.symm n45])).trans B5
        have B4' := hB 0 g4 9 _ _ _ rfl rfl B4
        rw [uc_set U U' q hq (fun m hm _ => fq m hm)] at B4'
        have B4 : Blk w8 g4 24 (uc U') := B4'
        have N := hK.since N (by simp [hg2, l4])
        clear hK hB B4'
        simp [frame, gives, Act.put]
        go_wp2
        exact ⟨⟨64 * q + t, by omega, by go_num, B2, B3, by rw [unhide r2, eU]; exact B4, by rw [unhide r1]; exact B5, N⟩, by simp [intOf]; omega⟩
end Go.Proofs.YtpdhbddkcnffbaaDoor

namespace Go.Proofs.YtpdhbddkcnffbaaDoor
open Go.RowKit
set_option linter.unusedVariables false
set_option linter.unusedVariables false

theorem picked_any (n m : Int) (hm : 0 < m) (hm' : m ≤ 4611686018427387904) (w : World) :
    Calls Tryd.prog 10 #[.int .i64 n, .int .i64 m] w fun e w' => e = .returned (.int .i64 (n % m)) ∧ w = w' := by
  have h1 := hide (tmod_emod n m hm)
  have h2 := hide (Int.emod_nonneg n (by omega : m ≠ 0))
  have h3 := hide (Int.emod_lt_of_pos n hm)
  go_enter Tryd.func10, Tryd.ntmps10
  go_wp2
  · have h : n.tmod m < 0 := by assumption
    go_ret
    refine ⟨ret_int ?_, rfl⟩
    have h1 := h1.out; have h2 := h2.out; have h3 := h3.out
    rw [if_pos h] at h1
    rw [wrap64, ← h1]; omega
  · have h : 0 ≤ n.tmod m := by assumption
    go_ret
    refine ⟨ret_int ?_, rfl⟩
    have h1 := h1.out
    rw [if_neg (by omega)] at h1
    exact h1.symm


/-- the number that a raw thing stands for -/
def num (k a b : Int) : Nat :=
  if k % 5 = 0 then mk4 (a % 1000) 0 0 0
  else if k % 5 = 1 then mk4 (IntKind.u64.wrap a) 0 0 0
  else if k % 5 = 2 then mk4 (IntKind.u64.wrap a) (IntKind.u64.wrap b) 0 0
  else if k % 5 = 3 then mk4 (IntKind.u64.wrap (IntKind.u64.wrap a * 11400714819323198485)) (IntKind.u64.wrap b) (bits BinOp.xor IntKind.u64 (IntKind.u64.wrap a) (IntKind.u64.wrap b)) (IntKind.u64.wrap (IntKind.u64.wrap b * 14029467366897019727))
  else mk4 (bits BinOp.xor IntKind.u64 IntKind.u64.max (IntKind.u64.wrap a)) (bits BinOp.xor IntKind.u64 IntKind.u64.max (IntKind.u64.wrap b)) 18446744073709551615 18446744073709551615

end Go.Proofs.YtpdhbddkcnffbaaDoor

namespace Go.Proofs.YtpdhbddkcnffbaaDoor
open Go.RowKit
set_option linter.unusedVariables false
set_option linter.unusedVariables false
set_option maxRecDepth 100000

@[reducible] def raw (k a b : Int) (s : ByteArray) : Array Value := #[.int .i64 k, .int .i64 a, .int .i64 b, .string s]
theorem zero_u (w : World) : (zeroValue 24).run Tryd.prog w = .ok (.agg z4) w := by kernel_rfl
theorem size_u : (Tryd.prog.info? 24).map (·.size) = some 4 := by kernel_rfl
end Go.Proofs.YtpdhbddkcnffbaaDoor

namespace Go.Proofs.YtpdhbddkcnffbaaDoor
open Go.RowKit
set_option linter.unusedVariables false
set_option linter.unusedVariables false
set_option maxRecDepth 100000

section
variable {P : Program} {ops : Array Oper} {Q : Exit → Act → World → Prop} {K : List Kind} {T : List Nat} {a0 : Act} {w0 : World} {o : Oper}

/-- an operation that gives its value in every later world, and turns nothing -/
theorem ok_val (v : Value) (h : ∀ (ρ : Operand → Value) (w : World), New w0 w → (∀ v, ρ (.const v) = v) → (∀ F, ρ (.func F) = .func (.func F) #[] #[]) → (∀ t : Tmp, (ops.toList.all fun o => o.dst != some t) = true → ρ (.tmp t) = a0.eval (.tmp t)) →
      (∀ (i : Nat) (t : Tmp) (v : Value), (o.after.toList.any fun e => Region.binds .any e && e.on == i) = true → (ops[i]?).bind (·.dst) = some t → K[i]? = some (.inl v) → ρ (.tmp t) = v) → (execOp ρ o).run P w = .ok (.value v) w) : OpOk P ops K Q a0 w0 o (.inl v) := by
  intro a w Kc hN h0 hp hK
  unfold Oper.wp
  rw [h a.eval w hN (fun _ => rfl) (fun _ => rfl) h0 hp, Oper.upon_value]
  exact hK w (new_refl w)

theorem allok_cons {p : Oper → Kind → Prop} {o : Oper} {os : List Oper} {k : Kind} {ks : List Kind} (h : p o k) (t : AllOk p os ks) : AllOk p (o :: os) (k :: ks) := ⟨h, t⟩
theorem allok_nil {p : Oper → Kind → Prop} : AllOk p [] [] := trivial
/-- the law of such a region, its kinds found on the way -/
theorem region_okA {id : Nat} (hm : P.follows .mixedOrders = true) (hall : AllOk (OpOk P ops K Q a0 w0) ops.toList K) (hlen : K.length = ops.size) (hops : opsOk a0.tmps.size ops.toList = true) (hputs : noDup (puts K) = true)
    (hend : ∀ (g : Nat → Nat) (w' : World), New w0 w' → (∀ (j : Nat) (T : TypeId) (z : Array Value) (i : Nat) (cs : Array Value), K[j]? = some (.inr (.inl (T, z))) → K[i]? = some (.inr (.inr (j, cs))) → w0.heap.size ≤ g j ∧ w'.heap[g j]? = some (.cells cs T (0, 0))) →
      (∀ (j j' : Nat) (T : TypeId) (z : Array Value) (T' : TypeId) (z' : Array Value), K[j]? = some (.inr (.inl (T, z))) → K[j']? = some (.inr (.inl (T', z'))) → j ≠ j' → g j ≠ g j') → Q .normal (frame g ops.toList K 0 a0) w') :
    (Code.region id ops true).wp P Q a0 w0 := region_ok hm K hlen hops hputs hall hend
end
theorem boxes2 {w W : World} {c1 : Array Value} {c2 : Array Value} {t1 t2 : TypeId} (h : ((w.alloc (.cells c1 t1)).alloc (.cells c2 t2)) = W) :
    New w W ∧ Blk W (w.heap.size) t1 c1 ∧ Blk W (w.heap.size + 1) t2 c2 := by
  subst h
  exact ⟨new_alloc (new_alloc (new_refl _) _) _, ((show Blk (w.alloc (.cells c1 t1)) (w.heap.size) t1 c1 by have := heap_alloc_new w (.cells c1 t1); simpa only [Blk, World.size_alloc] using this).al _), (show Blk ((w.alloc (.cells c1 t1)).alloc (.cells c2 t2)) (w.heap.size + 1) t2 c2 by have := heap_alloc_new (w.alloc (.cells c1 t1)) (.cells c2 t2); simpa only [Blk, World.size_alloc] using this)⟩
theorem boxes4 {w W : World} {c1 : Array Value} {c2 : Array Value} {c3 : Array Value} {c4 : Array Value} {t1 t2 t3 t4 : TypeId} (h : ((((w.alloc (.cells c1 t1)).alloc (.cells c2 t2)).alloc (.cells c3 t3)).alloc (.cells c4 t4)) = W) :
    New w W ∧ Blk W (w.heap.size) t1 c1 ∧ Blk W (w.heap.size + 1) t2 c2 ∧ Blk W (w.heap.size + 1 + 1) t3 c3 ∧ Blk W (w.heap.size + 1 + 1 + 1) t4 c4 := by
  subst h
  exact ⟨new_alloc (new_alloc (new_alloc (new_alloc (new_refl _) _) _) _) _, ((((show Blk (w.alloc (.cells c1 t1)) (w.heap.size) t1 c1 by have := heap_alloc_new w (.cells c1 t1); simpa only [Blk, World.size_alloc] using this).al _).al _).al _), (((show Blk ((w.alloc (.cells c1 t1)).alloc (.cells c2 t2)) (w.heap.size + 1) t2 c2 by have := heap_alloc_new (w.alloc (.cells c1 t1)) (.cells c2 t2); simpa only [Blk, World.size_alloc] using this).al _).al _), ((show Blk (((w.alloc (.cells c1 t1)).alloc (.cells c2 t2)).alloc (.cells c3 t3)) (w.heap.size + 1 + 1) t3 c3 by have := heap_alloc_new ((w.alloc (.cells c1 t1)).alloc (.cells c2 t2)) (.cells c3 t3); simpa only [Blk, World.size_alloc] using this).al _), (show Blk ((((w.alloc (.cells c1 t1)).alloc (.cells c2 t2)).alloc (.cells c3 t3)).alloc (.cells c4 t4)) (w.heap.size + 1 + 1 + 1) t4 c4 by have := heap_alloc_new (((w.alloc (.cells c1 t1)).alloc (.cells c2 t2)).alloc (.cells c3 t3)) (.cells c4 t4); simpa only [Blk, World.size_alloc] using this)⟩
theorem boxes5 {w W : World} {c1 : Array Value} {c2 : Array Value} {c3 : Array Value} {c4 : Array Value} {c5 : Array Value} {t1 t2 t3 t4 t5 : TypeId} (h : (((((w.alloc (.cells c1 t1)).alloc (.cells c2 t2)).alloc (.cells c3 t3)).alloc (.cells c4 t4)).alloc (.cells c5 t5)) = W) :
    New w W ∧ Blk W (w.heap.size) t1 c1 ∧ Blk W (w.heap.size + 1) t2 c2 ∧ Blk W (w.heap.size + 1 + 1) t3 c3 ∧ Blk W (w.heap.size + 1 + 1 + 1) t4 c4 ∧ Blk W (w.heap.size + 1 + 1 + 1 + 1) t5 c5 := by
  subst h
  exact ⟨new_alloc (new_alloc (new_alloc (new_alloc (new_alloc (new_refl _) _) _) _) _) _, (((((show Blk (w.alloc (.cells c1 t1)) (w.heap.size) t1 c1 by have := heap_alloc_new w (.cells c1 t1); simpa only [Blk, World.size_alloc] using this).al _).al _).al _).al _), ((((show Blk ((w.alloc (.cells c1 t1)).alloc (.cells c2 t2)) (w.heap.size + 1) t2 c2 by have := heap_alloc_new (w.alloc (.cells c1 t1)) (.cells c2 t2); simpa only [Blk, World.size_alloc] using this).al _).al _).al _), (((show Blk (((w.alloc (.cells c1 t1)).alloc (.cells c2 t2)).alloc (.cells c3 t3)) (w.heap.size + 1 + 1) t3 c3 by have := heap_alloc_new ((w.alloc (.cells c1 t1)).alloc (.cells c2 t2)) (.cells c3 t3); simpa only [Blk, World.size_alloc] using this).al _).al _), ((show Blk ((((w.alloc (.cells c1 t1)).alloc (.cells c2 t2)).alloc (.cells c3 t3)).alloc (.cells c4 t4)) (w.heap.size + 1 + 1 + 1) t4 c4 by have := heap_alloc_new (((w.alloc (.cells c1 t1)).alloc (.cells c2 t2)).alloc (.cells c3 t3)) (.cells c4 t4); simpa only [Blk, World.size_alloc] using this).al _), (show Blk (((((w.alloc (.cells c1 t1)).alloc (.cells c2 t2)).alloc (.cells c3 t3)).alloc (.cells c4 t4)).alloc (.cells c5 t5)) (w.heap.size + 1 + 1 + 1 + 1) t5 c5 by have := heap_alloc_new ((((w.alloc (.cells c1 t1)).alloc (.cells c2 t2)).alloc (.cells c3 t3)).alloc (.cells c4 t4)) (.cells c5 t5); simpa only [Blk, World.size_alloc] using this)⟩
end Go.Proofs.YtpdhbddkcnffbaaDoor
