/- load: check of the kinds. Conditions: as said. -/
import Derived.Test.YtcfefmbbbfdppaaGreatDoorSKit
import Derived.Shelf.Spec.BitsCarry
import Derived.Test.YtcfefmbbbfdppaaGreatDoorSBytes
import Derived.Test.YtcfefmbbbfdppaaGreatDoorSLoad3
namespace Go.Proofs.YtcfefmbbbfdppaaGreatDoor
open Go.RowKit
set_option linter.unusedVariables false
theorem add64 (x y c : Int) (hx : 0 ≤ x) (hy : 0 ≤ y) (hc0 : 0 ≤ c) (hc : c ≤ 1) (w : World) : (callFunc 111 #[.int .u64 x, .int .u64 y, .int .u64 c]).run Tryz.prog w =
    .ok (.value (.tuple #[.int .u64 ((x + y + c) % 18446744073709551616), .int .u64 ((x + y + c) / 18446744073709551616)])) w := by
  rw [run_callFunc_extern Tryz.func111 (by kernel_rfl) (by kernel_rfl) (by kernel_rfl) (e := add64Entry) (by kernel_rfl), run_add64 x y c (by omega) (by omega) (by omega) (by omega)]
  rfl
theorem add64' (x y c : Int) (hx : 0 ≤ x) (hy : 0 ≤ y) (hx' : x < 18446744073709551616) (hy' : y < 18446744073709551616) (hc0 : 0 ≤ c) (hc : c ≤ 1) : ∃ s d : Int,
    (∀ w, (callFunc 111 #[.int .u64 x, .int .u64 y, .int .u64 c]).run Tryz.prog w = .ok (.value (.tuple #[.int .u64 s, .int .u64 d])) w) ∧ 0 ≤ s ∧ s < 18446744073709551616 ∧ 0 ≤ d ∧ d ≤ 1 ∧ x + y + c = s + 18446744073709551616 * d :=
  ⟨_, _, add64 x y c hx hy hc0 hc, by omega, by omega, by omega, by omega, by omega⟩
theorem add_walk (a0 a1 a2 a3 b0 b1 b2 b3 s0 s1 s2 s3 c1 c2 c3 c4 : Int)
    (A0 : ∀ w, (callFunc 111 #[.int .u64 a0, .int .u64 b0, .int .u64 0]).run Tryz.prog w = .ok (.value (.tuple #[.int .u64 s0, .int .u64 c1])) w)
    (A1 : ∀ w, (callFunc 111 #[.int .u64 a1, .int .u64 b1, .int .u64 c1]).run Tryz.prog w = .ok (.value (.tuple #[.int .u64 s1, .int .u64 c2])) w)
    (A2 : ∀ w, (callFunc 111 #[.int .u64 a2, .int .u64 b2, .int .u64 c2]).run Tryz.prog w = .ok (.value (.tuple #[.int .u64 s2, .int .u64 c3])) w)
    (A3 : ∀ w, (callFunc 111 #[.int .u64 a3, .int .u64 b3, .int .u64 c3]).run Tryz.prog w = .ok (.value (.tuple #[.int .u64 s3, .int .u64 c4])) w) (w : World) :
    Calls Tryz.prog 97 #[.agg #[.int .u64 a0, .int .u64 a1, .int .u64 a2, .int .u64 a3], .agg #[.int .u64 b0, .int .u64 b1, .int .u64 b2, .int .u64 b3]] w fun e w' => e = .returned (.tuple #[.agg #[.int .u64 s0, .int .u64 s1, .int .u64 s2, .int .u64 s3], .bool (c4 == 1)]) ∧ New w w' := by
  go_enter Tryz.func97, Tryz.ntmps97
  go_wp2
  refine wp_loop_rounds 5 ?_
  rw [rounds_succ]; go_wp2; go_region; go_wp2
  rw [rounds_succ]; go_wp2; go_region; go_wp2
  rw [rounds_succ]; go_wp2; go_region; go_wp2
  rw [rounds_succ]; go_wp2; go_region; go_wp2
  rw [rounds_succ]; go_wp2
  exact bodyPost_ret (v := .tuple #[.agg #[.int .u64 s0, .int .u64 s1, .int .u64 s2, .int .u64 s3], .bool (c4 == 1)]) (by simp [results, Tryz.results97, go_sem]) rfl ⟨rfl, by repeat (first | exact new_refl _ | refine new_drew ?_ | refine new_alloc ?_ _)⟩
theorem add_any (a b : Nat) (ha : a < M256) (hb : b < M256) (w : World) :
    Calls Tryz.prog 97 #[u a, u b] w fun e w' => e = .returned (.tuple #[u ((a + b) % M256), .bool (decide (M256 ≤ a + b))]) ∧ New w w' := by
  rw [u_mod]
  have va := val_lim a ha
  have vb := val_lim b hb
  obtain ⟨a0, a0'⟩ := lim_bd a 0; obtain ⟨a1, a1'⟩ := lim_bd a 1; obtain ⟨a2, a2'⟩ := lim_bd a 2; obtain ⟨a3, a3'⟩ := lim_bd a 3
  obtain ⟨b0, b0'⟩ := lim_bd b 0; obtain ⟨b1, b1'⟩ := lim_bd b 1; obtain ⟨b2, b2'⟩ := lim_bd b 2; obtain ⟨b3, b3'⟩ := lim_bd b 3
  obtain ⟨s0, c1, A0, s0p, s0q, c1p, c1q, h1⟩ := add64' (lim a 0) (lim b 0) 0 a0 b0 a0' b0' (by decide) (by decide)
  obtain ⟨s1, c2, A1, s1p, s1q, c2p, c2q, h2⟩ := add64' (lim a 1) (lim b 1) c1 a1 b1 a1' b1' c1p c1q
  obtain ⟨s2, c3, A2, s2p, s2q, c3p, c3q, h3⟩ := add64' (lim a 2) (lim b 2) c2 a2 b2 a2' b2' c2p c2q
  obtain ⟨s3, c4, A3, s3p, s3q, c4p, c4q, h4⟩ := add64' (lim a 3) (lim b 3) c3 a3 b3 a3' b3' c3p c3q
  have h := add_walk _ _ _ _ _ _ _ _ _ _ _ _ _ _ _ _ A0 A1 A2 A3 w
  have hs := sum_parts _ _ _ _ _ _ _ _ _ _ _ _ _ _ _ _ _ _ va vb h1 h2 h3 h4
  rw [← Int.natCast_add] at hs
  obtain ⟨e0, e1, e2, e3⟩ := lim_of (a + b) s0 s1 s2 s3 c4 s0p s0q s1p s1q s2p s2q s3p s3q hs
  have e4 := top_bit (a + b) s0 s1 s2 s3 c4 s0p s1p s2p s3p s0q s1q s2q s3q c4p c4q hs
  rw [← e0, ← e1, ← e2, ← e3, ← e4] at h
  exact h
theorem sub64' (x y c : Int) (hx : 0 ≤ x) (hy : 0 ≤ y) (hx' : x < 18446744073709551616) (hy' : y < 18446744073709551616) (hc0 : 0 ≤ c) (hc : c ≤ 1) : ∃ s d : Int,
    (∀ w, (callFunc 106 #[.int .u64 x, .int .u64 y, .int .u64 c]).run Tryz.prog w = .ok (.value (.tuple #[.int .u64 s, .int .u64 d])) w) ∧ 0 ≤ s ∧ s < 18446744073709551616 ∧ 0 ≤ d ∧ d ≤ 1 ∧ x - y - c = s - 18446744073709551616 * d := by
  obtain ⟨x, rfl⟩ := Int.eq_ofNat_of_zero_le hx
  obtain ⟨y, rfl⟩ := Int.eq_ofNat_of_zero_le hy
  obtain ⟨c, rfl⟩ := Int.eq_ofNat_of_zero_le hc0
  refine ⟨(((x + 18446744073709551616 - y - c) % 18446744073709551616 : Nat) : Int), ((if x < y + c then 1 else 0 : Nat) : Int), fun w => ?_, by omega, by omega, by omega, by split <;> omega, by split <;> omega⟩
  rw [run_callFunc_extern Tryz.func106 (by kernel_rfl) (by kernel_rfl) (by kernel_rfl) (e := sub64Entry) (by kernel_rfl), run_sub64 x y c (by omega)]
  rfl
theorem sub_walk (a0 a1 a2 a3 b0 b1 b2 b3 s0 s1 s2 s3 c1 c2 c3 c4 : Int)
    (A0 : ∀ w, (callFunc 106 #[.int .u64 a0, .int .u64 b0, .int .u64 0]).run Tryz.prog w = .ok (.value (.tuple #[.int .u64 s0, .int .u64 c1])) w)
    (A1 : ∀ w, (callFunc 106 #[.int .u64 a1, .int .u64 b1, .int .u64 c1]).run Tryz.prog w = .ok (.value (.tuple #[.int .u64 s1, .int .u64 c2])) w)
    (A2 : ∀ w, (callFunc 106 #[.int .u64 a2, .int .u64 b2, .int .u64 c2]).run Tryz.prog w = .ok (.value (.tuple #[.int .u64 s2, .int .u64 c3])) w)
    (A3 : ∀ w, (callFunc 106 #[.int .u64 a3, .int .u64 b3, .int .u64 c3]).run Tryz.prog w = .ok (.value (.tuple #[.int .u64 s3, .int .u64 c4])) w) (w : World) :
    Calls Tryz.prog 86 #[.agg #[.int .u64 a0, .int .u64 a1, .int .u64 a2, .int .u64 a3], .agg #[.int .u64 b0, .int .u64 b1, .int .u64 b2, .int .u64 b3]] w fun e w' => e = .returned (.tuple #[.agg #[.int .u64 s0, .int .u64 s1, .int .u64 s2, .int .u64 s3], .bool (c4 == 1)]) ∧ New w w' := by
  go_enter Tryz.func86, Tryz.ntmps86
  go_wp2
  refine wp_loop_rounds 5 ?_
  rw [rounds_succ]; go_wp2; go_region; go_wp2
  rw [rounds_succ]; go_wp2; go_region; go_wp2
  rw [rounds_succ]; go_wp2; go_region; go_wp2
  rw [rounds_succ]; go_wp2; go_region; go_wp2
  rw [rounds_succ]; go_wp2
  exact bodyPost_ret (v := .tuple #[.agg #[.int .u64 s0, .int .u64 s1, .int .u64 s2, .int .u64 s3], .bool (c4 == 1)]) (by simp [results, Tryz.results86, go_sem]) rfl ⟨rfl, by repeat (first | exact new_refl _ | refine new_drew ?_ | refine new_alloc ?_ _)⟩
theorem sub_any (a b : Nat) (ha : a < M256) (hb : b < M256) (w : World) :
    Calls Tryz.prog 86 #[u a, u b] w fun e w' => e = .returned (.tuple #[u ((a + M256 - b) % M256), .bool (decide (a < b))]) ∧ New w w' := by
  rw [u_mod]
  have va := val_lim a ha
  have vb := val_lim b hb
  obtain ⟨a0, a0'⟩ := lim_bd a 0; obtain ⟨a1, a1'⟩ := lim_bd a 1; obtain ⟨a2, a2'⟩ := lim_bd a 2; obtain ⟨a3, a3'⟩ := lim_bd a 3
  obtain ⟨b0, b0'⟩ := lim_bd b 0; obtain ⟨b1, b1'⟩ := lim_bd b 1; obtain ⟨b2, b2'⟩ := lim_bd b 2; obtain ⟨b3, b3'⟩ := lim_bd b 3
  obtain ⟨s0, c1, A0, s0p, s0q, c1p, c1q, h1⟩ := sub64' (lim a 0) (lim b 0) 0 a0 b0 a0' b0' (by decide) (by decide)
  obtain ⟨s1, c2, A1, s1p, s1q, c2p, c2q, h2⟩ := sub64' (lim a 1) (lim b 1) c1 a1 b1 a1' b1' c1p c1q
  obtain ⟨s2, c3, A2, s2p, s2q, c3p, c3q, h3⟩ := sub64' (lim a 2) (lim b 2) c2 a2 b2 a2' b2' c2p c2q
  obtain ⟨s3, c4, A3, s3p, s3q, c4p, c4q, h4⟩ := sub64' (lim a 3) (lim b 3) c3 a3 b3 a3' b3' c3p c3q
  have h := sub_walk _ _ _ _ _ _ _ _ _ _ _ _ _ _ _ _ A0 A1 A2 A3 w
  have hs := dif_parts _ _ _ _ _ _ _ _ _ _ _ _ _ _ _ _ _ _ va vb h1 h2 h3 h4
  obtain ⟨e0, e1, e2, e3⟩ := lim_of (a + M256 - b) s0 s1 s2 s3 (1 - c4) s0p s0q s1p s1q s2p s2q s3p s3q (dif_of a b s0 s1 s2 s3 c4 hb hs)
  have e4 := low_bit a b s0 s1 s2 s3 c4 s0p s1p s2p s3p s0q s1q s2q s3q c4p c4q hs
  rw [← e0, ← e1, ← e2, ← e3, ← e4] at h
  exact h
theorem add_is (a b s : Nat) (o : Bool) (ha : a < M256) (hb : b < M256) (hs : (a + b) % M256 = s) (ho : decide (M256 ≤ a + b) = o) (w : World) :
    Calls Tryz.prog 97 #[u a, u b] w fun e w' => e = .returned (.tuple #[u s, .bool o]) ∧ New w w' := hs ▸ ho ▸ add_any a b ha hb w
theorem sub_is (a b s : Nat) (o : Bool) (ha : a < M256) (hb : b < M256) (hs : (a + M256 - b) % M256 = s) (ho : decide (a < b) = o) (w : World) :
    Calls Tryz.prog 86 #[u a, u b] w fun e w' => e = .returned (.tuple #[u s, .bool o]) ∧ New w w' := hs ▸ ho ▸ sub_any a b ha hb w
def cmpI (a b : Nat) : Int := if a < b then -1 else if b < a then 1 else 0
end Go.Proofs.YtcfefmbbbfdppaaGreatDoor
namespace Go.Proofs.YtcfefmbbbfdppaaGreatDoor
open Go.RowKit
set_option linter.unusedVariables false
def cmpL (a0 a1 a2 a3 b0 b1 b2 b3 : Int) : Int :=
  if a3 < b3 then -1 else if b3 < a3 then 1 else if a2 < b2 then -1 else if b2 < a2 then 1 else if a1 < b1 then -1 else if b1 < a1 then 1 else if a0 < b0 then -1 else if b0 < a0 then 1 else 0
theorem cmpL_eq (a b : Nat) (a0 a1 a2 a3 b0 b1 b2 b3 : Int) (va : (a : Int) = a0 + 18446744073709551616 * a1 + 340282366920938463463374607431768211456 * a2 + 6277101735386680763835789423207666416102355444464034512896 * a3)
    (vb : (b : Int) = b0 + 18446744073709551616 * b1 + 340282366920938463463374607431768211456 * b2 + 6277101735386680763835789423207666416102355444464034512896 * b3)
    (ha0 : 0 ≤ a0 ∧ a0 < 18446744073709551616) (ha1 : 0 ≤ a1 ∧ a1 < 18446744073709551616) (ha2 : 0 ≤ a2 ∧ a2 < 18446744073709551616)
    (hb0 : 0 ≤ b0 ∧ b0 < 18446744073709551616) (hb1 : 0 ≤ b1 ∧ b1 < 18446744073709551616) (hb2 : 0 ≤ b2 ∧ b2 < 18446744073709551616) :
    cmpL a0 a1 a2 a3 b0 b1 b2 b3 = cmpI a b := by
  unfold cmpL cmpI
  split
  · rw [if_pos (by omega)]
  split
  · rw [if_neg (by omega), if_pos (by omega)]
  obtain rfl : a3 = b3 := by omega
  split
  · rw [if_pos (by omega)]
  split
  · rw [if_neg (by omega), if_pos (by omega)]
  obtain rfl : a2 = b2 := by omega
  split
  · rw [if_pos (by omega)]
  split
  · rw [if_neg (by omega), if_pos (by omega)]
  obtain rfl : a1 = b1 := by omega
  split
  · rw [if_pos (by omega)]
  split
  · rw [if_neg (by omega), if_pos (by omega)]
  · rw [if_neg (by omega), if_neg (by omega)]
theorem cmp_walk (a0 a1 a2 a3 b0 b1 b2 b3 : Int) (w : World) :
    Calls Tryz.prog 46 #[.agg #[.int .u64 a0, .int .u64 a1, .int .u64 a2, .int .u64 a3], .agg #[.int .u64 b0, .int .u64 b1, .int .u64 b2, .int .u64 b3]] w fun e w' => e = .returned (.int .i64 (cmpL a0 a1 a2 a3 b0 b1 b2 b3)) ∧ New w w' := by
  go_enter Tryz.func46, Tryz.ntmps46
  go_wp2
  refine wp_loop_rounds 5 ?_
  rw [rounds_succ]; go_wp2; go_quiet (fail); go_wp2
  · (go_ret; exact ⟨ret_int (by unfold cmpL; repeat (first | rw [if_pos (by omega)] | rw [if_neg (by omega)])), by (repeat' (first | with_reducible exact new_refl _ | with_reducible assumption | with_reducible refine new_drewN ?_ _ | with_reducible refine new_drew ?_ | with_reducible refine new_alloc ?_ _ | with_reducible refine new_set ?_ ?_ _ | with_reducible refine new_freeze ?_ ?_ _ | with_reducible refine new_trans ?_ (by assumption) | (simp; done) | (simp; omega)))⟩)
  go_quiet (fail); go_wp2
  · (go_ret; exact ⟨ret_int (by unfold cmpL; repeat (first | rw [if_pos (by omega)] | rw [if_neg (by omega)])), by (repeat' (first | with_reducible exact new_refl _ | with_reducible assumption | with_reducible refine new_drewN ?_ _ | with_reducible refine new_drew ?_ | with_reducible refine new_alloc ?_ _ | with_reducible refine new_set ?_ ?_ _ | with_reducible refine new_freeze ?_ ?_ _ | with_reducible refine new_trans ?_ (by assumption) | (simp; done) | (simp; omega)))⟩)
  rw [rounds_succ]; go_wp2; go_quiet (fail); go_wp2
  · (go_ret; exact ⟨ret_int (by unfold cmpL; repeat (first | rw [if_pos (by omega)] | rw [if_neg (by omega)])), by (repeat' (first | with_reducible exact new_refl _ | with_reducible assumption | with_reducible refine new_drewN ?_ _ | with_reducible refine new_drew ?_ | with_reducible refine new_alloc ?_ _ | with_reducible refine new_set ?_ ?_ _ | with_reducible refine new_freeze ?_ ?_ _ | with_reducible refine new_trans ?_ (by assumption) | (simp; done) | (simp; omega)))⟩)
  go_quiet (fail); go_wp2
  · (go_ret; exact ⟨ret_int (by unfold cmpL; repeat (first | rw [if_pos (by omega)] | rw [if_neg (by omega)])), by (repeat' (first | with_reducible exact new_refl _ | with_reducible assumption | with_reducible refine new_drewN ?_ _ | with_reducible refine new_drew ?_ | with_reducible refine new_alloc ?_ _ | with_reducible refine new_set ?_ ?_ _ | with_reducible refine new_freeze ?_ ?_ _ | with_reducible refine new_trans ?_ (by assumption) | (simp; done) | (simp; omega)))⟩)
  rw [rounds_succ]; go_wp2; go_quiet (fail); go_wp2
  · (go_ret; exact ⟨ret_int (by unfold cmpL; repeat (first | rw [if_pos (by omega)] | rw [if_neg (by omega)])), by (repeat' (first | with_reducible exact new_refl _ | with_reducible assumption | with_reducible refine new_drewN ?_ _ | with_reducible refine new_drew ?_ | with_reducible refine new_alloc ?_ _ | with_reducible refine new_set ?_ ?_ _ | with_reducible refine new_freeze ?_ ?_ _ | with_reducible refine new_trans ?_ (by assumption) | (simp; done) | (simp; omega)))⟩)
  go_quiet (fail); go_wp2
  · (go_ret; exact ⟨ret_int (by unfold cmpL; repeat (first | rw [if_pos (by omega)] | rw [if_neg (by omega)])), by (repeat' (first | with_reducible exact new_refl _ | with_reducible assumption | with_reducible refine new_drewN ?_ _ | with_reducible refine new_drew ?_ | with_reducible refine new_alloc ?_ _ | with_reducible refine new_set ?_ ?_ _ | with_reducible refine new_freeze ?_ ?_ _ | with_reducible refine new_trans ?_ (by assumption) | (simp; done) | (simp; omega)))⟩)
  rw [rounds_succ]; go_wp2; go_quiet (fail); go_wp2
  · (go_ret; exact ⟨ret_int (by unfold cmpL; repeat (first | rw [if_pos (by omega)] | rw [if_neg (by omega)])), by (repeat' (first | with_reducible exact new_refl _ | with_reducible assumption | with_reducible refine new_drewN ?_ _ | with_reducible refine new_drew ?_ | with_reducible refine new_alloc ?_ _ | with_reducible refine new_set ?_ ?_ _ | with_reducible refine new_freeze ?_ ?_ _ | with_reducible refine new_trans ?_ (by assumption) | (simp; done) | (simp; omega)))⟩)
  go_quiet (fail); go_wp2
  · (go_ret; exact ⟨ret_int (by unfold cmpL; repeat (first | rw [if_pos (by omega)] | rw [if_neg (by omega)])), by (repeat' (first | with_reducible exact new_refl _ | with_reducible assumption | with_reducible refine new_drewN ?_ _ | with_reducible refine new_drew ?_ | with_reducible refine new_alloc ?_ _ | with_reducible refine new_set ?_ ?_ _ | with_reducible refine new_freeze ?_ ?_ _ | with_reducible refine new_trans ?_ (by assumption) | (simp; done) | (simp; omega)))⟩)
  rw [rounds_succ]; go_wp2
  (go_ret; exact ⟨ret_int (by unfold cmpL; repeat (first | rw [if_pos (by omega)] | rw [if_neg (by omega)])), by (repeat' (first | with_reducible exact new_refl _ | with_reducible assumption | with_reducible refine new_drewN ?_ _ | with_reducible refine new_drew ?_ | with_reducible refine new_alloc ?_ _ | with_reducible refine new_set ?_ ?_ _ | with_reducible refine new_freeze ?_ ?_ _ | with_reducible refine new_trans ?_ (by assumption) | (simp; done) | (simp; omega)))⟩)
theorem cmp_any (a b : Nat) (ha : a < M256) (hb : b < M256) (w : World) :
    Calls Tryz.prog 46 #[u a, u b] w fun e w' => e = .returned (.int .i64 (cmpI a b)) ∧ New w w' := by
  have h := cmp_walk (lim a 0) (lim a 1) (lim a 2) (lim a 3) (lim b 0) (lim b 1) (lim b 2) (lim b 3) w
  rw [cmpL_eq a b _ _ _ _ _ _ _ _ (val_lim a ha) (val_lim b hb) (lim_bd a 0) (lim_bd a 1) (lim_bd a 2) (lim_bd b 0) (lim_bd b 1) (lim_bd b 2)] at h
  exact h
theorem cmp_is (a b : Nat) (c : Int) (ha : a < M256) (hb : b < M256) (hc : cmpI a b = c) (w : World) :
    Calls Tryz.prog 46 #[u a, u b] w fun e w' => e = .returned (.int .i64 c) ∧ New w w' := hc ▸ cmp_any a b ha hb w
end Go.Proofs.YtcfefmbbbfdppaaGreatDoor
namespace Go.Proofs.YtcfefmbbbfdppaaGreatDoor
open Go.RowKit
set_option linter.unusedVariables false
set_option maxRecDepth 100000
theorem p_cmp (a b : Nat) (c : Int) (ha : a < M256) (hb : b < M256) (hc : cmpI a b = c) : Pur Tryz.prog 46 [U a, U b] (.int .i64 c) :=
  pur_of_calls (vs := [u a, u b]) rfl rfl rfl (cmp_is a b c ha hb hc)
end Go.Proofs.YtcfefmbbbfdppaaGreatDoor
namespace Go.Proofs.YtcfefmbbbfdppaaGreatDoor
open Go.RowKit Go.Lib Go.IntWalk
set_option linter.unusedVariables false
set_option maxRecDepth 100000
theorem z32_len : z32'.length = 32 := by unfold z32'; rw [List.length_replicate]
end Go.Proofs.YtcfefmbbbfdppaaGreatDoor
namespace Go.Proofs.YtcfefmbbbfdppaaGreatDoor
open Go.RowKit Go.Lib Go.IntWalk
set_option linter.unusedVariables false
set_option maxRecDepth 100000
set_option maxHeartbeats 8000000 in
theorem tr_check (p : Bool) (l : LoadT) (h1 : l.tk.length = 32) (h2 : l.tp.length = 32) (ha : l.am < M256) (hf : l.fe < M256) (r : Bool)
    (hr : decide ((0 ≤ l.ho ∧ l.ho ≤ 65535) ∧ (0 ≤ l.tc ∧ l.tc ≤ 65535) ∧ l.fe ≤ l.am ∧ l.da.length ≤ (if p then 100 else 0)) = r) : Pur Tryz.prog 131 [.agg [.bool p], .agg l.cells] (.bool r) := by
  unfold LoadT.cells
  have fa := ldC_all (k := l.k) (am := l.am) (fe := l.fe) (ho := l.ho) h1 h2 l.tl rfl
  have f0 := ldC_k l.k l.am l.fe l.tk l.ho l.tp l.tl
  have f1 := ldC_am l.k l.am l.fe l.tk l.ho l.tp l.tl
  have f2 := ldC_fe l.k l.am l.fe l.tk l.ho l.tp l.tl
  have f3 := ldC_tk (k := l.k) (am := l.am) (fe := l.fe) (ho := l.ho) (tp := l.tp) h1 l.tl
  have f4 := ldC_ho (k := l.k) (am := l.am) (fe := l.fe) (ho := l.ho) (tp := l.tp) h1 l.tl
  have f5 := ldC_tp (k := l.k) (am := l.am) (fe := l.fe) (ho := l.ho) h1 h2 l.tl
  have f6 := ldC_tl (k := l.k) (am := l.am) (fe := l.fe) (ho := l.ho) h1 h2 0 _ l.tl rfl 74 rfl
  have f7 := ldC_tl (k := l.k) (am := l.am) (fe := l.fe) (ho := l.ho) h1 h2 1 _ l.tl rfl 75 rfl
  have f8 := ldC_tl (k := l.k) (am := l.am) (fe := l.fe) (ho := l.ho) h1 h2 2 _ l.tl rfl 76 rfl
  have f9 := ldC_tl (k := l.k) (am := l.am) (fe := l.fe) (ho := l.ho) h1 h2 3 _ l.tl rfl 77 rfl
  have f10 := ldC_tl (k := l.k) (am := l.am) (fe := l.fe) (ho := l.ho) h1 h2 4 _ l.tl rfl 78 rfl
  have f11 := ldC_tl (k := l.k) (am := l.am) (fe := l.fe) (ho := l.ho) h1 h2 5 _ l.tl rfl 79 rfl
  have hl := ldC_len (k := l.k) (am := l.am) (fe := l.fe) (ho := l.ho) h1 h2 l.tl rfl
  have c1 : ∃ b1, decide (0 ≤ l.ho ∧ l.ho ≤ 65535) = b1 := ⟨_, rfl⟩
  have c2 : ∃ b2, decide (0 ≤ l.tc ∧ l.tc ≤ 65535) = b2 := ⟨_, rfl⟩
  obtain ⟨b1, hb1⟩ := c1
  obtain ⟨b2, hb2⟩ := c2
  have k1 := small_ok l.ho 65535 b1 hb1
  have k2 := small_ok l.tc 65535 b2 hb2
  have k3 := p_cmp l.fe l.am _ hf ha rfl
  have k4 : decide (cmpI l.fe l.am ≤ 0) = decide (l.fe ≤ l.am) := by
    unfold cmpI
    by_cases h : l.fe ≤ l.am
    · rw [decide_eq_true h]
      by_cases h' : l.fe < l.am
      · rw [if_pos h']; rfl
      · rw [if_neg h', if_neg (by omega)]; rfl
    · rw [decide_eq_false h, if_neg (by omega), if_pos (by omega)]; rfl
  generalize cmpI l.fe l.am = cc at *
  have k5 : decide ((l.da.length : Int) ≤ 100) = decide (l.da.length ≤ 100) := by
    by_cases h : l.da.length ≤ 100
    · rw [decide_eq_true h, decide_eq_true (by omega)]
    · rw [decide_eq_false h, decide_eq_false (by omega)]
  have k6 : decide ((l.da.length : Int) = 0) = decide (l.da.length ≤ 0) := by
    by_cases h : l.da.length ≤ 0
    · rw [decide_eq_true h, decide_eq_true (by omega)]
    · rw [decide_eq_false h, decide_eq_false (by omega)]
  have hr' : (b1 && (b2 && (decide (l.fe ≤ l.am) && decide (l.da.length ≤ (if p then 100 else 0))))) = r := by
    rw [← hr, ← hb1, ← hb2]; simp only [Bool.decide_and]
  clear hr hb1 hb2
  generalize decide (l.fe ≤ l.am) = b3 at *
  cases p with
  | true =>
    simp only [if_true] at hr'
    generalize decide (l.da.length ≤ 100) = b4 at *
    generalize decide (l.da.length ≤ 0) = b5 at *
    generalize ldC l.k l.am l.fe l.tk l.ho l.tp l.tl = X at *
    obtain ⟨k, am, fe, tk, ho, tp, tc, de, sy, da, ix, kn, kz⟩ := l
    dsimp only at *
    cases b1 with
    | false =>
      subst hr'
      refine pur_intro Tryz.func131 rfl Tryz.ntmps131 rfl (by first | rfl | assumption | exact bs_cl _) fun B => ?_
      repeat (first | refine zC ?_ | refine k_load rfl rfl rfl (f1 _) ?_ | refine k_load rfl rfl rfl (f2 _) ?_ | refine k_load rfl rfl rfl (f4 _) ?_ | refine k_load rfl rfl rfl (f6 _) ?_ | refine k_load rfl rfl rfl (f9 _) ?_ | refine zA ?_ | refine k_call rfl k1 rfl rfl rfl rfl ?_ | refine k_call rfl k2 rfl rfl rfl rfl ?_ | refine k_call rfl k3 rfl rfl rfl rfl ?_ | refine k_leq rfl rfl rfl k4 ?_ | refine k_leq rfl rfl rfl k5 ?_ | refine zB ?_)
      (first | with_reducible refine q_endr ?_); refine rets1 Tryz.results131 (by exact zv) ?_
      rfl
    | true =>
      cases b2 with
      | false =>
        subst hr'
        refine pur_intro Tryz.func131 rfl Tryz.ntmps131 rfl (by first | rfl | assumption | exact bs_cl _) fun B => ?_
        repeat (first | refine zC ?_ | refine k_load rfl rfl rfl (f1 _) ?_ | refine k_load rfl rfl rfl (f2 _) ?_ | refine k_load rfl rfl rfl (f4 _) ?_ | refine k_load rfl rfl rfl (f6 _) ?_ | refine k_load rfl rfl rfl (f9 _) ?_ | refine zA ?_ | refine k_call rfl k1 rfl rfl rfl rfl ?_ | refine k_call rfl k2 rfl rfl rfl rfl ?_ | refine k_call rfl k3 rfl rfl rfl rfl ?_ | refine k_leq rfl rfl rfl k4 ?_ | refine k_leq rfl rfl rfl k5 ?_ | refine zB ?_)
        (first | with_reducible refine q_endr ?_); refine rets1 Tryz.results131 (by exact zv) ?_
        rfl
      | true =>
        cases b3 with
        | false =>
          subst hr'
          refine pur_intro Tryz.func131 rfl Tryz.ntmps131 rfl (by first | rfl | assumption | exact bs_cl _) fun B => ?_
          repeat (first | refine zC ?_ | refine k_load rfl rfl rfl (f1 _) ?_ | refine k_load rfl rfl rfl (f2 _) ?_ | refine k_load rfl rfl rfl (f4 _) ?_ | refine k_load rfl rfl rfl (f6 _) ?_ | refine k_load rfl rfl rfl (f9 _) ?_ | refine zA ?_ | refine k_call rfl k1 rfl rfl rfl rfl ?_ | refine k_call rfl k2 rfl rfl rfl rfl ?_ | refine k_call rfl k3 rfl rfl rfl rfl ?_ | refine k_leq rfl rfl rfl k4 ?_ | refine k_leq rfl rfl rfl k5 ?_ | refine zB ?_)
          (first | with_reducible refine q_endr ?_); refine rets1 Tryz.results131 (by exact zv) ?_
          rfl
        | true =>
          cases b4 with
          | false =>
            subst hr'
            refine pur_intro Tryz.func131 rfl Tryz.ntmps131 rfl (by first | rfl | assumption | exact bs_cl _) fun B => ?_
            repeat (first | refine zC ?_ | refine k_load rfl rfl rfl (f1 _) ?_ | refine k_load rfl rfl rfl (f2 _) ?_ | refine k_load rfl rfl rfl (f4 _) ?_ | refine k_load rfl rfl rfl (f6 _) ?_ | refine k_load rfl rfl rfl (f9 _) ?_ | refine zA ?_ | refine k_call rfl k1 rfl rfl rfl rfl ?_ | refine k_call rfl k2 rfl rfl rfl rfl ?_ | refine k_call rfl k3 rfl rfl rfl rfl ?_ | refine k_leq rfl rfl rfl k4 ?_ | refine k_leq rfl rfl rfl k5 ?_ | refine zB ?_)
            (first | with_reducible refine q_endr ?_); refine rets1 Tryz.results131 (by exact zv) ?_
            rfl
          | true =>
            subst hr'
            refine pur_intro Tryz.func131 rfl Tryz.ntmps131 rfl (by first | rfl | assumption | exact bs_cl _) fun B => ?_
            repeat (first | refine zC ?_ | refine k_load rfl rfl rfl (f1 _) ?_ | refine k_load rfl rfl rfl (f2 _) ?_ | refine k_load rfl rfl rfl (f4 _) ?_ | refine k_load rfl rfl rfl (f6 _) ?_ | refine k_load rfl rfl rfl (f9 _) ?_ | refine zA ?_ | refine k_call rfl k1 rfl rfl rfl rfl ?_ | refine k_call rfl k2 rfl rfl rfl rfl ?_ | refine k_call rfl k3 rfl rfl rfl rfl ?_ | refine k_leq rfl rfl rfl k4 ?_ | refine k_leq rfl rfl rfl k5 ?_ | refine zB ?_)
            (first | with_reducible refine q_endr ?_); refine rets1 Tryz.results131 (by exact zv) ?_
            rfl
  | false =>
    simp only [if_false, Bool.false_eq_true] at hr'
    generalize decide (l.da.length ≤ 0) = b4 at *
    generalize ldC l.k l.am l.fe l.tk l.ho l.tp l.tl = X at *
    obtain ⟨k, am, fe, tk, ho, tp, tc, de, sy, da, ix, kn, kz⟩ := l
    dsimp only at *
    cases b1 with
    | false =>
      subst hr'
      refine pur_intro Tryz.func131 rfl Tryz.ntmps131 rfl (by first | rfl | assumption | exact bs_cl _) fun B => ?_
      repeat (first | refine zC ?_ | refine k_load rfl rfl rfl (f1 _) ?_ | refine k_load rfl rfl rfl (f2 _) ?_ | refine k_load rfl rfl rfl (f4 _) ?_ | refine k_load rfl rfl rfl (f6 _) ?_ | refine k_load rfl rfl rfl (f9 _) ?_ | refine zA ?_ | refine k_call rfl k1 rfl rfl rfl rfl ?_ | refine k_call rfl k2 rfl rfl rfl rfl ?_ | refine k_call rfl k3 rfl rfl rfl rfl ?_ | refine k_leq rfl rfl rfl k4 ?_ | refine k_eql rfl rfl rfl k6 ?_ | refine zB ?_)
      (first | with_reducible refine q_endr ?_); refine rets1 Tryz.results131 (by exact zv) ?_
      rfl
    | true =>
      cases b2 with
      | false =>
        subst hr'
        refine pur_intro Tryz.func131 rfl Tryz.ntmps131 rfl (by first | rfl | assumption | exact bs_cl _) fun B => ?_
        repeat (first | refine zC ?_ | refine k_load rfl rfl rfl (f1 _) ?_ | refine k_load rfl rfl rfl (f2 _) ?_ | refine k_load rfl rfl rfl (f4 _) ?_ | refine k_load rfl rfl rfl (f6 _) ?_ | refine k_load rfl rfl rfl (f9 _) ?_ | refine zA ?_ | refine k_call rfl k1 rfl rfl rfl rfl ?_ | refine k_call rfl k2 rfl rfl rfl rfl ?_ | refine k_call rfl k3 rfl rfl rfl rfl ?_ | refine k_leq rfl rfl rfl k4 ?_ | refine k_eql rfl rfl rfl k6 ?_ | refine zB ?_)
        (first | with_reducible refine q_endr ?_); refine rets1 Tryz.results131 (by exact zv) ?_
        rfl
      | true =>
        cases b3 with
        | false =>
          subst hr'
          refine pur_intro Tryz.func131 rfl Tryz.ntmps131 rfl (by first | rfl | assumption | exact bs_cl _) fun B => ?_
          repeat (first | refine zC ?_ | refine k_load rfl rfl rfl (f1 _) ?_ | refine k_load rfl rfl rfl (f2 _) ?_ | refine k_load rfl rfl rfl (f4 _) ?_ | refine k_load rfl rfl rfl (f6 _) ?_ | refine k_load rfl rfl rfl (f9 _) ?_ | refine zA ?_ | refine k_call rfl k1 rfl rfl rfl rfl ?_ | refine k_call rfl k2 rfl rfl rfl rfl ?_ | refine k_call rfl k3 rfl rfl rfl rfl ?_ | refine k_leq rfl rfl rfl k4 ?_ | refine k_eql rfl rfl rfl k6 ?_ | refine zB ?_)
          (first | with_reducible refine q_endr ?_); refine rets1 Tryz.results131 (by exact zv) ?_
          rfl
        | true =>
          subst hr'
          refine pur_intro Tryz.func131 rfl Tryz.ntmps131 rfl (by first | rfl | assumption | exact bs_cl _) fun B => ?_
          repeat (first | refine zC ?_ | refine k_load rfl rfl rfl (f1 _) ?_ | refine k_load rfl rfl rfl (f2 _) ?_ | refine k_load rfl rfl rfl (f4 _) ?_ | refine k_load rfl rfl rfl (f6 _) ?_ | refine k_load rfl rfl rfl (f9 _) ?_ | refine zA ?_ | refine k_call rfl k1 rfl rfl rfl rfl ?_ | refine k_call rfl k2 rfl rfl rfl rfl ?_ | refine k_call rfl k3 rfl rfl rfl rfl ?_ | refine k_leq rfl rfl rfl k4 ?_ | refine k_eql rfl rfl rfl k6 ?_ | refine zB ?_)
          (first | with_reducible refine q_endr ?_); refine rets1 Tryz.results131 (by exact zv) ?_
          rfl
end Go.Proofs.YtcfefmbbbfdppaaGreatDoor
