/- wide.bit: bit number i of a number. -/
import Derived.Test.YtpdhbddkcnffbaaAdd
import Derived.WalkSmall
namespace Go.Proofs.Ytpdhbddkcnffbaa
open Go.RowKit
set_option linter.unusedVariables false

theorem and_one (x : Int) (t : Nat) (hx : 0 ≤ x) (hx' : x < 18446744073709551616) : bits BinOp.and IntKind.u64 (x / 2 ^ t) 1 = x / 2 ^ t % 2 := by
  have h0 : 0 ≤ x / 2 ^ t := Int.ediv_nonneg hx (Int.le_of_lt (Int.pow_pos (by decide)))
  have h1 : x / 2 ^ t ≤ x := Int.ediv_le_self _ hx
  obtain ⟨y, hy⟩ := Int.eq_ofNat_of_zero_le h0
  rw [hy]
  exact and_one_u64 _ (by omega) (by omega)

set_option maxRecDepth 100000 in
theorem bit_0 (x0 x1 x2 x3 : Int) (i : Int) (t : Nat) (e1 : i / 64 = 0) (e2 : i % 64 = t) (h0 : 0 ≤ i) (h1 : i < 256) (ht : (t : Int) < 64) (hx : 0 ≤ x0) (hx' : x0 < 18446744073709551616) (w : World) :
    Calls Try.prog 47 #[.agg #[.int .u64 x0, .int .u64 x1, .int .u64 x2, .int .u64 x3], .int .i64 i] w fun e w' => e = .returned (.int .u64 (x0 / 2 ^ t % 2)) ∧ New w w' := by
  have E := hide (and_one x0 t hx hx')
  go_enter Try.func47, Try.ntmps47
  go_wp2
  go_ret
  exact ⟨ret_int (unhide E), by (repeat' (first | with_reducible exact new_refl _ | with_reducible assumption | with_reducible refine new_drewN ?_ _ | with_reducible refine new_drew ?_ | with_reducible refine new_alloc ?_ _ | with_reducible refine new_set ?_ ?_ _ | with_reducible refine new_freeze ?_ ?_ _ | with_reducible refine new_trans ?_ (by assumption) | (simp; done) | (simp; omega)))⟩

set_option maxRecDepth 100000 in
theorem bit_1 (x0 x1 x2 x3 : Int) (i : Int) (t : Nat) (e1 : i / 64 = 1) (e2 : i % 64 = t) (h0 : 0 ≤ i) (h1 : i < 256) (ht : (t : Int) < 64) (hx : 0 ≤ x1) (hx' : x1 < 18446744073709551616) (w : World) :
    Calls Try.prog 47 #[.agg #[.int .u64 x0, .int .u64 x1, .int .u64 x2, .int .u64 x3], .int .i64 i] w fun e w' => e = .returned (.int .u64 (x1 / 2 ^ t % 2)) ∧ New w w' := by
  have E := hide (and_one x1 t hx hx')
  go_enter Try.func47, Try.ntmps47
  go_wp2
  go_ret
  exact ⟨ret_int (unhide E), by (repeat' (first | with_reducible exact new_refl _ | with_reducible assumption | with_reducible refine new_drewN ?_ _ | with_reducible refine new_drew ?_ | with_reducible refine new_alloc ?_ _ | with_reducible refine new_set ?_ ?_ _ | with_reducible refine new_freeze ?_ ?_ _ | with_reducible refine new_trans ?_ (by assumption) | (simp; done) | (simp; omega)))⟩

set_option maxRecDepth 100000 in
theorem bit_2 (x0 x1 x2 x3 : Int) (i : Int) (t : Nat) (e1 : i / 64 = 2) (e2 : i % 64 = t) (h0 : 0 ≤ i) (h1 : i < 256) (ht : (t : Int) < 64) (hx : 0 ≤ x2) (hx' : x2 < 18446744073709551616) (w : World) :
    Calls Try.prog 47 #[.agg #[.int .u64 x0, .int .u64 x1, .int .u64 x2, .int .u64 x3], .int .i64 i] w fun e w' => e = .returned (.int .u64 (x2 / 2 ^ t % 2)) ∧ New w w' := by
  have E := hide (and_one x2 t hx hx')
  go_enter Try.func47, Try.ntmps47
  go_wp2
  go_ret
  exact ⟨ret_int (unhide E), by (repeat' (first | with_reducible exact new_refl _ | with_reducible assumption | with_reducible refine new_drewN ?_ _ | with_reducible refine new_drew ?_ | with_reducible refine new_alloc ?_ _ | with_reducible refine new_set ?_ ?_ _ | with_reducible refine new_freeze ?_ ?_ _ | with_reducible refine new_trans ?_ (by assumption) | (simp; done) | (simp; omega)))⟩

set_option maxRecDepth 100000 in
theorem bit_3 (x0 x1 x2 x3 : Int) (i : Int) (t : Nat) (e1 : i / 64 = 3) (e2 : i % 64 = t) (h0 : 0 ≤ i) (h1 : i < 256) (ht : (t : Int) < 64) (hx : 0 ≤ x3) (hx' : x3 < 18446744073709551616) (w : World) :
    Calls Try.prog 47 #[.agg #[.int .u64 x0, .int .u64 x1, .int .u64 x2, .int .u64 x3], .int .i64 i] w fun e w' => e = .returned (.int .u64 (x3 / 2 ^ t % 2)) ∧ New w w' := by
  have E := hide (and_one x3 t hx hx')
  go_enter Try.func47, Try.ntmps47
  go_wp2
  go_ret
  exact ⟨ret_int (unhide E), by (repeat' (first | with_reducible exact new_refl _ | with_reducible assumption | with_reducible refine new_drewN ?_ _ | with_reducible refine new_drew ?_ | with_reducible refine new_alloc ?_ _ | with_reducible refine new_set ?_ ?_ _ | with_reducible refine new_freeze ?_ ?_ _ | with_reducible refine new_trans ?_ (by assumption) | (simp; done) | (simp; omega)))⟩

theorem lim_bit (a q t : Nat) (ht : t < 64) : lim a q / 2 ^ t % 2 = ((a / 2 ^ (64 * q + t) % 2 : Nat) : Int) := by
  unfold lim
  have h : (18446744073709551616 : Nat) ^ q = 2 ^ (64 * q) := by rw [Nat.pow_mul]
  rw [h, Nat.pow_add, ← Nat.div_div_eq_div_mul]
  have e : ((2 : Int) ^ t) = ((2 ^ t : Nat) : Int) := by simp
  rw [e]
  generalize a / 2 ^ (64 * q) = y
  have e2 : (18446744073709551616 : Nat) = 2 ^ t * 2 ^ (64 - t) := by rw [← Nat.pow_add, show t + (64 - t) = 64 from by omega]
  have e3 : (2 : Nat) ^ (64 - t) = 2 * 2 ^ (63 - t) := by rw [show 64 - t = (63 - t) + 1 from by omega, Nat.pow_succ, Nat.mul_comm]
  have : y % 18446744073709551616 / 2 ^ t % 2 = y / 2 ^ t % 2 := by
    rw [e2, Nat.mod_mul_right_div_self, e3, Nat.mod_mul_right_mod]
  omega

theorem bit_any (a i : Nat) (hi : i < 256) (w : World) :
    Calls Try.prog 47 #[u a, .int .i64 i] w fun e w' => e = .returned (.int .u64 ((a / 2 ^ i % 2 : Nat) : Int)) ∧ New w w' := by
  obtain ⟨q, t, ht, rfl⟩ : ∃ q t, t < 64 ∧ i = 64 * q + t := ⟨i / 64, i % 64, by omega, by omega⟩
  rw [← lim_bit a q t ht]
  have hq : q = 0 ∨ q = 1 ∨ q = 2 ∨ q = 3 := by omega
  rcases hq with rfl | rfl | rfl | rfl
  · exact bit_0 _ _ _ _ _ t (by omega) (by omega) (by omega) (by omega) (by omega) (lim_nonneg a 0) (lim_lt a 0) w
  · exact bit_1 _ _ _ _ _ t (by omega) (by omega) (by omega) (by omega) (by omega) (lim_nonneg a 1) (lim_lt a 1) w
  · exact bit_2 _ _ _ _ _ t (by omega) (by omega) (by omega) (by omega) (by omega) (lim_nonneg a 2) (lim_lt a 2) w
  · exact bit_3 _ _ _ _ _ t (by omega) (by omega) (by omega) (by omega) (by omega) (lim_nonneg a 3) (lim_lt a 3) w
end Go.Proofs.Ytpdhbddkcnffbaa
