/- What a long division by bits does to numbers: plain arithmetic; no program in sight but the names of limbs. -/
import Derived.Test.YtpdhbddkcnffbaaKit
namespace Go.Proofs.Ytpdhbddkcnffbaa
open Go.RowKit
set_option linter.unusedVariables false

/-- what is left, and the quotient in its place, when the bits above k have been gone through -/
def restk (a b k : Nat) : Nat := a / 2 ^ k % b
def quok (a b k : Nat) : Nat := a / 2 ^ k / b * 2 ^ k

theorem half_step (a i : Nat) : a / 2 ^ i = 2 * (a / 2 ^ (i + 1)) + a / 2 ^ i % 2 := by
  rw [Nat.pow_succ, ← Nat.div_div_eq_div_mul]; omega

theorem div_hi (A b bit : Nat) (hb : 0 < b) (h : b ≤ 2 * (A % b) + bit) (hbit : bit ≤ 1) : (2 * A + bit) / b = 2 * (A / b) + 1 ∧ (2 * A + bit) % b = 2 * (A % b) + bit - b := by
  have h1 := Nat.div_add_mod A b
  have h2 := Nat.mod_lt A hb
  have e : 2 * A + bit = (2 * (A % b) + bit - b) + b * (2 * (A / b) + 1) := by
    rw [Nat.mul_add, Nat.mul_left_comm]; omega
  rw [e]
  refine ⟨?_, ?_⟩
  · rw [Nat.add_mul_div_left _ _ hb, Nat.div_eq_of_lt (by omega)]; omega
  · rw [Nat.add_mul_mod_self_left, Nat.mod_eq_of_lt (by omega)]
theorem div_lo (A b bit : Nat) (hb : 0 < b) (h : 2 * (A % b) + bit < b) : (2 * A + bit) / b = 2 * (A / b) ∧ (2 * A + bit) % b = 2 * (A % b) + bit := by
  have h1 := Nat.div_add_mod A b
  have e : 2 * A + bit = (2 * (A % b) + bit) + b * (2 * (A / b)) := by
    rw [Nat.mul_left_comm]; omega
  rw [e]
  refine ⟨?_, ?_⟩
  · rw [Nat.add_mul_div_left _ _ hb, Nat.div_eq_of_lt h]; omega
  · rw [Nat.add_mul_mod_self_left, Nat.mod_eq_of_lt h]

theorem step_hi (a b i : Nat) (hb : 0 < b) (h : b ≤ 2 * restk a b (i + 1) + a / 2 ^ i % 2) :
    restk a b i = 2 * restk a b (i + 1) + a / 2 ^ i % 2 - b ∧ quok a b i = quok a b (i + 1) + 2 ^ i := by
  unfold restk quok at *
  have e := half_step a i
  have hbit : a / 2 ^ i % 2 ≤ 1 := by omega
  generalize a / 2 ^ i % 2 = bit at *
  rw [e]
  obtain ⟨h1, h2⟩ := div_hi (a / 2 ^ (i + 1)) b bit hb h hbit
  rw [h1, h2]
  refine ⟨rfl, ?_⟩
  rw [Nat.add_mul, Nat.one_mul, Nat.pow_succ, Nat.mul_comm 2, Nat.mul_assoc, Nat.mul_comm 2]
theorem step_lo (a b i : Nat) (hb : 0 < b) (h : 2 * restk a b (i + 1) + a / 2 ^ i % 2 < b) :
    restk a b i = 2 * restk a b (i + 1) + a / 2 ^ i % 2 ∧ quok a b i = quok a b (i + 1) := by
  unfold restk quok at *
  have e := half_step a i
  generalize a / 2 ^ i % 2 = bit at *
  rw [e]
  obtain ⟨h1, h2⟩ := div_lo (a / 2 ^ (i + 1)) b bit hb h
  rw [h1, h2]
  refine ⟨rfl, ?_⟩
  rw [Nat.pow_succ, Nat.mul_comm 2, Nat.mul_assoc, Nat.mul_comm 2]

theorem restk_lt (a b k : Nat) (hb : 0 < b) : restk a b k < b := Nat.mod_lt _ hb
theorem quok_le (a b k : Nat) : quok a b k ≤ a := by
  unfold quok
  exact Nat.le_trans (Nat.mul_le_mul_right _ (Nat.div_le_self _ _)) (Nat.div_mul_le_self _ _)
theorem start_k (a b k : Nat) (h : a < 2 ^ k) : restk a b k = 0 ∧ quok a b k = 0 := by
  unfold restk quok
  rw [Nat.div_eq_of_lt h]; simp
theorem end_k (a b : Nat) : restk a b 0 = a % b ∧ quok a b 0 = a / b := by
  unfold restk quok; simp

/-! ### limbs -/
theorem lim_pow (n q : Nat) : lim n q = ((n / 2 ^ (64 * q) % 2 ^ 64 : Nat) : Int) := by
  unfold lim
  rw [show (18446744073709551616 : Nat) ^ q = 2 ^ (64 * q) from by rw [Nat.pow_mul]]

theorem or_low (c x t : Nat) (hx : x < 2 ^ t) (h : 2 ^ t * c + x < 2 ^ 64) : bits BinOp.or IntKind.u64 ((2 ^ t * c : Nat) : Int) (x : Int) = ((2 ^ t * c + x : Nat) : Int) := by
  rw [bits_or_u64_nat _ _ (by omega) (by omega), Nat.two_pow_add_eq_or_of_lt hx]

/-- an even number with one more bit -/
theorem or_bit0 (s bit : Nat) (hs : s % 2 = 0) (hb : bit ≤ 1) : bits BinOp.or IntKind.u64 (lim s 0) (bit : Int) = lim (s + bit) 0 ∧ lim (s + bit) 1 = lim s 1 ∧ lim (s + bit) 2 = lim s 2 ∧ lim (s + bit) 3 = lim s 3 := by
  refine ⟨?_, ?_, ?_, ?_⟩
  · rw [lim0, lim0]
    have e : s % 18446744073709551616 = 2 ^ 1 * (s % 18446744073709551616 / 2) := by omega
    rw [e, or_low _ _ 1 (by omega) (by omega)]
    omega
  · rw [lim1, lim1]; omega
  · rw [lim2, lim2]; omega
  · rw [lim3, lim3]; omega

/-- a number that ends in i + 1 noughts with bit i more -/
theorem or_bit (c q t : Nat) (ht : t < 64) : 
    (∀ m, m ≠ q → lim (c * 2 ^ (64 * q + t + 1) + 2 ^ (64 * q + t)) m = lim (c * 2 ^ (64 * q + t + 1)) m) ∧
    bits BinOp.or IntKind.u64 (lim (c * 2 ^ (64 * q + t + 1)) q) ((2 ^ t : Nat) : Int) = lim (c * 2 ^ (64 * q + t + 1) + 2 ^ (64 * q + t)) q := by
  have e1 : c * 2 ^ (64 * q + t + 1) = 2 ^ (64 * q) * (2 ^ (t + 1) * c) := by
    rw [show 64 * q + t + 1 = 64 * q + (t + 1) from by omega, Nat.pow_add, Nat.mul_comm c, Nat.mul_assoc]
  have e2 : (2 : Nat) ^ (64 * q + t) = 2 ^ (64 * q) * 2 ^ t := Nat.pow_add 2 _ _
  have e3 : c * 2 ^ (64 * q + t + 1) + 2 ^ (64 * q + t) = 2 ^ (64 * q) * (2 ^ (t + 1) * c + 2 ^ t) := by rw [e1, e2, Nat.mul_add]
  have hp : 0 < 2 ^ (64 * q) := Nat.pow_pos (by decide)
  refine ⟨fun m hm => ?_, ?_⟩
  · rw [lim_pow, lim_pow]
    rcases Nat.lt_or_gt_of_ne hm with h | h
    · -- below: both end in noughts
      have e4 : 2 ^ (64 * q) = 2 ^ (64 * m) * (2 ^ 64 * 2 ^ (64 * (q - m - 1))) := by
        rw [← Nat.pow_add, ← Nat.pow_add]; congr 1; omega
      have hm0 : 0 < 2 ^ (64 * m) := Nat.pow_pos (by decide)
      have nought : ∀ X : Nat, 2 ^ (64 * q) * X / 2 ^ (64 * m) % 2 ^ 64 = 0 := fun X => by
        rw [e4, Nat.mul_assoc, Nat.mul_div_cancel_left _ hm0, Nat.mul_assoc, Nat.mul_mod_right]
      rw [e3, e1, nought, nought]
    · -- above: nothing has turned
      have e4 : 2 ^ (64 * m) = 2 ^ (64 * q + t + 1) * 2 ^ (64 * m - (64 * q + t + 1)) := by
        rw [← Nat.pow_add]; congr 1; omega
      have hk : 0 < 2 ^ (64 * q + t + 1) := Nat.pow_pos (by decide)
      have e5 : (c * 2 ^ (64 * q + t + 1) + 2 ^ (64 * q + t)) / 2 ^ (64 * q + t + 1) = c := by
        rw [Nat.mul_comm c, Nat.mul_add_div hk, Nat.div_eq_of_lt (Nat.pow_lt_pow_right (by decide) (by omega)), Nat.add_zero]
      rw [e4, ← Nat.div_div_eq_div_mul, ← Nat.div_div_eq_div_mul, e5, Nat.mul_div_cancel _ hk]
  · rw [lim_pow, lim_pow, e3, e1, Nat.mul_div_cancel_left _ hp, Nat.mul_div_cancel_left _ hp]
    have e6 : 2 ^ 64 = 2 ^ (t + 1) * 2 ^ (63 - t) := by rw [← Nat.pow_add]; congr 1; omega
    have e7 : 2 ^ (t + 1) * c % 2 ^ 64 = 2 ^ (t + 1) * (c % 2 ^ (63 - t)) := by rw [e6, Nat.mul_mod_mul_left]
    have e8 : (2 ^ (t + 1) * c + 2 ^ t) % 2 ^ 64 = 2 ^ (t + 1) * (c % 2 ^ (63 - t)) + 2 ^ t := by
      have h1 : c = 2 ^ (63 - t) * (c / 2 ^ (63 - t)) + c % 2 ^ (63 - t) := (Nat.div_add_mod _ _).symm
      have h2 : c % 2 ^ (63 - t) < 2 ^ (63 - t) := Nat.mod_lt _ (Nat.pow_pos (by decide))
      have h3 : 2 ^ (t + 1) * (c % 2 ^ (63 - t)) + 2 ^ t < 2 ^ 64 := by
        have : 2 ^ (t + 1) * (c % 2 ^ (63 - t) + 1) ≤ 2 ^ 64 := by rw [e6]; exact Nat.mul_le_mul_left _ h2
        have h5 : 2 ^ t < 2 ^ (t + 1) := Nat.pow_lt_pow_right (by decide) (by omega)
        rw [Nat.mul_add, Nat.mul_one] at this; omega
      have h4 : 2 ^ (t + 1) * c + 2 ^ t = 2 ^ 64 * (c / 2 ^ (63 - t)) + (2 ^ (t + 1) * (c % 2 ^ (63 - t)) + 2 ^ t) := by
        conv => lhs; rw [h1]
        rw [Nat.mul_add, ← Nat.mul_assoc, ← e6, Nat.add_assoc]
      rw [h4, Nat.mul_add_mod, Nat.mod_eq_of_lt h3]
    have h3 : 2 ^ (t + 1) * (c % 2 ^ (63 - t)) + 2 ^ t < 2 ^ 64 := by rw [← e8]; exact Nat.mod_lt _ (Nat.pow_pos (by decide))
    rw [e7, e8, or_low _ _ (t + 1) (Nat.pow_lt_pow_right (by decide) (by omega)) h3]

theorem uc_get (n q : Nat) (hq : q < 4) : (uc n)[q]? = some (.int .u64 (lim n q)) := by
  have h : q = 0 ∨ q = 1 ∨ q = 2 ∨ q = 3 := by omega
  rcases h with rfl | rfl | rfl | rfl <;> rfl
theorem uc_set (n n' q : Nat) (hq : q < 4) (h : ∀ m, m ≠ q → m < 4 → lim n' m = lim n m) : (uc n).setIfInBounds q (.int .u64 (lim n' q)) = uc n' := by
  have h' : q = 0 ∨ q = 1 ∨ q = 2 ∨ q = 3 := by omega
  rcases h' with rfl | rfl | rfl | rfl
  · simp [uc, h 1 (by decide) (by decide), h 2 (by decide) (by decide), h 3 (by decide) (by decide)]
  · simp [uc, h 0 (by decide) (by decide), h 2 (by decide) (by decide), h 3 (by decide) (by decide)]
  · simp [uc, h 0 (by decide) (by decide), h 1 (by decide) (by decide), h 3 (by decide) (by decide)]
  · simp [uc, h 0 (by decide) (by decide), h 1 (by decide) (by decide), h 2 (by decide) (by decide)]
end Go.Proofs.Ytpdhbddkcnffbaa
