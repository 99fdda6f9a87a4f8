/- What a long division by bits does to numbers: plain arithmetic; no program in sight but the names of limbs. -/
import Derived.Test.YtcfefmbbbfdppaaGreatDoorSLoad5
import Derived.Shelf.Strconv.Itoa0
import Derived.Lib.BitFns
import Derived.Test.YtcfefmbbbfdppaaGreatDoorSKit
namespace Go.Proofs.YtcfefmbbbfdppaaGreatDoor
open Go.RowKit Go.Shelf
set_option linter.unusedVariables false
def lays129_ren : Go.Shelf.Ren := ⟨fun | 129 => 110 | n => n, fun | 53 => 25 | 3 => 3 | 4 => 4 | 46 => 146 | 5 => 5 | 9 => 9 | n => n, fun | n => n⟩
theorem lays129 : Go.Proofs.Lays.n129 Tryz.prog lays129_ren := {
  mixed := by kernel_rfl
  f129 := Tryz.func110.trans (congrArg some (by kernel_rfl))
  t3 := Tryz.underlying3
  a3 := Tryz.isAgg3
  z3 := Tryz.sizeOf3
  v3 := Tryz.zeroValue3
  t4 := Tryz.underlying4
  a4 := Tryz.isAgg4
  z4 := Tryz.sizeOf4
  v4 := Tryz.zeroValue4
  t5 := Tryz.underlying5
  a5 := Tryz.isAgg5
  z5 := Tryz.sizeOf5
  v5 := Tryz.zeroValue5
  t9 := Tryz.underlying9
  a9 := Tryz.isAgg9
  z9 := Tryz.sizeOf9
  v9 := Tryz.zeroValue9
  t46 := Tryz.underlying146
  a46 := Tryz.isAgg146
  z46 := Tryz.sizeOf146
  v46 := Tryz.zeroValue146
  t53 := Tryz.underlying25
  a53 := Tryz.isAgg25
  z53 := Tryz.sizeOf25
  v53 := Tryz.zeroValue25 }
theorem len64 (x : Int) (w : World) (h0 : 0 ≤ x) (h1 : x ≤ 18446744073709551615) :
    Calls Tryz.prog 110 #[.int .u64 x] w fun e w' => e = .returned (.int .i64 (Lib.bitLen x.toNat : Int)) ∧ w' = w := Any.bits_Len64 lays129 x w h0 h1
theorem bitLen_le : ∀ (f x : Nat), Lib.bitLenAux f x ≤ f
  | 0, _ => by simp [Lib.bitLenAux]
  | f + 1, x => by
    unfold Lib.bitLenAux
    split
    · omega
    · have := bitLen_le f (x / 2); omega
theorem bitLen_lt : ∀ (f x : Nat), x < 2 ^ f → x < 2 ^ Lib.bitLenAux f x
  | 0, x, h => by simpa [Lib.bitLenAux] using h
  | f + 1, x, h => by
    unfold Lib.bitLenAux
    split
    · omega
    · have h2 : x / 2 < 2 ^ f := by rw [Nat.pow_succ] at h; omega
      have := bitLen_lt f (x / 2) h2
      rw [Nat.add_comm, Nat.pow_succ]; omega
def bl (x : Int) : Int := (Lib.bitLen x.toNat : Int)
theorem bl_bd (x : Int) : 0 ≤ bl x ∧ bl x ≤ 64 := ⟨Int.natCast_nonneg _, by have := bitLen_le 64 x.toNat; unfold bl Lib.bitLen; omega⟩
theorem bl_any (x : Int) (w : World) (h0 : 0 ≤ x) (h1 : x < 18446744073709551616) :
    Calls Tryz.prog 110 #[.int .u64 x] w fun e w' => e = .returned (.int .i64 (bl x)) ∧ w = w' := (len64 x w h0 (by omega)).mono fun e w' h => ⟨h.1, h.2.symm⟩
@[go_sem] theorem idx_u256_0 (y0 y1 y2 y3 : Value) (w : World) : (Instr.index 27 (.agg #[y0, y1, y2, y3]) (.int .i64 0)).run Tryz.prog w = .ok y0 w := by kernel_rfl
@[go_sem] theorem idx_u256_1 (y0 y1 y2 y3 : Value) (w : World) : (Instr.index 27 (.agg #[y0, y1, y2, y3]) (.int .i64 1)).run Tryz.prog w = .ok y1 w := by kernel_rfl
@[go_sem] theorem idx_u256_2 (y0 y1 y2 y3 : Value) (w : World) : (Instr.index 27 (.agg #[y0, y1, y2, y3]) (.int .i64 2)).run Tryz.prog w = .ok y2 w := by kernel_rfl
@[go_sem] theorem idx_u256_3 (y0 y1 y2 y3 : Value) (w : World) : (Instr.index 27 (.agg #[y0, y1, y2, y3]) (.int .i64 3)).run Tryz.prog w = .ok y3 w := by kernel_rfl
def lenL (x0 x1 x2 x3 : Int) : Int := if x3 = 0 then (if x2 = 0 then (if x1 = 0 then (if x0 = 0 then 0 else bl x0) else 64 + bl x1) else 128 + bl x2) else 192 + bl x3
set_option maxRecDepth 100000 in
set_option maxHeartbeats 1000000 in
theorem length_walk (x0 x1 x2 x3 : Int) (h0 : 0 ≤ x0) (k0 : x0 < 18446744073709551616) (h1 : 0 ≤ x1) (k1 : x1 < 18446744073709551616) (h2 : 0 ≤ x2) (k2 : x2 < 18446744073709551616) (h3 : 0 ≤ x3) (k3 : x3 < 18446744073709551616) (w : World) :
    Calls Tryz.prog 96 #[.agg #[.int .u64 x0, .int .u64 x1, .int .u64 x2, .int .u64 x3]] w fun e w' => e = .returned (.int .i64 (lenL x0 x1 x2 x3)) ∧ New w w' := by
  obtain ⟨b0, c0⟩ := bl_bd x0; obtain ⟨b1, c1⟩ := bl_bd x1; obtain ⟨b2, c2⟩ := bl_bd x2; obtain ⟨b3, c3⟩ := bl_bd x3
  by_cases z0 : x0 = 0 <;> by_cases z1 : x1 = 0 <;> by_cases z2 : x2 = 0 <;> by_cases z3 : x3 = 0
  all_goals
    go_enter Tryz.func96, Tryz.ntmps96
    go_wp2
    refine wp_loop_rounds 5 ?_
    rw [rounds_succ]; go_wp2_with (go_at_call 110; refine (bl_any _ _ (by assumption) (by assumption)).mono ?_; rintro e w' ⟨rfl, rfl⟩)
    rw [rounds_succ]; go_wp2_with (go_at_call 110; refine (bl_any _ _ (by assumption) (by assumption)).mono ?_; rintro e w' ⟨rfl, rfl⟩)
    rw [rounds_succ]; go_wp2_with (go_at_call 110; refine (bl_any _ _ (by assumption) (by assumption)).mono ?_; rintro e w' ⟨rfl, rfl⟩)
    rw [rounds_succ]; go_wp2_with (go_at_call 110; refine (bl_any _ _ (by assumption) (by assumption)).mono ?_; rintro e w' ⟨rfl, rfl⟩)
    rw [rounds_succ]; go_wp2
    go_ret
    exact ⟨ret_int (by simp [lenL, *]), by (repeat' (first | with_reducible exact new_refl _ | with_reducible assumption | with_reducible refine new_drewN ?_ _ | with_reducible refine new_drew ?_ | with_reducible refine new_alloc ?_ _ | with_reducible refine new_set ?_ ?_ _ | with_reducible refine new_freeze ?_ ?_ _ | with_reducible refine new_trans ?_ (by assumption) | (simp; done) | (simp; omega)))⟩
theorem blen_ok (x : Int) (h0 : 0 ≤ x) (h1 : x < 18446744073709551616) : x < (2 ^ (bl x).toNat : Nat) := by
  unfold bl
  have := bitLen_lt 64 x.toNat (by omega)
  rw [Int.toNat_natCast]
  unfold Lib.bitLen
  omega
def blen (a : Nat) : Nat := (lenL (lim a 0) (lim a 1) (lim a 2) (lim a 3)).toNat
theorem blen_spec (a : Nat) (ha : a < M256) : blen a ≤ 256 ∧ a < 2 ^ blen a ∧ lenL (lim a 0) (lim a 1) (lim a 2) (lim a 3) = blen a := by
  have v := val_lim a ha
  have b0 := lim_bd a 0; have b1 := lim_bd a 1; have b2 := lim_bd a 2; have b3 := lim_bd a 3
  unfold blen
  generalize lim a 0 = x0 at *; generalize lim a 1 = x1 at *; generalize lim a 2 = x2 at *; generalize lim a 3 = x3 at *
  have q0 := blen_ok x0 b0.1 b0.2; have q1 := blen_ok x1 b1.1 b1.2; have q2 := blen_ok x2 b2.1 b2.2; have q3 := blen_ok x3 b3.1 b3.2
  have r0 := bl_bd x0; have r1 := bl_bd x1; have r2 := bl_bd x2; have r3 := bl_bd x3
  unfold lenL
  split
  · split
    · split
      · split
        · refine ⟨by decide, ?_, rfl⟩; simp; omega
        · refine ⟨by omega, ?_, by omega⟩; omega
      · refine ⟨by omega, ?_, by omega⟩
        rw [show (64 + bl x1).toNat = 64 + (bl x1).toNat from by omega, Nat.pow_add]
        generalize 2 ^ (bl x1).toNat = p at *
        omega
    · refine ⟨by omega, ?_, by omega⟩
      rw [show (128 + bl x2).toNat = 128 + (bl x2).toNat from by omega, Nat.pow_add]
      generalize 2 ^ (bl x2).toNat = p at *
      omega
  · refine ⟨by omega, ?_, by omega⟩
    rw [show (192 + bl x3).toNat = 192 + (bl x3).toNat from by omega, Nat.pow_add]
    generalize 2 ^ (bl x3).toNat = p at *
    omega
theorem length_any (a : Nat) (ha : a < M256) (w : World) :
    Calls Tryz.prog 96 #[u a] w fun e w' => e = .returned (.int .i64 (blen a)) ∧ New w w' := by
  have := length_walk _ _ _ _ (lim_nonneg a 0) (lim_lt a 0) (lim_nonneg a 1) (lim_lt a 1) (lim_nonneg a 2) (lim_lt a 2) (lim_nonneg a 3) (lim_lt a 3) w
  rw [(blen_spec a ha).2.2] at this
  exact this
end Go.Proofs.YtcfefmbbbfdppaaGreatDoor
namespace Go.Proofs.YtcfefmbbbfdppaaGreatDoor
open Go.RowKit
set_option linter.unusedVariables false
set_option maxRecDepth 100000
def restk (a b k : Nat) : Nat := a / 2 ^ k % b
def quok (a b k : Nat) : Nat := a / 2 ^ k / b * 2 ^ k
theorem half_step (a i : Nat) : a / 2 ^ i = 2 * (a / 2 ^ (i + 1)) + a / 2 ^ i % 2 := by
  rw [Nat.pow_succ, ← Nat.div_div_eq_div_mul]; omega
theorem div_hi (A b bit : Nat) (hb : 0 < b) (h : b ≤ 2 * (A % b) + bit) (hbit : bit ≤ 1) : (2 * A + bit) / b = 2 * (A / b) + 1 ∧ (2 * A + bit) % b = 2 * (A % b) + bit - b := by
  have h1 := Nat.div_add_mod A b
  have h2 := Nat.mod_lt A hb
  have e : 2 * A + bit = (2 * (A % b) + bit - b) + b * (2 * (A / b) + 1) := by
    rw [Nat.mul_add, Nat.mul_left_comm]; omega
  rw [e]
  refine ⟨?_, ?_⟩
  · rw [Nat.add_mul_div_left _ _ hb, Nat.div_eq_of_lt (by omega)]; omega
  · rw [Nat.add_mul_mod_self_left, Nat.mod_eq_of_lt (by omega)]
theorem div_lo (A b bit : Nat) (hb : 0 < b) (h : 2 * (A % b) + bit < b) : (2 * A + bit) / b = 2 * (A / b) ∧ (2 * A + bit) % b = 2 * (A % b) + bit := by
  have h1 := Nat.div_add_mod A b
  have e : 2 * A + bit = (2 * (A % b) + bit) + b * (2 * (A / b)) := by
    rw [Nat.mul_left_comm]; omega
  rw [e]
  refine ⟨?_, ?_⟩
  · rw [Nat.add_mul_div_left _ _ hb, Nat.div_eq_of_lt h]; omega
  · rw [Nat.add_mul_mod_self_left, Nat.mod_eq_of_lt h]
theorem step_hi (a b i : Nat) (hb : 0 < b) (h : b ≤ 2 * restk a b (i + 1) + a / 2 ^ i % 2) :
    restk a b i = 2 * restk a b (i + 1) + a / 2 ^ i % 2 - b ∧ quok a b i = quok a b (i + 1) + 2 ^ i := by
  unfold restk quok at *
  have e := half_step a i
  have hbit : a / 2 ^ i % 2 ≤ 1 := by omega
  generalize a / 2 ^ i % 2 = bit at *
  rw [e]
  obtain ⟨h1, h2⟩ := div_hi (a / 2 ^ (i + 1)) b bit hb h hbit
  rw [h1, h2]
  refine ⟨rfl, ?_⟩
  rw [Nat.add_mul, Nat.one_mul, Nat.pow_succ, Nat.mul_comm 2, Nat.mul_assoc, Nat.mul_comm 2]
theorem step_lo (a b i : Nat) (hb : 0 < b) (h : 2 * restk a b (i + 1) + a / 2 ^ i % 2 < b) :
    restk a b i = 2 * restk a b (i + 1) + a / 2 ^ i % 2 ∧ quok a b i = quok a b (i + 1) := by
  unfold restk quok at *
  have e := half_step a i
  generalize a / 2 ^ i % 2 = bit at *
  rw [e]
  obtain ⟨h1, h2⟩ := div_lo (a / 2 ^ (i + 1)) b bit hb h
  rw [h1, h2]
  refine ⟨rfl, ?_⟩
  rw [Nat.pow_succ, Nat.mul_comm 2, Nat.mul_assoc, Nat.mul_comm 2]
theorem restk_lt (a b k : Nat) (hb : 0 < b) : restk a b k < b := Nat.mod_lt _ hb
theorem start_k (a b k : Nat) (h : a < 2 ^ k) : restk a b k = 0 ∧ quok a b k = 0 := by
  unfold restk quok
  rw [Nat.div_eq_of_lt h]; simp
theorem end_k (a b : Nat) : restk a b 0 = a % b ∧ quok a b 0 = a / b := by
  unfold restk quok; simp
theorem lim_pow (n q : Nat) : lim n q = ((n / 2 ^ (64 * q) % 2 ^ 64 : Nat) : Int) := by
  unfold lim
  rw [show (18446744073709551616 : Nat) ^ q = 2 ^ (64 * q) from by rw [Nat.pow_mul]]
theorem or_low (c x t : Nat) (hx : x < 2 ^ t) (h : 2 ^ t * c + x < 2 ^ 64) : bits BinOp.or IntKind.u64 ((2 ^ t * c : Nat) : Int) (x : Int) = ((2 ^ t * c + x : Nat) : Int) := by
  rw [bits_or_u64_nat _ _ (by omega) (by omega), Nat.two_pow_add_eq_or_of_lt hx]
theorem or_bit0 (s bit : Nat) (hs : s % 2 = 0) (hb : bit ≤ 1) : bits BinOp.or IntKind.u64 (lim s 0) (bit : Int) = lim (s + bit) 0 ∧ lim (s + bit) 1 = lim s 1 ∧ lim (s + bit) 2 = lim s 2 ∧ lim (s + bit) 3 = lim s 3 := by
  refine ⟨?_, ?_, ?_, ?_⟩
  · rw [lim0, lim0]
    have e : s % 18446744073709551616 = 2 ^ 1 * (s % 18446744073709551616 / 2) := by omega
    rw [e, or_low _ _ 1 (by omega) (by omega)]
    omega
  · rw [lim1, lim1]; omega
  · rw [lim2, lim2]; omega
  · rw [lim3, lim3]; omega
theorem or_bit (c q t : Nat) (ht : t < 64) : 
    (∀ m, m ≠ q → lim (c * 2 ^ (64 * q + t + 1) + 2 ^ (64 * q + t)) m = lim (c * 2 ^ (64 * q + t + 1)) m) ∧
    bits BinOp.or IntKind.u64 (lim (c * 2 ^ (64 * q + t + 1)) q) ((2 ^ t : Nat) : Int) = lim (c * 2 ^ (64 * q + t + 1) + 2 ^ (64 * q + t)) q := by
  have e1 : c * 2 ^ (64 * q + t + 1) = 2 ^ (64 * q) * (2 ^ (t + 1) * c) := by
    rw [show 64 * q + t + 1 = 64 * q + (t + 1) from by omega, Nat.pow_add, Nat.mul_comm c, Nat.mul_assoc]
  have e2 : (2 : Nat) ^ (64 * q + t) = 2 ^ (64 * q) * 2 ^ t := Nat.pow_add 2 _ _
  have e3 : c * 2 ^ (64 * q + t + 1) + 2 ^ (64 * q + t) = 2 ^ (64 * q) * (2 ^ (t + 1) * c + 2 ^ t) := by rw [e1, e2, Nat.mul_add]
  have hp : 0 < 2 ^ (64 * q) := Nat.pow_pos (by decide)
  refine ⟨fun m hm => ?_, ?_⟩
  · rw [lim_pow, lim_pow]
    rcases Nat.lt_or_gt_of_ne hm with h | h
    ·
      have e4 : 2 ^ (64 * q) = 2 ^ (64 * m) * (2 ^ 64 * 2 ^ (64 * (q - m - 1))) := by
        rw [← Nat.pow_add, ← Nat.pow_add]; congr 1; omega
      have hm0 : 0 < 2 ^ (64 * m) := Nat.pow_pos (by decide)
      have nought : ∀ X : Nat, 2 ^ (64 * q) * X / 2 ^ (64 * m) % 2 ^ 64 = 0 := fun X => by
        rw [e4, Nat.mul_assoc, Nat.mul_div_cancel_left _ hm0, Nat.mul_assoc, Nat.mul_mod_right]
      rw [e3, e1, nought, nought]
    ·
      have e4 : 2 ^ (64 * m) = 2 ^ (64 * q + t + 1) * 2 ^ (64 * m - (64 * q + t + 1)) := by
        rw [← Nat.pow_add]; congr 1; omega
      have hk : 0 < 2 ^ (64 * q + t + 1) := Nat.pow_pos (by decide)
      have e5 : (c * 2 ^ (64 * q + t + 1) + 2 ^ (64 * q + t)) / 2 ^ (64 * q + t + 1) = c := by
        rw [Nat.mul_comm c, Nat.mul_add_div hk, Nat.div_eq_of_lt (Nat.pow_lt_pow_right (by decide) (by omega)), Nat.add_zero]
      rw [e4, ← Nat.div_div_eq_div_mul, ← Nat.div_div_eq_div_mul, e5, Nat.mul_div_cancel _ hk]
  · rw [lim_pow, lim_pow, e3, e1, Nat.mul_div_cancel_left _ hp, Nat.mul_div_cancel_left _ hp]
    have e6 : 2 ^ 64 = 2 ^ (t + 1) * 2 ^ (63 - t) := by rw [← Nat.pow_add]; congr 1; omega
    have e7 : 2 ^ (t + 1) * c % 2 ^ 64 = 2 ^ (t + 1) * (c % 2 ^ (63 - t)) := by rw [e6, Nat.mul_mod_mul_left]
    have e8 : (2 ^ (t + 1) * c + 2 ^ t) % 2 ^ 64 = 2 ^ (t + 1) * (c % 2 ^ (63 - t)) + 2 ^ t := by
      have h1 : c = 2 ^ (63 - t) * (c / 2 ^ (63 - t)) + c % 2 ^ (63 - t) := (Nat.div_add_mod _ _).symm
      have h2 : c % 2 ^ (63 - t) < 2 ^ (63 - t) := Nat.mod_lt _ (Nat.pow_pos (by decide))
      have h3 : 2 ^ (t + 1) * (c % 2 ^ (63 - t)) + 2 ^ t < 2 ^ 64 := by
        have : 2 ^ (t + 1) * (c % 2 ^ (63 - t) + 1) ≤ 2 ^ 64 := by rw [e6]; exact Nat.mul_le_mul_left _ h2
        have h5 : 2 ^ t < 2 ^ (t + 1) := Nat.pow_lt_pow_right (by decide) (by omega)
        rw [Nat.mul_add, Nat.mul_one] at this; omega
      have h4 : 2 ^ (t + 1) * c + 2 ^ t = 2 ^ 64 * (c / 2 ^ (63 - t)) + (2 ^ (t + 1) * (c % 2 ^ (63 - t)) + 2 ^ t) := by
        conv => lhs; rw [h1]
        rw [Nat.mul_add, ← Nat.mul_assoc, ← e6, Nat.add_assoc]
      rw [h4, Nat.mul_add_mod, Nat.mod_eq_of_lt h3]
    have h3 : 2 ^ (t + 1) * (c % 2 ^ (63 - t)) + 2 ^ t < 2 ^ 64 := by rw [← e8]; exact Nat.mod_lt _ (Nat.pow_pos (by decide))
    rw [e7, e8, or_low _ _ (t + 1) (Nat.pow_lt_pow_right (by decide) (by omega)) h3]
theorem uc_get (n q : Nat) (hq : q < 4) : (uc n)[q]? = some (.int .u64 (lim n q)) := by
  have h : q = 0 ∨ q = 1 ∨ q = 2 ∨ q = 3 := by omega
  rcases h with rfl | rfl | rfl | rfl <;> rfl
theorem uc_set (n n' q : Nat) (hq : q < 4) (h : ∀ m, m ≠ q → m < 4 → lim n' m = lim n m) : (uc n).setIfInBounds q (.int .u64 (lim n' q)) = uc n' := by
  have h' : q = 0 ∨ q = 1 ∨ q = 2 ∨ q = 3 := by omega
  rcases h' with rfl | rfl | rfl | rfl
  · simp [uc, h 1 (by decide) (by decide), h 2 (by decide) (by decide), h 3 (by decide) (by decide)]
  · simp [uc, h 0 (by decide) (by decide), h 2 (by decide) (by decide), h 3 (by decide) (by decide)]
  · simp [uc, h 0 (by decide) (by decide), h 1 (by decide) (by decide), h 3 (by decide) (by decide)]
  · simp [uc, h 0 (by decide) (by decide), h 1 (by decide) (by decide), h 2 (by decide) (by decide)]
end Go.Proofs.YtcfefmbbbfdppaaGreatDoor
