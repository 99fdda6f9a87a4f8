/- wide.length: a number of bits that suffices. -/
import Derived.Test.YtcgdcnhggejgbaaAdd
import Derived.Shelf.Strconv.Itoa0
import Derived.Lib.BitFns
namespace Go.Proofs.Ytcgdcnhggejgbaa
open Go.RowKit Go.Shelf
set_option linter.unusedVariables false

def lays129_ren : Go.Shelf.Ren := ⟨fun | 129 => 39 | n => n, fun | 53 => 24 | 3 => 3 | 4 => 4 | 46 => 62 | 5 => 5 | 9 => 9 | n => n, fun | n => n⟩
theorem lays129 : Go.Proofs.Lays.n129 Try.prog lays129_ren := {
  mixed := by kernel_rfl
  f129 := Try.func39.trans (congrArg some (by kernel_rfl))
  t3 := Try.underlying3
  a3 := Try.isAgg3
  z3 := Try.sizeOf3
  v3 := Try.zeroValue3
  t4 := Try.underlying4
  a4 := Try.isAgg4
  z4 := Try.sizeOf4
  v4 := Try.zeroValue4
  t5 := Try.underlying5
  a5 := Try.isAgg5
  z5 := Try.sizeOf5
  v5 := Try.zeroValue5
  t9 := Try.underlying9
  a9 := Try.isAgg9
  z9 := Try.sizeOf9
  v9 := Try.zeroValue9
  t46 := Try.underlying62
  a46 := Try.isAgg62
  z46 := Try.sizeOf62
  v46 := Try.zeroValue62
  t53 := Try.underlying24
  a53 := Try.isAgg24
  z53 := Try.sizeOf24
  v53 := Try.zeroValue24 }

theorem len64 (x : Int) (w : World) (h0 : 0 ≤ x) (h1 : x ≤ 18446744073709551615) :
    Calls Try.prog 39 #[.int .u64 x] w fun e w' => e = .returned (.int .i64 (Lib.bitLen x.toNat : Int)) ∧ w' = w := Any.bits_Len64 lays129 x w h0 h1

theorem bitLen_le : ∀ (f x : Nat), Lib.bitLenAux f x ≤ f
  | 0, _ => by simp [Lib.bitLenAux]
  | f + 1, x => by
    unfold Lib.bitLenAux
    split
    · omega
    · have := bitLen_le f (x / 2); omega
theorem bitLen_lt : ∀ (f x : Nat), x < 2 ^ f → x < 2 ^ Lib.bitLenAux f x
  | 0, x, h => by simpa [Lib.bitLenAux] using h
  | f + 1, x, h => by
    unfold Lib.bitLenAux
    split
    · omega
    · have h2 : x / 2 < 2 ^ f := by rw [Nat.pow_succ] at h; omega
      have := bitLen_lt f (x / 2) h2
      rw [Nat.add_comm, Nat.pow_succ]; omega

/-- the length of a word, under a name of its own -/
def bl (x : Int) : Int := (Lib.bitLen x.toNat : Int)
theorem bl_bd (x : Int) : 0 ≤ bl x ∧ bl x ≤ 64 := ⟨Int.natCast_nonneg _, by have := bitLen_le 64 x.toNat; unfold bl Lib.bitLen; omega⟩
theorem bl_any (x : Int) (w : World) (h0 : 0 ≤ x) (h1 : x < 18446744073709551616) :
    Calls Try.prog 39 #[.int .u64 x] w fun e w' => e = .returned (.int .i64 (bl x)) ∧ w = w' := (len64 x w h0 (by omega)).mono fun e w' h => ⟨h.1, h.2.symm⟩

@[go_sem] theorem idx_u256_0 (y0 y1 y2 y3 : Value) (w : World) : (Instr.index 26 (.agg #[y0, y1, y2, y3]) (.int .i64 0)).run Try.prog w = .ok y0 w := by kernel_rfl
@[go_sem] theorem idx_u256_1 (y0 y1 y2 y3 : Value) (w : World) : (Instr.index 26 (.agg #[y0, y1, y2, y3]) (.int .i64 1)).run Try.prog w = .ok y1 w := by kernel_rfl
@[go_sem] theorem idx_u256_2 (y0 y1 y2 y3 : Value) (w : World) : (Instr.index 26 (.agg #[y0, y1, y2, y3]) (.int .i64 2)).run Try.prog w = .ok y2 w := by kernel_rfl
@[go_sem] theorem idx_u256_3 (y0 y1 y2 y3 : Value) (w : World) : (Instr.index 26 (.agg #[y0, y1, y2, y3]) (.int .i64 3)).run Try.prog w = .ok y3 w := by kernel_rfl

def lenL (x0 x1 x2 x3 : Int) : Int := if x3 = 0 then (if x2 = 0 then (if x1 = 0 then (if x0 = 0 then 0 else bl x0) else 64 + bl x1) else 128 + bl x2) else 192 + bl x3

set_option maxRecDepth 100000 in
set_option maxHeartbeats 1000000 in
theorem length_walk (x0 x1 x2 x3 : Int) (h0 : 0 ≤ x0) (k0 : x0 < 18446744073709551616) (h1 : 0 ≤ x1) (k1 : x1 < 18446744073709551616) (h2 : 0 ≤ x2) (k2 : x2 < 18446744073709551616) (h3 : 0 ≤ x3) (k3 : x3 < 18446744073709551616) (w : World) :
    Calls Try.prog 35 #[.agg #[.int .u64 x0, .int .u64 x1, .int .u64 x2, .int .u64 x3]] w fun e w' => e = .returned (.int .i64 (lenL x0 x1 x2 x3)) ∧ New w w' := by
  obtain ⟨b0, c0⟩ := bl_bd x0; obtain ⟨b1, c1⟩ := bl_bd x1; obtain ⟨b2, c2⟩ := bl_bd x2; obtain ⟨b3, c3⟩ := bl_bd x3
  by_cases z0 : x0 = 0 <;> by_cases z1 : x1 = 0 <;> by_cases z2 : x2 = 0 <;> by_cases z3 : x3 = 0
  all_goals
    go_enter Try.func35, Try.ntmps35
    go_wp2
    refine wp_loop_rounds 5 ?_
    rw [rounds_succ]; go_wp2_with (go_at_call 39; refine (bl_any _ _ (by assumption) (by assumption)).mono ?_; rintro e w' ⟨rfl, rfl⟩)
    rw [rounds_succ]; go_wp2_with (go_at_call 39; refine (bl_any _ _ (by assumption) (by assumption)).mono ?_; rintro e w' ⟨rfl, rfl⟩)
    rw [rounds_succ]; go_wp2_with (go_at_call 39; refine (bl_any _ _ (by assumption) (by assumption)).mono ?_; rintro e w' ⟨rfl, rfl⟩)
    rw [rounds_succ]; go_wp2_with (go_at_call 39; refine (bl_any _ _ (by assumption) (by assumption)).mono ?_; rintro e w' ⟨rfl, rfl⟩)
    rw [rounds_succ]; go_wp2
    go_ret
    exact ⟨ret_int (by simp [lenL, *]), by (repeat' (first | with_reducible exact new_refl _ | with_reducible assumption | with_reducible refine new_drewN ?_ _ | with_reducible refine new_drew ?_ | with_reducible refine new_alloc ?_ _ | with_reducible refine new_set ?_ ?_ _ | with_reducible refine new_freeze ?_ ?_ _ | with_reducible refine new_trans ?_ (by assumption) | (simp; done) | (simp; omega)))⟩

theorem blen_ok (x : Int) (h0 : 0 ≤ x) (h1 : x < 18446744073709551616) : x < (2 ^ (bl x).toNat : Nat) := by
  unfold bl
  have := bitLen_lt 64 x.toNat (by omega)
  rw [Int.toNat_natCast]
  unfold Lib.bitLen
  omega

def blen (a : Nat) : Nat := (lenL (lim a 0) (lim a 1) (lim a 2) (lim a 3)).toNat

theorem blen_spec (a : Nat) (ha : a < M256) : blen a ≤ 256 ∧ a < 2 ^ blen a ∧ lenL (lim a 0) (lim a 1) (lim a 2) (lim a 3) = blen a := by
  have v := val_lim a ha
  have b0 := lim_bd a 0; have b1 := lim_bd a 1; have b2 := lim_bd a 2; have b3 := lim_bd a 3
  unfold blen
  generalize lim a 0 = x0 at *; generalize lim a 1 = x1 at *; generalize lim a 2 = x2 at *; generalize lim a 3 = x3 at *
  have q0 := blen_ok x0 b0.1 b0.2; have q1 := blen_ok x1 b1.1 b1.2; have q2 := blen_ok x2 b2.1 b2.2; have q3 := blen_ok x3 b3.1 b3.2
  have r0 := bl_bd x0; have r1 := bl_bd x1; have r2 := bl_bd x2; have r3 := bl_bd x3
  unfold lenL
  split
  · split
    · split
      · split
        · refine ⟨by decide, ?_, rfl⟩; simp; omega
        · refine ⟨by omega, ?_, by omega⟩; omega
      · refine ⟨by omega, ?_, by omega⟩
        rw [show (64 + bl x1).toNat = 64 + (bl x1).toNat from by omega, Nat.pow_add]
        generalize 2 ^ (bl x1).toNat = p at *
        omega
    · refine ⟨by omega, ?_, by omega⟩
      rw [show (128 + bl x2).toNat = 128 + (bl x2).toNat from by omega, Nat.pow_add]
      generalize 2 ^ (bl x2).toNat = p at *
      omega
  · refine ⟨by omega, ?_, by omega⟩
    rw [show (192 + bl x3).toNat = 192 + (bl x3).toNat from by omega, Nat.pow_add]
    generalize 2 ^ (bl x3).toNat = p at *
    omega

theorem length_any (a : Nat) (ha : a < M256) (w : World) :
    Calls Try.prog 35 #[u a] w fun e w' => e = .returned (.int .i64 (blen a)) ∧ New w w' := by
  have := length_walk _ _ _ _ (lim_nonneg a 0) (lim_lt a 0) (lim_nonneg a 1) (lim_lt a 1) (lim_nonneg a 2) (lim_lt a 2) (lim_nonneg a 3) (lim_lt a 3) w
  rw [(blen_spec a ha).2.2] at this
  exact this

end Go.Proofs.Ytcgdcnhggejgbaa
