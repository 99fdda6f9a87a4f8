/- wide.Add and wide.Sub: what they compute. -/
import Derived.Test.YtcgdcnhggejgbaaKit
import Derived.Shelf.Spec.BitsCarry
namespace Go.Proofs.Ytcgdcnhggejgbaa
open Go.RowKit
set_option linter.unusedVariables false

theorem add64 (x y c : Int) (hx : 0 ≤ x) (hy : 0 ≤ y) (hc0 : 0 ≤ c) (hc : c ≤ 1) (w : World) : (callFunc 32 #[.int .u64 x, .int .u64 y, .int .u64 c]).run Try.prog w =
    .ok (.value (.tuple #[.int .u64 ((x + y + c) % 18446744073709551616), .int .u64 ((x + y + c) / 18446744073709551616)])) w := by
  rw [run_callFunc_extern Try.func32 (by kernel_rfl) (by kernel_rfl) (by kernel_rfl) (e := add64Entry) (by kernel_rfl), run_add64 x y c (by omega) (by omega) (by omega) (by omega)]
  rfl

theorem add64' (x y c : Int) (hx : 0 ≤ x) (hy : 0 ≤ y) (hx' : x < 18446744073709551616) (hy' : y < 18446744073709551616) (hc0 : 0 ≤ c) (hc : c ≤ 1) : ∃ s d : Int,
    (∀ w, (callFunc 32 #[.int .u64 x, .int .u64 y, .int .u64 c]).run Try.prog w = .ok (.value (.tuple #[.int .u64 s, .int .u64 d])) w) ∧ 0 ≤ s ∧ s < 18446744073709551616 ∧ 0 ≤ d ∧ d ≤ 1 ∧ x + y + c = s + 18446744073709551616 * d :=
  ⟨_, _, add64 x y c hx hy hc0 hc, by omega, by omega, by omega, by omega, by omega⟩

theorem add_walk (a0 a1 a2 a3 b0 b1 b2 b3 s0 s1 s2 s3 c1 c2 c3 c4 : Int)
    (A0 : ∀ w, (callFunc 32 #[.int .u64 a0, .int .u64 b0, .int .u64 0]).run Try.prog w = .ok (.value (.tuple #[.int .u64 s0, .int .u64 c1])) w)
    (A1 : ∀ w, (callFunc 32 #[.int .u64 a1, .int .u64 b1, .int .u64 c1]).run Try.prog w = .ok (.value (.tuple #[.int .u64 s1, .int .u64 c2])) w)
    (A2 : ∀ w, (callFunc 32 #[.int .u64 a2, .int .u64 b2, .int .u64 c2]).run Try.prog w = .ok (.value (.tuple #[.int .u64 s2, .int .u64 c3])) w)
    (A3 : ∀ w, (callFunc 32 #[.int .u64 a3, .int .u64 b3, .int .u64 c3]).run Try.prog w = .ok (.value (.tuple #[.int .u64 s3, .int .u64 c4])) w) (w : World) :
    Calls Try.prog 17 #[.agg #[.int .u64 a0, .int .u64 a1, .int .u64 a2, .int .u64 a3], .agg #[.int .u64 b0, .int .u64 b1, .int .u64 b2, .int .u64 b3]] w fun e w' => e = .returned (.tuple #[.agg #[.int .u64 s0, .int .u64 s1, .int .u64 s2, .int .u64 s3], .bool (c4 == 1)]) ∧ New w w' := by
  go_enter Try.func17, Try.ntmps17
  go_wp2
  refine wp_loop_rounds 5 ?_
  rw [rounds_succ]; go_wp2; go_region; go_wp2
  rw [rounds_succ]; go_wp2; go_region; go_wp2
  rw [rounds_succ]; go_wp2; go_region; go_wp2
  rw [rounds_succ]; go_wp2; go_region; go_wp2
  rw [rounds_succ]; go_wp2
  exact bodyPost_ret (v := .tuple #[.agg #[.int .u64 s0, .int .u64 s1, .int .u64 s2, .int .u64 s3], .bool (c4 == 1)]) (by simp [results, Try.results17, go_sem]) rfl ⟨rfl, by repeat (first | exact new_refl _ | refine new_drew ?_ | refine new_alloc ?_ _)⟩

theorem add_any (a b : Nat) (ha : a < M256) (hb : b < M256) (w : World) :
    Calls Try.prog 17 #[u a, u b] w fun e w' => e = .returned (.tuple #[u ((a + b) % M256), .bool (decide (M256 ≤ a + b))]) ∧ New w w' := by
  rw [u_mod]
  have va := val_lim a ha
  have vb := val_lim b hb
  obtain ⟨a0, a0'⟩ := lim_bd a 0; obtain ⟨a1, a1'⟩ := lim_bd a 1; obtain ⟨a2, a2'⟩ := lim_bd a 2; obtain ⟨a3, a3'⟩ := lim_bd a 3
  obtain ⟨b0, b0'⟩ := lim_bd b 0; obtain ⟨b1, b1'⟩ := lim_bd b 1; obtain ⟨b2, b2'⟩ := lim_bd b 2; obtain ⟨b3, b3'⟩ := lim_bd b 3
  obtain ⟨s0, c1, A0, s0p, s0q, c1p, c1q, h1⟩ := add64' (lim a 0) (lim b 0) 0 a0 b0 a0' b0' (by decide) (by decide)
  obtain ⟨s1, c2, A1, s1p, s1q, c2p, c2q, h2⟩ := add64' (lim a 1) (lim b 1) c1 a1 b1 a1' b1' c1p c1q
  obtain ⟨s2, c3, A2, s2p, s2q, c3p, c3q, h3⟩ := add64' (lim a 2) (lim b 2) c2 a2 b2 a2' b2' c2p c2q
  obtain ⟨s3, c4, A3, s3p, s3q, c4p, c4q, h4⟩ := add64' (lim a 3) (lim b 3) c3 a3 b3 a3' b3' c3p c3q
  have h := add_walk _ _ _ _ _ _ _ _ _ _ _ _ _ _ _ _ A0 A1 A2 A3 w
  have hs := sum_parts _ _ _ _ _ _ _ _ _ _ _ _ _ _ _ _ _ _ va vb h1 h2 h3 h4
  rw [← Int.natCast_add] at hs
  obtain ⟨e0, e1, e2, e3⟩ := lim_of (a + b) s0 s1 s2 s3 c4 s0p s0q s1p s1q s2p s2q s3p s3q hs
  have e4 := top_bit (a + b) s0 s1 s2 s3 c4 s0p s1p s2p s3p s0q s1q s2q s3q c4p c4q hs
  rw [← e0, ← e1, ← e2, ← e3, ← e4] at h
  exact h

theorem sub64' (x y c : Int) (hx : 0 ≤ x) (hy : 0 ≤ y) (hx' : x < 18446744073709551616) (hy' : y < 18446744073709551616) (hc0 : 0 ≤ c) (hc : c ≤ 1) : ∃ s d : Int,
    (∀ w, (callFunc 33 #[.int .u64 x, .int .u64 y, .int .u64 c]).run Try.prog w = .ok (.value (.tuple #[.int .u64 s, .int .u64 d])) w) ∧ 0 ≤ s ∧ s < 18446744073709551616 ∧ 0 ≤ d ∧ d ≤ 1 ∧ x - y - c = s - 18446744073709551616 * d := by
  obtain ⟨x, rfl⟩ := Int.eq_ofNat_of_zero_le hx
  obtain ⟨y, rfl⟩ := Int.eq_ofNat_of_zero_le hy
  obtain ⟨c, rfl⟩ := Int.eq_ofNat_of_zero_le hc0
  refine ⟨(((x + 18446744073709551616 - y - c) % 18446744073709551616 : Nat) : Int), ((if x < y + c then 1 else 0 : Nat) : Int), fun w => ?_, by omega, by omega, by omega, by split <;> omega, by split <;> omega⟩
  rw [run_callFunc_extern Try.func33 (by kernel_rfl) (by kernel_rfl) (by kernel_rfl) (e := sub64Entry) (by kernel_rfl), run_sub64 x y c (by omega)]
  rfl

theorem sub_walk (a0 a1 a2 a3 b0 b1 b2 b3 s0 s1 s2 s3 c1 c2 c3 c4 : Int)
    (A0 : ∀ w, (callFunc 33 #[.int .u64 a0, .int .u64 b0, .int .u64 0]).run Try.prog w = .ok (.value (.tuple #[.int .u64 s0, .int .u64 c1])) w)
    (A1 : ∀ w, (callFunc 33 #[.int .u64 a1, .int .u64 b1, .int .u64 c1]).run Try.prog w = .ok (.value (.tuple #[.int .u64 s1, .int .u64 c2])) w)
    (A2 : ∀ w, (callFunc 33 #[.int .u64 a2, .int .u64 b2, .int .u64 c2]).run Try.prog w = .ok (.value (.tuple #[.int .u64 s2, .int .u64 c3])) w)
    (A3 : ∀ w, (callFunc 33 #[.int .u64 a3, .int .u64 b3, .int .u64 c3]).run Try.prog w = .ok (.value (.tuple #[.int .u64 s3, .int .u64 c4])) w) (w : World) :
    Calls Try.prog 19 #[.agg #[.int .u64 a0, .int .u64 a1, .int .u64 a2, .int .u64 a3], .agg #[.int .u64 b0, .int .u64 b1, .int .u64 b2, .int .u64 b3]] w fun e w' => e = .returned (.tuple #[.agg #[.int .u64 s0, .int .u64 s1, .int .u64 s2, .int .u64 s3], .bool (c4 == 1)]) ∧ New w w' := by
  go_enter Try.func19, Try.ntmps19
  go_wp2
  refine wp_loop_rounds 5 ?_
  rw [rounds_succ]; go_wp2; go_region; go_wp2
  rw [rounds_succ]; go_wp2; go_region; go_wp2
  rw [rounds_succ]; go_wp2; go_region; go_wp2
  rw [rounds_succ]; go_wp2; go_region; go_wp2
  rw [rounds_succ]; go_wp2
  exact bodyPost_ret (v := .tuple #[.agg #[.int .u64 s0, .int .u64 s1, .int .u64 s2, .int .u64 s3], .bool (c4 == 1)]) (by simp [results, Try.results19, go_sem]) rfl ⟨rfl, by repeat (first | exact new_refl _ | refine new_drew ?_ | refine new_alloc ?_ _)⟩

theorem sub_any (a b : Nat) (ha : a < M256) (hb : b < M256) (w : World) :
    Calls Try.prog 19 #[u a, u b] w fun e w' => e = .returned (.tuple #[u ((a + M256 - b) % M256), .bool (decide (a < b))]) ∧ New w w' := by
  rw [u_mod]
  have va := val_lim a ha
  have vb := val_lim b hb
  obtain ⟨a0, a0'⟩ := lim_bd a 0; obtain ⟨a1, a1'⟩ := lim_bd a 1; obtain ⟨a2, a2'⟩ := lim_bd a 2; obtain ⟨a3, a3'⟩ := lim_bd a 3
  obtain ⟨b0, b0'⟩ := lim_bd b 0; obtain ⟨b1, b1'⟩ := lim_bd b 1; obtain ⟨b2, b2'⟩ := lim_bd b 2; obtain ⟨b3, b3'⟩ := lim_bd b 3
  obtain ⟨s0, c1, A0, s0p, s0q, c1p, c1q, h1⟩ := sub64' (lim a 0) (lim b 0) 0 a0 b0 a0' b0' (by decide) (by decide)
  obtain ⟨s1, c2, A1, s1p, s1q, c2p, c2q, h2⟩ := sub64' (lim a 1) (lim b 1) c1 a1 b1 a1' b1' c1p c1q
  obtain ⟨s2, c3, A2, s2p, s2q, c3p, c3q, h3⟩ := sub64' (lim a 2) (lim b 2) c2 a2 b2 a2' b2' c2p c2q
  obtain ⟨s3, c4, A3, s3p, s3q, c4p, c4q, h4⟩ := sub64' (lim a 3) (lim b 3) c3 a3 b3 a3' b3' c3p c3q
  have h := sub_walk _ _ _ _ _ _ _ _ _ _ _ _ _ _ _ _ A0 A1 A2 A3 w
  have hs := dif_parts _ _ _ _ _ _ _ _ _ _ _ _ _ _ _ _ _ _ va vb h1 h2 h3 h4
  obtain ⟨e0, e1, e2, e3⟩ := lim_of (a + M256 - b) s0 s1 s2 s3 (1 - c4) s0p s0q s1p s1q s2p s2q s3p s3q (dif_of a b s0 s1 s2 s3 c4 hb hs)
  have e4 := low_bit a b s0 s1 s2 s3 c4 s0p s1p s2p s3p s0q s1q s2q s3q c4p c4q hs
  rw [← e0, ← e1, ← e2, ← e3, ← e4] at h
  exact h

theorem add_to (a b s : Nat) (ha : a < M256) (hb : b < M256) (hs : (a + b) % M256 = s) (w : World) :
    Calls Try.prog 17 #[u a, u b] w fun e w' => e = .returned (.tuple #[u s, .bool (decide (M256 ≤ a + b))]) ∧ New w w' := hs ▸ add_any a b ha hb w

theorem sub_to (a b s : Nat) (ha : a < M256) (hb : b < M256) (hs : (a + M256 - b) % M256 = s) (w : World) :
    Calls Try.prog 19 #[u a, u b] w fun e w' => e = .returned (.tuple #[u s, .bool (decide (a < b))]) ∧ New w w' := hs ▸ sub_any a b ha hb w

theorem add_is (a b s : Nat) (o : Bool) (ha : a < M256) (hb : b < M256) (hs : (a + b) % M256 = s) (ho : decide (M256 ≤ a + b) = o) (w : World) :
    Calls Try.prog 17 #[u a, u b] w fun e w' => e = .returned (.tuple #[u s, .bool o]) ∧ New w w' := hs ▸ ho ▸ add_any a b ha hb w

theorem sub_is (a b s : Nat) (o : Bool) (ha : a < M256) (hb : b < M256) (hs : (a + M256 - b) % M256 = s) (ho : decide (a < b) = o) (w : World) :
    Calls Try.prog 19 #[u a, u b] w fun e w' => e = .returned (.tuple #[u s, .bool o]) ∧ New w w' := hs ▸ ho ▸ sub_any a b ha hb w

/-- which of two numbers is greater -/
def cmpI (a b : Nat) : Int := if a < b then -1 else if b < a then 1 else 0

end Go.Proofs.Ytcgdcnhggejgbaa
