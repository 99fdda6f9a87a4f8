/- wide.Ten: a power of ten. -/
import Derived.Test.YtcgdcnhggejgbaaMul
namespace Go.Proofs.Ytcgdcnhggejgbaa
open Go.RowKit
set_option linter.unusedVariables false

def p10 (k : Nat) : Nat := 10 ^ k

theorem p10_lt (k : Nat) (h : k < 78) : p10 k < M256 := by
  unfold p10
  exact Nat.lt_of_le_of_lt (Nat.pow_le_pow_right (by decide) (by omega : k ≤ 77)) (by decide)

theorem mul_ten (a l h : Nat) (ha : a < M256) (hl : a * 10 % M256 = l) (hh : a * 10 / M256 = h) (w : World) :
    Calls Try.prog 24 #[u a, .agg #[.int .u64 10, .int .u64 0, .int .u64 0, .int .u64 0]] w fun e w' => e = .returned (.tuple #[u l, u h]) ∧ New w w' := by
  have := mul_is a 10 l h ha (by decide) hl hh w
  rw [u_small 10 (by decide)] at this
  exact this

theorem ten_bad (n : Int) (h : n < 0 ∨ 78 ≤ n) (w : World) :
    Calls Try.prog 26 #[.int .i64 n] w fun e w' => e = .returned (.tuple #[.agg #[.int .u64 0, .int .u64 0, .int .u64 0, .int .u64 0], .int .i64 6]) ∧ New w w' := by
  by_cases h0 : n < 0
  · go_enter Try.func26, Try.ntmps26
    go_wp2
    refine bodyPost_ret (v := .tuple #[.agg #[.int .u64 0, .int .u64 0, .int .u64 0, .int .u64 0], .int .i64 6]) (by simp [results, Try.results26, go_sem]) rfl ⟨rfl, by (repeat' (first | with_reducible exact new_refl _ | with_reducible assumption | with_reducible refine new_drewN ?_ _ | with_reducible refine new_drew ?_ | with_reducible refine new_alloc ?_ _ | with_reducible refine new_set ?_ ?_ _ | with_reducible refine new_freeze ?_ ?_ _ | with_reducible refine new_trans ?_ (by assumption) | (simp; done) | (simp; omega)))⟩
  · have h1 : 78 ≤ n := by omega
    have h2 : 0 ≤ n := by omega
    clear h h0
    go_enter Try.func26, Try.ntmps26
    go_wp2
    refine bodyPost_ret (v := .tuple #[.agg #[.int .u64 0, .int .u64 0, .int .u64 0, .int .u64 0], .int .i64 6]) (by simp [results, Try.results26, go_sem]) rfl ⟨rfl, by (repeat' (first | with_reducible exact new_refl _ | with_reducible assumption | with_reducible refine new_drewN ?_ _ | with_reducible refine new_drew ?_ | with_reducible refine new_alloc ?_ _ | with_reducible refine new_set ?_ ?_ _ | with_reducible refine new_freeze ?_ ?_ _ | with_reducible refine new_trans ?_ (by assumption) | (simp; done) | (simp; omega)))⟩

theorem ten_any (n : Nat) (h : n < 78) (w : World) :
    Calls Try.prog 26 #[.int .i64 n] w fun e w' => e = .returned (.tuple #[u (p10 n), .int .i64 0]) ∧ New w w' := by
  have h1 : (n : Int) < 78 := by omega
  have h2 : (0 : Int) ≤ n := by omega
  have e0 := hide (show u (p10 0) = .agg #[.int .u64 1, .int .u64 0, .int .u64 0, .int .u64 0] from u_one)
  go_enter Try.func26, Try.ntmps26
  go_wp2
  go_loopw [14] (fun i wr => ∃ k : Nat, k ≤ n ∧ i = .int .i64 k ∧ Blk wr (w.heap.size + 1) 26 (uc (p10 k)) ∧ Blk wr w.heap.size 26 z4 ∧ New w wr) (fun i _ => n - (intOf i).toNat)
  case atStart =>
    refine ⟨0, by omega, rfl, ?_, (Blk.new_ _ _ _).al _, by (repeat' (first | with_reducible exact new_refl _ | with_reducible assumption | with_reducible refine new_drewN ?_ _ | with_reducible refine new_drew ?_ | with_reducible refine new_alloc ?_ _ | with_reducible refine new_set ?_ ?_ _ | with_reducible refine new_freeze ?_ ?_ _ | with_reducible refine new_trans ?_ (by assumption) | (simp; done) | (simp; omega)))⟩
    have := Blk.new1 w (.cells z4 26) 26 (uc (p10 0))
    have e := unhide e0
    simp only [u, Value.agg.injEq] at e
    rw [show uc (p10 0) = _ from e] at this ⊢
    exact this
  case round =>
    obtain ⟨k, hk, rfl, B1, B2, N⟩ := hrel
    have c1 := B1.cell; have c2 := B2.cell; have f1 := B1.free; have f2 := B2.free
    by_cases hlt : k < n
    · have hp := p10_lt k (by omega)
      have e1 : p10 k * 10 % M256 = p10 (k + 1) := Nat.mod_eq_of_lt (p10_lt (k + 1) (by omega))
      have e1 := hide e1
      go_wp2_with (go_at_call 24; refine (mul_ten _ _ _ hp (unhide e1) rfl _).mono ?_; rintro e w1 ⟨rfl, hb⟩; have B1 := B1.up hb; have B2 := B2.up hb; have N := new_trans N hb; clear c1 c2 f1 f2; have c1 := B1.cell; have c2 := B2.cell; have f1 := B1.free; have f2 := B2.free)
      exact ⟨⟨k + 1, by omega, by go_num, B1.set4 _ _ _ _, B2.far4 (by omega) _ _ _ _, new_set4 N (by omega) _ _ _ _⟩, by simp [intOf]; omega⟩
    · have hkn : k = n := by omega
      subst hkn
      go_wp2
      have c := (B2.set4 (.int .u64 (lim (p10 k) 0)) (.int .u64 (lim (p10 k) 1)) (.int .u64 (lim (p10 k) 2)) (.int .u64 (lim (p10 k) 3))).cell
      refine bodyPost_ret (v := .tuple #[u (p10 k), .int .i64 0]) (by simp [results, Try.results26, go_sem, c]) rfl ⟨rfl, new_set4 N (Nat.le_refl _) _ _ _ _⟩

end Go.Proofs.Ytcgdcnhggejgbaa
