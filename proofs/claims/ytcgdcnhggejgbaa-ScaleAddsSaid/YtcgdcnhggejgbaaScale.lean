/- package scale: the factor, Down, Up. -/
import Derived.Test.YtcgdcnhggejgbaaDiv
namespace Go.Proofs.Ytcgdcnhggejgbaa
open Go.RowKit
set_option linter.unusedVariables false
set_option linter.unusedSimpArgs false

theorem ten_to (k n : Nat) (hn : n < 78) (hk : n - 8 = k) (x : Int) (hx : x = (k : Int)) (w : World) :
    Calls Try.prog 26 #[.int .i64 x] w fun e w' => e = .returned (.tuple #[u (p10 k), .int .i64 0]) ∧ New w w' := by
  subst hx; exact ten_any k (by omega) w

theorem factor_any (n k : Nat) (hn : n < 78) (hk : n - 8 = k) (w : World) :
    Calls Try.prog 38 #[.int .i64 n] w fun e w' => e = .returned (.tuple #[u (p10 k), .int .i64 0]) ∧ New w w' := by
  have h1 : (n : Int) < 78 := by omega
  have h2 : (0 : Int) ≤ n := by omega
  have e1 := hide (show max ((n : Int) - 8) 0 = (k : Int) from by omega)
  have hk' := hide hk
  clear hk
  go_enter Try.func38, Try.ntmps38
  go_wp2_with fail
  generalize hW : World.alloc _ _ = W
  have B1 : Blk W w.heap.size 26 z4 := by rw [← hW]; exact Blk.new_ _ _ _
  have N : New w W := by rw [← hW]; (repeat' (first | with_reducible exact new_refl _ | with_reducible assumption | with_reducible refine new_drewN ?_ _ | with_reducible refine new_drew ?_ | with_reducible refine new_alloc ?_ _ | with_reducible refine new_set ?_ ?_ _ | with_reducible refine new_freeze ?_ ?_ _ | with_reducible refine new_trans ?_ (by assumption) | (simp; done) | (simp; omega)))
  clear hW
  refine (ten_to k n hn (unhide hk') _ (unhide e1) _).mono ?_
  rintro e w1 ⟨rfl, hb⟩
  have B1 := B1.up hb; have N := new_trans N hb; clear hb
  have c1 := B1.cell; have f1 := B1.free
  go_wp2
  have c := (B1.set4 (.int .u64 (lim (p10 k) 0)) (.int .u64 (lim (p10 k) 1)) (.int .u64 (lim (p10 k) 2)) (.int .u64 (lim (p10 k) 3))).cell
  exact bodyPost_ret (v := .tuple #[u (p10 k), .int .i64 0]) (by simp [results, Try.results38, go_sem, c]) rfl ⟨rfl, new_set4 N (Nat.le_refl _) _ _ _ _⟩

theorem factor_bad (n : Int) (h1 : 78 ≤ n) (w : World) :
    Calls Try.prog 38 #[.int .i64 n] w fun e w' => e = .returned (.tuple #[.agg #[.int .u64 0, .int .u64 0, .int .u64 0, .int .u64 0], .int .i64 6]) ∧ New w w' := by
  have h2 : 0 ≤ n := by omega
  go_enter Try.func38, Try.ntmps38
  go_wp2
  exact bodyPost_ret (v := .tuple #[.agg #[.int .u64 0, .int .u64 0, .int .u64 0, .int .u64 0], .int .i64 6]) (by simp [results, Try.results38, go_sem]) rfl ⟨rfl, by (repeat' (first | with_reducible exact new_refl _ | with_reducible assumption | with_reducible refine new_drewN ?_ _ | with_reducible refine new_drew ?_ | with_reducible refine new_alloc ?_ _ | with_reducible refine new_set ?_ ?_ _ | with_reducible refine new_freeze ?_ ?_ _ | with_reducible refine new_trans ?_ (by assumption) | (simp; done) | (simp; omega)))⟩

theorem div_is (a b q r : Nat) (ha : a < M256) (hb : b < M256) (hb0 : 0 < b) (hq : a / b = q) (hr : a % b = r) (w : World) :
    Calls Try.prog 27 #[u a, u b] w fun e w' => e = .returned (.tuple #[u q, u r, .int .i64 0]) ∧ New w w' := hq ▸ hr ▸ divmod_any a b ha hb hb0 w

/-- coarser: the quotient by the factor and what is left -/
theorem down_any (a n q r : Nat) (ha : a < M256) (hn : n < 78) (hq : a / p10 (n - 8) = q) (hr : a % p10 (n - 8) = r) (w : World) :
    Calls Try.prog 30 #[u a, .int .i64 n] w fun e w' => e = .returned (.tuple #[u q, u r, .int .i64 0]) ∧ New w w' := by
  obtain ⟨k, ek⟩ : ∃ k, n - 8 = k := ⟨_, rfl⟩
  rw [ek] at hq hr
  have hp := p10_lt k (by omega)
  have hp0 : 0 < p10 k := Nat.pow_pos (by decide)
  have hq := hide hq; have hr := hide hr; have ek := hide ek; have hp := hide hp; have hp0 := hide hp0; have ha := hide ha; have hn := hide hn
  go_enter Try.func30, Try.ntmps30
  go_wp2_with fail
  generalize hW : World.alloc _ _ = W
  have B2 : Blk W w.heap.size 26 (uc a) := by rw [← hW]; exact ((Blk.new_ _ _ _).al _).al _
  have B4 : Blk W (w.heap.size + 1) 26 z4 := by rw [← hW]; exact (Blk.new1 _ _ _ _).al _
  have B5 : Blk W (w.heap.size + 1 + 1) 26 z4 := by rw [← hW]; exact Blk.new2 _ _ _ _ _
  have N : New w W := by rw [← hW]; (repeat' (first | with_reducible exact new_refl _ | with_reducible assumption | with_reducible refine new_drewN ?_ _ | with_reducible refine new_drew ?_ | with_reducible refine new_alloc ?_ _ | with_reducible refine new_set ?_ ?_ _ | with_reducible refine new_freeze ?_ ?_ _ | with_reducible refine new_trans ?_ (by assumption) | (simp; done) | (simp; omega)))
  have n45 : w.heap.size + 1 ≠ w.heap.size + 1 + 1 := by omega
  have m4 : w.heap.size ≤ w.heap.size + 1 := by omega
  have m5 : w.heap.size ≤ w.heap.size + 1 + 1 := by omega
  clear hW
  generalize w.heap.size + 1 + 1 = g5 at *
  generalize w.heap.size + 1 = g4 at *
  generalize hg2 : w.heap.size = g2 at *
  refine (factor_any n k (unhide hn) (unhide ek) _).mono ?_
  rintro e w1 ⟨rfl, hb⟩
  have B2 := B2.up hb; have B4 := B4.up hb; have B5 := B5.up hb; have N := new_trans N hb; clear hb
  have c2 := B2.cell; have c4 := B4.cell; have c5 := B5.cell; have l2 := B2.lt
  go_wp2_with fail
  refine (div_is a (p10 k) q r (unhide ha) (unhide hp) (unhide hp0) (unhide hq) (unhide hr) _).mono ?_
  rintro e w2 ⟨rfl, hb⟩
  have U : New w1 w2 := new_trans (by (repeat' (first | with_reducible exact new_refl _ | with_reducible assumption | with_reducible refine new_drewN ?_ _ | with_reducible refine new_drew ?_ | with_reducible refine new_alloc ?_ _ | with_reducible refine new_set ?_ ?_ _ | with_reducible refine new_freeze ?_ ?_ _ | with_reducible refine new_trans ?_ (by assumption) | (simp; done) | (simp; omega)))) hb
  have N : New w w2 := new_trans (by (repeat' (first | with_reducible exact new_refl _ | with_reducible assumption | with_reducible refine new_drewN ?_ _ | with_reducible refine new_drew ?_ | with_reducible refine new_alloc ?_ _ | with_reducible refine new_set ?_ ?_ _ | with_reducible refine new_freeze ?_ ?_ _ | with_reducible refine new_trans ?_ (by assumption) | (simp; done) | (simp; omega)))) hb
  have B2 := B2.up U
  have B4 := B4.up U
  have B5 := B5.up U
  have B7 := (Blk.new_ w1 26 (uc (p10 k))).up hb
  try clear c2 l2
  have c2 := B2.cell; have l2 := B2.lt
  try clear c4 l4
  have c4 := B4.cell; have l4 := B4.lt
  try clear c5 l5
  have c5 := B5.cell; have l5 := B5.lt
  try clear c7 l7
  have c7 := B7.cell; have l7 := B7.lt
  clear hb U
  have f2 := B2.free; have f4 := B4.free; have f5 := B5.free
  go_wp2
  have c4 := ((B4.set4 (.int .u64 (lim q 0)) (.int .u64 (lim q 1)) (.int .u64 (lim q 2)) (.int .u64 (lim q 3))).far4 n45 (.int .u64 (lim r 0)) (.int .u64 (lim r 1)) (.int .u64 (lim r 2)) (.int .u64 (lim r 3))).cell
  have c5 := ((B5.far4 (Ne.symm n45) (.int .u64 (lim q 0)) (.int .u64 (lim q 1)) (.int .u64 (lim q 2)) (.int .u64 (lim q 3))).set4 (.int .u64 (lim r 0)) (.int .u64 (lim r 1)) (.int .u64 (lim r 2)) (.int .u64 (lim r 3))).cell
  exact bodyPost_ret (v := .tuple #[u q, u r, .int .i64 0]) (by simp [results, Try.results30, go_sem, c4, c5]) rfl ⟨rfl, new_set4 (new_set4 N (hg2 ▸ m4) _ _ _ _) (hg2 ▸ m5) _ _ _ _⟩

theorem mul_low (q b l : Nat) (hq : q < M256) (hb : b < M256) (hl : q * b = l) (hh : l < M256) (w : World) :
    Calls Try.prog 24 #[u q, u b] w fun e w' => e = .returned (.tuple #[u l, .agg #[.int .u64 0, .int .u64 0, .int .u64 0, .int .u64 0]]) ∧ New w w' := by
  have h := mul_is q b l 0 hq hb (by rw [hl]; exact Nat.mod_eq_of_lt hh) (by rw [hl]; exact Nat.div_eq_of_lt hh) w
  rw [u_zero] at h
  exact h

/-- finer: times the factor, if that fits -/
theorem up_any (a n l : Nat) (ha : a < M256) (hn : n < 78) (hl : a * p10 (n - 8) = l) (hh : l < M256) (w : World) :
    Calls Try.prog 31 #[u a, .int .i64 n] w fun e w' => e = .returned (.tuple #[u l, .int .i64 0]) ∧ New w w' := by
  obtain ⟨k, ek⟩ : ∃ k, n - 8 = k := ⟨_, rfl⟩
  rw [ek] at hl
  have hp := p10_lt k (by omega)
  have hl := hide hl; have hh := hide hh; have ek := hide ek; have hp := hide hp; have ha := hide ha; have hn := hide hn
  go_enter Try.func31, Try.ntmps31
  go_wp2_with fail
  generalize hW : World.alloc _ _ = W
  have B2 : Blk W w.heap.size 26 (uc a) := by rw [← hW]; exact (Blk.new_ _ _ _).al _
  have B4 : Blk W (w.heap.size + 1) 26 z4 := by rw [← hW]; exact Blk.new1 _ _ _ _
  have N : New w W := by rw [← hW]; (repeat' (first | with_reducible exact new_refl _ | with_reducible assumption | with_reducible refine new_drewN ?_ _ | with_reducible refine new_drew ?_ | with_reducible refine new_alloc ?_ _ | with_reducible refine new_set ?_ ?_ _ | with_reducible refine new_freeze ?_ ?_ _ | with_reducible refine new_trans ?_ (by assumption) | (simp; done) | (simp; omega)))
  have m4 : w.heap.size ≤ w.heap.size + 1 := by omega
  clear hW
  generalize w.heap.size + 1 = g4 at *
  generalize hg2 : w.heap.size = g2 at *
  refine (factor_any n k (unhide hn) (unhide ek) _).mono ?_
  rintro e w1 ⟨rfl, hb⟩
  have B2 := B2.up hb; have B4 := B4.up hb; have N := new_trans N hb; clear hb
  have c2 := B2.cell; have c4 := B4.cell; have l2 := B2.lt
  go_wp2_with fail
  refine (mul_low a (p10 k) l (unhide ha) (unhide hp) (unhide hl) (unhide hh) _).mono ?_
  rintro e w2 ⟨rfl, hb⟩
  have U : New w1 w2 := new_trans (by (repeat' (first | with_reducible exact new_refl _ | with_reducible assumption | with_reducible refine new_drewN ?_ _ | with_reducible refine new_drew ?_ | with_reducible refine new_alloc ?_ _ | with_reducible refine new_set ?_ ?_ _ | with_reducible refine new_freeze ?_ ?_ _ | with_reducible refine new_trans ?_ (by assumption) | (simp; done) | (simp; omega)))) hb
  have N : New w w2 := new_trans (by (repeat' (first | with_reducible exact new_refl _ | with_reducible assumption | with_reducible refine new_drewN ?_ _ | with_reducible refine new_drew ?_ | with_reducible refine new_alloc ?_ _ | with_reducible refine new_set ?_ ?_ _ | with_reducible refine new_freeze ?_ ?_ _ | with_reducible refine new_trans ?_ (by assumption) | (simp; done) | (simp; omega)))) hb
  have B2 := B2.up U
  have B4 := B4.up U
  have B6 := (Blk.new_ w1 26 (uc (p10 k))).up hb
  try clear c2 l2
  have c2 := B2.cell; have l2 := B2.lt
  try clear c4 l4
  have c4 := B4.cell; have l4 := B4.lt
  try clear c6 l6
  have c6 := B6.cell; have l6 := B6.lt
  clear hb U
  have f4 := B4.free
  have a8 := Blk.new_ w2 26 (uc l)
  go_wp2
  have c := (((B4.set4 (.int .u64 (lim l 0)) (.int .u64 (lim l 1)) (.int .u64 (lim l 2)) (.int .u64 (lim l 3))).al (.cells (uc l) 26)).al (.cells z4 26)).cell
  exact bodyPost_ret (v := .tuple #[u l, .int .i64 0]) (by simp [results, Try.results31, go_sem, c]) rfl ⟨rfl, new_alloc (new_alloc (new_set4 N (hg2 ▸ m4) _ _ _ _) _) _⟩

/-- finer, and it does not fit -/
theorem up_over (a n l h : Nat) (ha : a < M256) (hn : n < 78) (hl : a * p10 (n - 8) % M256 = l) (hh : a * p10 (n - 8) / M256 = h) (h0 : h ≠ 0) (w : World) :
    Calls Try.prog 31 #[u a, .int .i64 n] w fun e w' => e = .returned (.tuple #[.agg #[.int .u64 0, .int .u64 0, .int .u64 0, .int .u64 0], .int .i64 13]) ∧ New w w' := by
  obtain ⟨k, ek⟩ : ∃ k, n - 8 = k := ⟨_, rfl⟩
  rw [ek] at hl hh
  have hp := p10_lt k (by omega)
  have hhM : h < M256 := by
    rw [← hh]
    exact (Nat.div_lt_iff_lt_mul (by decide)).2 (Nat.mul_lt_mul'' ha hp)
  have ez := zero_iff h hhM
  rw [decide_eq_false h0] at ez
  have hl := hide hl; have hh := hide hh; have ek := hide ek; have hp := hide hp; have ha := hide ha; have hn := hide hn
  clear h0 hhM
  go_enter Try.func31, Try.ntmps31
  go_wp2_with fail
  generalize hW : World.alloc _ _ = W
  have B2 : Blk W w.heap.size 26 (uc a) := by rw [← hW]; exact (Blk.new_ _ _ _).al _
  have B4 : Blk W (w.heap.size + 1) 26 z4 := by rw [← hW]; exact Blk.new1 _ _ _ _
  have N : New w W := by rw [← hW]; (repeat' (first | with_reducible exact new_refl _ | with_reducible assumption | with_reducible refine new_drewN ?_ _ | with_reducible refine new_drew ?_ | with_reducible refine new_alloc ?_ _ | with_reducible refine new_set ?_ ?_ _ | with_reducible refine new_freeze ?_ ?_ _ | with_reducible refine new_trans ?_ (by assumption) | (simp; done) | (simp; omega)))
  have m4 : w.heap.size ≤ w.heap.size + 1 := by omega
  clear hW
  generalize w.heap.size + 1 = g4 at *
  generalize hg2 : w.heap.size = g2 at *
  refine (factor_any n k (unhide hn) (unhide ek) _).mono ?_
  rintro e w1 ⟨rfl, hb⟩
  have B2 := B2.up hb; have B4 := B4.up hb; have N := new_trans N hb; clear hb
  have c2 := B2.cell; have c4 := B4.cell; have l2 := B2.lt
  go_wp2_with fail
  refine (mul_is a (p10 k) l h (unhide ha) (unhide hp) (unhide hl) (unhide hh) _).mono ?_
  rintro e w2 ⟨rfl, hb⟩
  have U : New w1 w2 := new_trans (by (repeat' (first | with_reducible exact new_refl _ | with_reducible assumption | with_reducible refine new_drewN ?_ _ | with_reducible refine new_drew ?_ | with_reducible refine new_alloc ?_ _ | with_reducible refine new_set ?_ ?_ _ | with_reducible refine new_freeze ?_ ?_ _ | with_reducible refine new_trans ?_ (by assumption) | (simp; done) | (simp; omega)))) hb
  have N : New w w2 := new_trans (by (repeat' (first | with_reducible exact new_refl _ | with_reducible assumption | with_reducible refine new_drewN ?_ _ | with_reducible refine new_drew ?_ | with_reducible refine new_alloc ?_ _ | with_reducible refine new_set ?_ ?_ _ | with_reducible refine new_freeze ?_ ?_ _ | with_reducible refine new_trans ?_ (by assumption) | (simp; done) | (simp; omega)))) hb
  have B2 := B2.up U
  have B4 := B4.up U
  have B6 := (Blk.new_ w1 26 (uc (p10 k))).up hb
  try clear c2 l2
  have c2 := B2.cell; have l2 := B2.lt
  try clear c4 l4
  have c4 := B4.cell; have l4 := B4.lt
  try clear c6 l6
  have c6 := B6.cell; have l6 := B6.lt
  clear hb U
  have f4 := B4.free
  go_wp2
  have c := (((B4.set4 (.int .u64 0) (.int .u64 0) (.int .u64 0) (.int .u64 0)).al (.cells (uc l) 26)).al (.cells (uc h) 26)).cell
  exact bodyPost_ret (v := .tuple #[.agg #[.int .u64 0, .int .u64 0, .int .u64 0, .int .u64 0], .int .i64 13]) (by simp [results, Try.results31, go_sem, c]) rfl ⟨rfl, new_alloc (new_alloc (new_set4 N (hg2 ▸ m4) _ _ _ _) _) _⟩

theorem up_bad (a : Nat) (n : Int) (h1 : 78 ≤ n) (w : World) :
    Calls Try.prog 31 #[u a, .int .i64 n] w fun e w' => e = .returned (.tuple #[.agg #[.int .u64 0, .int .u64 0, .int .u64 0, .int .u64 0], .int .i64 6]) ∧ New w w' := by
  go_enter Try.func31, Try.ntmps31
  go_wp2_with fail
  generalize hW : World.alloc _ _ = W
  have B4 : Blk W (w.heap.size + 1) 26 z4 := by rw [← hW]; exact Blk.new1 _ _ _ _
  have N : New w W := by rw [← hW]; (repeat' (first | with_reducible exact new_refl _ | with_reducible assumption | with_reducible refine new_drewN ?_ _ | with_reducible refine new_drew ?_ | with_reducible refine new_alloc ?_ _ | with_reducible refine new_set ?_ ?_ _ | with_reducible refine new_freeze ?_ ?_ _ | with_reducible refine new_trans ?_ (by assumption) | (simp; done) | (simp; omega)))
  have m4 : w.heap.size ≤ w.heap.size + 1 := by omega
  clear hW
  generalize w.heap.size + 1 = g4 at *
  refine (factor_bad n h1 _).mono ?_
  rintro e w1 ⟨rfl, hb⟩
  have B4 := B4.up hb; have N := new_trans N hb; clear hb
  have c4 := B4.cell; have f4 := B4.free; have l4 := B4.lt
  go_wp2
  have c := ((B4.set4 (.int .u64 0) (.int .u64 0) (.int .u64 0) (.int .u64 0)).al (.cells z4 26)).cell
  exact bodyPost_ret (v := .tuple #[.agg #[.int .u64 0, .int .u64 0, .int .u64 0, .int .u64 0], .int .i64 6]) (by simp [results, Try.results31, go_sem, c]) rfl ⟨rfl, new_alloc (new_set4 N m4 _ _ _ _) _⟩

theorem up_one (n f : Nat) (hn : n < 78) (hf : p10 (n - 8) = f) (w : World) :
    Calls Try.prog 31 #[.agg #[.int .u64 1, .int .u64 0, .int .u64 0, .int .u64 0], .int .i64 n] w fun e w' => e = .returned (.tuple #[u f, .int .i64 0]) ∧ New w w' := by
  have h := up_any 1 n f (by decide) hn (by rw [Nat.one_mul, hf]) (by rw [← hf]; exact p10_lt _ (by omega)) w
  rw [u_one] at h
  exact h

end Go.Proofs.Ytcgdcnhggejgbaa
