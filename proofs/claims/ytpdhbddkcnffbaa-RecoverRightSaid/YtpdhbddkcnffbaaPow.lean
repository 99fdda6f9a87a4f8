/- package field: Pow. -/
import Derived.Test.YtpdhbddkcnffbaaField3
namespace Go.Proofs.Ytpdhbddkcnffbaa
open Go.RowKit
set_option linter.unusedVariables false
set_option linter.unusedSimpArgs false

theorem div_one (m q r : Nat) (hm : m < M256) (h0 : 0 < m) (hq : 1 / m = q) (hr : 1 % m = r) (w : World) :
    Calls Try.prog 34 #[.agg #[.int .u64 1, .int .u64 0, .int .u64 0, .int .u64 0], u m] w fun e w' => e = .returned (.tuple #[u q, u r, .int .i64 0]) ∧ New w w' := by
  have h := divmod_any 1 m (by decide) hm h0 w
  rw [hq, hr, u_one] at h
  exact h

set_option maxHeartbeats 1000000 in
theorem powc0 (x a m y : Nat) (go gm ga : Nat) (hm : m < M256) (hx : x < m) (hy : x * x % m = y) (w : World) (B1 : Blk w go 26 (uc x)) (B2 : Blk w gm 26 (uc m)) (B3 : Blk w ga 26 (uc a)) :
    Calls Try.prog 49 #[.bool false, .pointer (some ⟨go, 0, none⟩), .pointer (some ⟨gm, 0, none⟩), .pointer (some ⟨ga, 0, none⟩)] w fun e w' => e = .returned (.tuple #[]) ∧ Blk w' go 26 (uc y) ∧ Keep [go] w w' := by
  have hm := hide hm; have hx := hide hx; have hy := hide hy
  have N := new_refl w
  have c1 := B1.cell; have c2 := B2.cell; have c3 := B3.cell
  go_enter Try.func49, Try.ntmps49
  go_wp2_with fail
  refine (fmul_to x x m y (unhide hm) (unhide hx) (Nat.lt_trans (unhide hx) (unhide hm)) (unhide hy) _).mono ?_
  rintro e w1 ⟨rfl, hb⟩
  have U : New w w1 := new_trans (by (repeat' (first | with_reducible exact new_refl _ | with_reducible assumption | with_reducible refine new_drewN ?_ _ | with_reducible refine new_drew ?_ | with_reducible refine new_alloc ?_ _ | with_reducible refine new_set ?_ ?_ _ | with_reducible refine new_freeze ?_ ?_ _ | with_reducible refine new_trans ?_ (by assumption) | (simp; done) | (simp; omega)))) hb
  have N : New w w1 := new_trans (by (repeat' (first | with_reducible exact new_refl _ | with_reducible assumption | with_reducible refine new_drewN ?_ _ | with_reducible refine new_drew ?_ | with_reducible refine new_alloc ?_ _ | with_reducible refine new_set ?_ ?_ _ | with_reducible refine new_freeze ?_ ?_ _ | with_reducible refine new_trans ?_ (by assumption) | (simp; done) | (simp; omega)))) hb
  have B1 := B1.up U
  have B2 := B2.up U
  have B3 := B3.up U
  try clear c1
  try clear l1
  try clear f1
  have c1 := B1.cell; have l1 := B1.lt
  try clear c2
  try clear l2
  try clear f2
  have c2 := B2.cell; have l2 := B2.lt
  try clear c3
  try clear l3
  try clear f3
  have c3 := B3.cell; have l3 := B3.lt
  clear hb U
  have f1 := B1.free
  go_wp2
  go_end0
  exact ⟨rfl, B1.set4 _ _ _ _, keep_set4 (Keep.ofNew N) (by simp) _ _ _ _⟩

set_option maxHeartbeats 1000000 in
theorem powc1 (x a m y z : Nat) (go gm ga : Nat) (hm : m < M256) (hx : x < m) (ha : a < m) (hy : x * x % m = y) (hz : y * a % m = z) (h1 : go ≠ gm) (h2 : go ≠ ga) (w : World) (B1 : Blk w go 26 (uc x)) (B2 : Blk w gm 26 (uc m)) (B3 : Blk w ga 26 (uc a)) :
    Calls Try.prog 49 #[.bool true, .pointer (some ⟨go, 0, none⟩), .pointer (some ⟨gm, 0, none⟩), .pointer (some ⟨ga, 0, none⟩)] w fun e w' => e = .returned (.tuple #[]) ∧ Blk w' go 26 (uc z) ∧ Keep [go] w w' := by
  have hy' : y < m := by rw [← hy]; exact Nat.mod_lt _ (by omega)
  have hm := hide hm; have hx := hide hx; have hy := hide hy; have hz := hide hz; have ha := hide ha; have hy' := hide hy'
  have N := new_refl w
  have c1 := B1.cell; have c2 := B2.cell; have c3 := B3.cell
  go_enter Try.func49, Try.ntmps49
  go_wp2_with fail
  refine (fmul_to x x m y (unhide hm) (unhide hx) (Nat.lt_trans (unhide hx) (unhide hm)) (unhide hy) _).mono ?_
  rintro e w1 ⟨rfl, hb⟩
  have U : New w w1 := new_trans (by (repeat' (first | with_reducible exact new_refl _ | with_reducible assumption | with_reducible refine new_drewN ?_ _ | with_reducible refine new_drew ?_ | with_reducible refine new_alloc ?_ _ | with_reducible refine new_set ?_ ?_ _ | with_reducible refine new_freeze ?_ ?_ _ | with_reducible refine new_trans ?_ (by assumption) | (simp; done) | (simp; omega)))) hb
  have N : New w w1 := new_trans (by (repeat' (first | with_reducible exact new_refl _ | with_reducible assumption | with_reducible refine new_drewN ?_ _ | with_reducible refine new_drew ?_ | with_reducible refine new_alloc ?_ _ | with_reducible refine new_set ?_ ?_ _ | with_reducible refine new_freeze ?_ ?_ _ | with_reducible refine new_trans ?_ (by assumption) | (simp; done) | (simp; omega)))) hb
  have B1 := B1.up U
  have B2 := B2.up U
  have B3 := B3.up U
  try clear c1
  try clear l1
  try clear f1
  have c1 := B1.cell; have l1 := B1.lt
  try clear c2
  try clear l2
  try clear f2
  have c2 := B2.cell; have l2 := B2.lt
  try clear c3
  try clear l3
  try clear f3
  have c3 := B3.cell; have l3 := B3.lt
  clear hb U
  have f1 := B1.free
  go_wp2_with fail
  have B1 : Blk _ _ _ (uc y) := B1.set4 (.int .u64 (lim y 0)) (.int .u64 (lim y 1)) (.int .u64 (lim y 2)) (.int .u64 (lim y 3))
  have hk := keep_set4 (T := [go]) (Keep.ofNew N) (g := go) (by simp) (.int .u64 (lim y 0)) (.int .u64 (lim y 1)) (.int .u64 (lim y 2)) (.int .u64 (lim y 3))
  have B2 := B2.far4 (g' := go) (Ne.symm h1) (.int .u64 (lim y 0)) (.int .u64 (lim y 1)) (.int .u64 (lim y 2)) (.int .u64 (lim y 3))
  have B3 := B3.far4 (g' := go) (Ne.symm h2) (.int .u64 (lim y 0)) (.int .u64 (lim y 1)) (.int .u64 (lim y 2)) (.int .u64 (lim y 3))
  clear c1 c2 c3 f1 l1 l2 l3
  generalize World.setCell _ _ _ = w2 at *
  refine (fmul_to y a m z (unhide hm) (unhide hy') (Nat.lt_trans (unhide ha) (unhide hm)) (unhide hz) _).mono ?_
  rintro e w3 ⟨rfl, hb⟩
  have B1 := B1.up hb
  have hk := hk.new hb
  have c1 := B1.cell; have f1 := B1.free
  clear N hb
  go_wp2
  go_end0
  exact ⟨rfl, B1.set4 _ _ _ _, keep_set4 hk (by simp) _ _ _ _⟩

set_option maxHeartbeats 2000000 in
theorem Pow_to (a x m r : Nat) (hm : m < M256) (ha : a < m) (hx : x < M256) (er : a ^ x % m = r) (w : World) :
    Calls Try.prog 36 #[u a, u x, u m] w fun e w' => e = .returned (.tuple #[u r, .int .i64 0]) ∧ New w w' := by
  obtain ⟨q, eq⟩ : ∃ q, 1 / m = q := ⟨_, rfl⟩
  obtain ⟨o, eo⟩ : ∃ o, 1 % m = o := ⟨_, rfl⟩
  have er := hide er; have hm := hide hm; have ha := hide ha; have hx := hide hx; have eq := hide eq; have eo := hide eo
  go_enter Try.func36, Try.ntmps36
  go_wp2_with fail
  generalize hW : World.alloc _ _ = W
  obtain ⟨N, B3, B4, B5, B6, B14⟩ := boxes5 hW
  clear hW
  generalize q14 : w.heap.size + 1 + 1 + 1 + 1 = g14 at *
  generalize q6 : w.heap.size + 1 + 1 + 1 = g6 at *
  generalize q5 : w.heap.size + 1 + 1 = g5 at *
  generalize q4 : w.heap.size + 1 = g4 at *
  have hL : Hid (w.heap.size < g4 ∧ g4 < g5 ∧ g5 < g6 ∧ g6 < g14) := hide (by omega)
  clear q4 q5 q6 q14
  try clear c3
  try clear l3
  try clear f3
  have c3 := B3.cell; have l3 := B3.lt
  try clear c4
  try clear l4
  try clear f4
  have c4 := B4.cell; have l4 := B4.lt
  try clear c5
  try clear l5
  try clear f5
  have c5 := B5.cell; have l5 := B5.lt
  try clear c6
  try clear l6
  try clear f6
  have c6 := B6.cell; have l6 := B6.lt
  try clear c14
  try clear l14
  try clear f14
  have c14 := B14.cell; have l14 := B14.lt
  refine (fault1 a m g14 _ (unhide hm) (unhide ha) _ B14).mono ?_
  rintro e w1 ⟨rfl, hb⟩
  have U : New W w1 := new_trans (by (repeat' (first | with_reducible exact new_refl _ | with_reducible assumption | with_reducible refine new_drewN ?_ _ | with_reducible refine new_drew ?_ | with_reducible refine new_alloc ?_ _ | with_reducible refine new_set ?_ ?_ _ | with_reducible refine new_freeze ?_ ?_ _ | with_reducible refine new_trans ?_ (by assumption) | (simp; done) | (simp; omega)))) hb
  have N : New w w1 := new_trans (by (repeat' (first | with_reducible exact new_refl _ | with_reducible assumption | with_reducible refine new_drewN ?_ _ | with_reducible refine new_drew ?_ | with_reducible refine new_alloc ?_ _ | with_reducible refine new_set ?_ ?_ _ | with_reducible refine new_freeze ?_ ?_ _ | with_reducible refine new_trans ?_ (by assumption) | (simp; done) | (simp; omega)))) hb
  have B3 := B3.up U
  have B4 := B4.up U
  have B5 := B5.up U
  have B6 := B6.up U
  try clear c3
  try clear l3
  try clear f3
  have c3 := B3.cell; have l3 := B3.lt
  try clear c4
  try clear l4
  try clear f4
  have c4 := B4.cell; have l4 := B4.lt
  try clear c5
  try clear l5
  try clear f5
  have c5 := B5.cell; have l5 := B5.lt
  try clear c6
  try clear l6
  try clear f6
  have c6 := B6.cell; have l6 := B6.lt
  clear hb U
  clear B14 c14 l14
  go_wp2_with fail
  refine (div_one m q o (unhide hm) (by have := unhide ha; omega) (unhide eq) (unhide eo) _).mono ?_
  rintro e w2 ⟨rfl, hb⟩
  have U : New w1 w2 := new_trans (by (repeat' (first | with_reducible exact new_refl _ | with_reducible assumption | with_reducible refine new_drewN ?_ _ | with_reducible refine new_drew ?_ | with_reducible refine new_alloc ?_ _ | with_reducible refine new_set ?_ ?_ _ | with_reducible refine new_freeze ?_ ?_ _ | with_reducible refine new_trans ?_ (by assumption) | (simp; done) | (simp; omega)))) hb
  have N : New w w2 := new_trans (by (repeat' (first | with_reducible exact new_refl _ | with_reducible assumption | with_reducible refine new_drewN ?_ _ | with_reducible refine new_drew ?_ | with_reducible refine new_alloc ?_ _ | with_reducible refine new_set ?_ ?_ _ | with_reducible refine new_freeze ?_ ?_ _ | with_reducible refine new_trans ?_ (by assumption) | (simp; done) | (simp; omega)))) hb
  have B3 := B3.up U
  have B4 := B4.up U
  have B5 := B5.up U
  have B6 := B6.up U
  try clear c3
  try clear l3
  try clear f3
  have c3 := B3.cell; have l3 := B3.lt
  try clear c4
  try clear l4
  try clear f4
  have c4 := B4.cell; have l4 := B4.lt
  try clear c5
  try clear l5
  try clear f5
  have c5 := B5.cell; have l5 := B5.lt
  try clear c6
  try clear l6
  try clear f6
  have c6 := B6.cell; have l6 := B6.lt
  clear hb U
  go_wp2_with fail
  generalize hZ : World.alloc _ _ = Z
  obtain ⟨NZ, B9, B10⟩ := boxes2 hZ
  have B3 := B3.up NZ; have B4 := B4.up NZ; have B5 := B5.up NZ; have B6 := B6.up NZ; have N' := new_trans N NZ
  have k6 : g6 ≠ w2.heap.size + 1 := by omega
  have k5 : w2.heap.size + 1 ≠ g5 := by omega
  have k3 : w2.heap.size + 1 ≠ w.heap.size := by omega
  have kb : w.heap.size ≤ w2.heap.size + 1 := by omega
  have l10 := B10.lt
  clear hZ NZ l3 l4 l5 l6 c3 c4 c5 c6 N B9
  generalize w2.heap.size + 1 = g10 at *
  have m0 : 0 < m := by have := unhide ha; omega
  have hz : uc o = uc (a ^ 0 % m) := by rw [Nat.pow_zero, unhide eo]
  have B10 : Blk Z g10 26 (uc (a ^ 0 % m)) := by rw [← hz]; exact B10
  refine (bits_Pow x (unhide hx) (.pointer (some ⟨g10, 0, none⟩)) (.pointer (some ⟨g5, 0, none⟩)) (.pointer (some ⟨w.heap.size, 0, none⟩)) [g10] (fun p w' => Blk w' g10 26 (uc (a ^ p % m)) ∧ Blk w' g5 26 (uc m) ∧ Blk w' w.heap.size 26 (uc a))
    (fun p w w' h k => ⟨h.1.up k, h.2.1.up k, h.2.2.up k⟩) ?_ ?_ Z ⟨B10, B5, B3⟩ (by simp; exact l10)).mono ?_
  · intro p w' h _
    exact (powc0 (a ^ p % m) a m (a ^ (2 * p) % m) g10 g5 _ (unhide hm) (Nat.mod_lt _ m0) (FM.pow_split a p m).symm w' h.1 h.2.1 h.2.2).mono fun e w'' k => ⟨k.1, ⟨k.2.1, h.2.1.keep k.2.2 (by simp [Ne.symm k5]), h.2.2.keep k.2.2 (by simp [Ne.symm k3])⟩, k.2.2⟩
  · intro p w' h _
    exact (powc1 (a ^ p % m) a m (a ^ (2 * p) % m) (a ^ (2 * p + 1) % m) g10 g5 _ (unhide hm) (Nat.mod_lt _ m0) (unhide ha) (FM.pow_split a p m).symm (by rw [FM.pow_one, FM.pow_split]) k5 k3 w' h.1 h.2.1 h.2.2).mono fun e w'' k => ⟨k.1, ⟨k.2.1, h.2.1.keep k.2.2 (by simp [Ne.symm k5]), h.2.2.keep k.2.2 (by simp [Ne.symm k3])⟩, k.2.2⟩
  rintro e w3 ⟨rfl, ⟨B10', -, -⟩, hk⟩
  have B6 := B6.keep hk (by simp [k6])
  have N := hk.since N' (by simp; exact kb)
  rw [unhide er] at B10'
  clear hk hz m0 B10 l10 N' B3 B4 B5 k5 k3 kb
  have c6 := B6.cell; have c10 := B10'.cell; have f6 := B6.free; have f10 := B10'.free
  go_wp2
  have c := (B6.set4 (.int .u64 (lim (r) 0)) (.int .u64 (lim (r) 1)) (.int .u64 (lim (r) 2)) (.int .u64 (lim (r) 3))).cell
  exact bodyPost_ret (v := .tuple #[u r, .int .i64 0]) (by simp [results, Try.results36, go_sem, c]) rfl ⟨rfl, (new_set4 N (g := g6) (by have := unhide hL; omega) (.int .u64 (lim (r) 0)) (.int .u64 (lim (r) 1)) (.int .u64 (lim (r) 2)) (.int .u64 (lim (r) 3)))⟩
end Go.Proofs.Ytpdhbddkcnffbaa
