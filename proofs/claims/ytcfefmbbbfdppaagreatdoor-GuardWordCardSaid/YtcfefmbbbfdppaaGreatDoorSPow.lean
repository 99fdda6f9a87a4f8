/- package field: Pow. -/
import Derived.Test.YtcfefmbbbfdppaaGreatDoorSFieldM
namespace Go.Proofs.YtcfefmbbbfdppaaGreatDoor
open Go.RowKit
set_option linter.unusedVariables false
set_option maxRecDepth 100000
set_option linter.unusedSimpArgs false
theorem keep_set4 {T : List Nat} {w0 w : World} (h : Keep T w0 w) {g : Nat} (hg : g ∈ T) (x0 x1 x2 x3 : Value) :
    Keep T w0 ((((w.setCell ⟨g, 0, none⟩ x0).setCell ⟨g, 1, none⟩ x1).setCell ⟨g, 2, none⟩ x2).setCell ⟨g, 3, none⟩ x3) := by
  have one : ∀ (w : World) (n : Nat) (x : Value), Keep T w0 w → Keep T w0 (w.setCell ⟨g, n, none⟩ x) := by
    intro w n x h
    refine ⟨h.os, h.tape, h.output, by simpa [World.setCell] using h.size, fun i hi hT => ?_⟩
    rw [Below.heap_setCell _ _ _ _ (fun he => hT (by rw [he]; exact hg))]
    exact h.block i hi hT
  exact one _ 3 _ (one _ 2 _ (one _ 1 _ (one _ 0 _ h)))
theorem fadd_to (a b m r : Nat) (hm : m < M256) (ha : a < m) (hb : b < m) (hr : (a + b) % m = r) (w : World) :
    Calls Tryz.prog 101 #[u a, u b, u m] w fun e w' => e = .returned (u r) ∧ New w w' := hr ▸ fadd_any a b m hm ha hb w
theorem dbl (p a m : Nat) : (p * a % m + p * a % m) % m = 2 * p * a % m := by
  rw [← Nat.add_mod, Nat.mul_assoc, Nat.two_mul]
theorem dbl1 (p a m : Nat) (ha : a < m) : (2 * p * a % m + a) % m = (2 * p + 1) * a % m := by
  rw [Nat.mod_add_mod, Nat.add_mul, Nat.one_mul]
set_option maxHeartbeats 1000000 in
theorem mulc0 (x a m y : Nat) (go gm ga : Nat) (hm : m < M256) (hx : x < m) (hy : (x + x) % m = y) (w : World) (B1 : Blk w go 27 (uc x)) (B2 : Blk w gm 27 (uc m)) (B3 : Blk w ga 27 (uc a)) :
    Calls Tryz.prog 100 #[.bool false, .pointer (some ⟨go, 0, none⟩), .pointer (some ⟨gm, 0, none⟩), .pointer (some ⟨ga, 0, none⟩)] w fun e w' => e = .returned (.tuple #[]) ∧ Blk w' go 27 (uc y) ∧ Keep [go] w w' := by
  have hm := hide hm; have hx := hide hx; have hy := hide hy
  have N := new_refl w
  have c1 := B1.cell; have c2 := B2.cell; have c3 := B3.cell
  go_enter Tryz.func100, Tryz.ntmps100
  go_wp2_with fail
  refine (fadd_to x x m y (unhide hm) (unhide hx) (unhide hx) (unhide hy) _).mono ?_
  rintro e w1 ⟨rfl, hb⟩
  have U : New w w1 := new_trans (by (repeat' (first | with_reducible exact new_refl _ | with_reducible assumption | with_reducible refine new_drewN ?_ _ | with_reducible refine new_drew ?_ | with_reducible refine new_alloc ?_ _ | with_reducible refine new_set ?_ ?_ _ | with_reducible refine new_freeze ?_ ?_ _ | with_reducible refine new_trans ?_ (by assumption) | (simp; done) | (simp; omega)))) hb
  have N : New w w1 := new_trans (by (repeat' (first | with_reducible exact new_refl _ | with_reducible assumption | with_reducible refine new_drewN ?_ _ | with_reducible refine new_drew ?_ | with_reducible refine new_alloc ?_ _ | with_reducible refine new_set ?_ ?_ _ | with_reducible refine new_freeze ?_ ?_ _ | with_reducible refine new_trans ?_ (by assumption) | (simp; done) | (simp; omega)))) hb
  have B1 := B1.up U
  have B2 := B2.up U
  have B3 := B3.up U
  try clear c1
  try clear l1
  try clear f1
  have c1 := B1.cell; have l1 := B1.lt
  try clear c2
  try clear l2
  try clear f2
  have c2 := B2.cell; have l2 := B2.lt
  try clear c3
  try clear l3
  try clear f3
  have c3 := B3.cell; have l3 := B3.lt
  clear hb U
  have f1 := B1.free
  go_wp2
  go_end0
  exact ⟨rfl, B1.set4 _ _ _ _, keep_set4 (Keep.ofNew N) (by simp) _ _ _ _⟩
set_option maxHeartbeats 1000000 in
theorem mulc1 (x a m y z : Nat) (go gm ga : Nat) (hm : m < M256) (hx : x < m) (ha : a < m) (hy : (x + x) % m = y) (hz : (y + a) % m = z) (h1 : go ≠ gm) (h2 : go ≠ ga) (w : World) (B1 : Blk w go 27 (uc x)) (B2 : Blk w gm 27 (uc m)) (B3 : Blk w ga 27 (uc a)) :
    Calls Tryz.prog 100 #[.bool true, .pointer (some ⟨go, 0, none⟩), .pointer (some ⟨gm, 0, none⟩), .pointer (some ⟨ga, 0, none⟩)] w fun e w' => e = .returned (.tuple #[]) ∧ Blk w' go 27 (uc z) ∧ Keep [go] w w' := by
  have hy' : y < m := by rw [← hy]; exact Nat.mod_lt _ (by omega)
  have hm := hide hm; have hx := hide hx; have hy := hide hy; have hz := hide hz; have ha := hide ha; have hy' := hide hy'
  have N := new_refl w
  have c1 := B1.cell; have c2 := B2.cell; have c3 := B3.cell
  go_enter Tryz.func100, Tryz.ntmps100
  go_wp2_with fail
  refine (fadd_to x x m y (unhide hm) (unhide hx) (unhide hx) (unhide hy) _).mono ?_
  rintro e w1 ⟨rfl, hb⟩
  have U : New w w1 := new_trans (by (repeat' (first | with_reducible exact new_refl _ | with_reducible assumption | with_reducible refine new_drewN ?_ _ | with_reducible refine new_drew ?_ | with_reducible refine new_alloc ?_ _ | with_reducible refine new_set ?_ ?_ _ | with_reducible refine new_freeze ?_ ?_ _ | with_reducible refine new_trans ?_ (by assumption) | (simp; done) | (simp; omega)))) hb
  have N : New w w1 := new_trans (by (repeat' (first | with_reducible exact new_refl _ | with_reducible assumption | with_reducible refine new_drewN ?_ _ | with_reducible refine new_drew ?_ | with_reducible refine new_alloc ?_ _ | with_reducible refine new_set ?_ ?_ _ | with_reducible refine new_freeze ?_ ?_ _ | with_reducible refine new_trans ?_ (by assumption) | (simp; done) | (simp; omega)))) hb
  have B1 := B1.up U
  have B2 := B2.up U
  have B3 := B3.up U
  try clear c1
  try clear l1
  try clear f1
  have c1 := B1.cell; have l1 := B1.lt
  try clear c2
  try clear l2
  try clear f2
  have c2 := B2.cell; have l2 := B2.lt
  try clear c3
  try clear l3
  try clear f3
  have c3 := B3.cell; have l3 := B3.lt
  clear hb U
  have f1 := B1.free
  go_wp2_with fail
  have B1 : Blk _ _ _ (uc y) := B1.set4 (.int .u64 (lim y 0)) (.int .u64 (lim y 1)) (.int .u64 (lim y 2)) (.int .u64 (lim y 3))
  have hk := keep_set4 (T := [go]) (Keep.ofNew N) (g := go) (by simp) (.int .u64 (lim y 0)) (.int .u64 (lim y 1)) (.int .u64 (lim y 2)) (.int .u64 (lim y 3))
  have B2 := B2.far4 (g' := go) (Ne.symm h1) (.int .u64 (lim y 0)) (.int .u64 (lim y 1)) (.int .u64 (lim y 2)) (.int .u64 (lim y 3))
  have B3 := B3.far4 (g' := go) (Ne.symm h2) (.int .u64 (lim y 0)) (.int .u64 (lim y 1)) (.int .u64 (lim y 2)) (.int .u64 (lim y 3))
  clear c1 c2 c3 f1 l1 l2 l3
  generalize World.setCell _ _ _ = w2 at *
  refine (fadd_to y a m z (unhide hm) (unhide hy') (unhide ha) (unhide hz) _).mono ?_
  rintro e w3 ⟨rfl, hb⟩
  have B1 := B1.up hb
  have hk := hk.new hb
  have c1 := B1.cell; have f1 := B1.free
  clear N hb
  go_wp2
  go_end0
  exact ⟨rfl, B1.set4 _ _ _ _, keep_set4 hk (by simp) _ _ _ _⟩
theorem uc_of (n : Nat) (h : n = 0) : z4 = uc n := by subst h; exact uc_zero.symm
set_option maxHeartbeats 1000000 in
theorem fmul_any (a b m r : Nat) (hm : m < M256) (ha : a < m) (hb : b < M256) (er : b * a % m = r) (w : World) :
    Calls Tryz.prog 72 #[u a, u b, u m] w fun e w' => e = .returned (u r) ∧ New w w' := by
  have er := hide er; have hm := hide hm; have ha := hide ha; have hb := hide hb
  go_enter Tryz.func72, Tryz.ntmps72
  go_wp2_with fail
  generalize hW : World.alloc _ _ = W
  obtain ⟨N, B3, B4, B5, B6, B7⟩ := boxes5 hW
  clear hW
  generalize q7 : w.heap.size + 1 + 1 + 1 + 1 = g7 at *
  generalize q6 : w.heap.size + 1 + 1 + 1 = g6 at *
  generalize q5 : w.heap.size + 1 + 1 = g5 at *
  generalize q4 : w.heap.size + 1 = g4 at *
  have hL : Hid (w.heap.size < g4 ∧ g4 < g5 ∧ g5 < g6 ∧ g6 < g7) := hide (by omega)
  clear q4 q5 q6 q7
  try clear c3
  try clear l3
  try clear f3
  have c3 := B3.cell; have l3 := B3.lt
  try clear c4
  try clear l4
  try clear f4
  have c4 := B4.cell; have l4 := B4.lt
  try clear c5
  try clear l5
  try clear f5
  have c5 := B5.cell; have l5 := B5.lt
  try clear c6
  try clear l6
  try clear f6
  have c6 := B6.cell; have l6 := B6.lt
  try clear c7
  try clear l7
  try clear f7
  have c7 := B7.cell; have l7 := B7.lt
  have hz : z4 = uc (0 * a % m) := uc_of _ (by rw [Nat.zero_mul, Nat.zero_mod])
  have m0 : 0 < m := by have := unhide ha; omega
  have n73 : g7 ≠ w.heap.size := by have := unhide hL; omega
  have n75 : g7 ≠ g5 := by have := unhide hL; omega
  have n67 : g6 ≠ g7 := by have := unhide hL; omega
  have B7 : Blk W g7 27 (uc (0 * a % m)) := by rw [← hz]; exact B7
  refine (bits_mul b (unhide hb) (.pointer (some ⟨g7, 0, none⟩)) (.pointer (some ⟨g5, 0, none⟩)) (.pointer (some ⟨w.heap.size, 0, none⟩)) [g7] (fun p w' => Blk w' g7 27 (uc (p * a % m)) ∧ Blk w' g5 27 (uc m) ∧ Blk w' w.heap.size 27 (uc a))
    (fun p w w' h k => ⟨h.1.up k, h.2.1.up k, h.2.2.up k⟩) ?_ ?_ W ⟨B7, B5, B3⟩ (by simp; exact l7)).mono ?_
  · intro p w' h _
    exact (mulc0 (p * a % m) a m (2 * p * a % m) g7 g5 _ (unhide hm) (Nat.mod_lt _ m0) (dbl p a m) w' h.1 h.2.1 h.2.2).mono fun e w'' k => ⟨k.1, ⟨k.2.1, h.2.1.keep k.2.2 (by simp [n75, Ne.symm n75]), h.2.2.keep k.2.2 (by simp [Ne.symm n73])⟩, k.2.2⟩
  · intro p w' h _
    exact (mulc1 (p * a % m) a m (2 * p * a % m) ((2 * p + 1) * a % m) g7 g5 _ (unhide hm) (Nat.mod_lt _ m0) (unhide ha) (dbl p a m) (dbl1 p a m (unhide ha)) n75 n73 w' h.1 h.2.1 h.2.2).mono fun e w'' k => ⟨k.1, ⟨k.2.1, h.2.1.keep k.2.2 (by simp [Ne.symm n75]), h.2.2.keep k.2.2 (by simp [Ne.symm n73])⟩, k.2.2⟩
  rintro e w1 ⟨rfl, ⟨B7', -, -⟩, hk⟩
  have B6 := B6.keep hk (by simp [n67])
  have N := hk.since N (by simp; have := unhide hL; omega)
  rw [unhide er] at B7'
  clear c3 c4 c5 c6 c7 l3 l4 l5 l6 l7 hk hz m0 er B7
  have c6 := B6.cell; have c7 := B7'.cell; have f6 := B6.free; have f7 := B7'.free
  go_wp2
  have c := (B6.set4 (.int .u64 (lim (r) 0)) (.int .u64 (lim (r) 1)) (.int .u64 (lim (r) 2)) (.int .u64 (lim (r) 3))).cell
  exact bodyPost_ret (v := u r) (by simp [results, Tryz.results72, go_sem, c]) rfl ⟨rfl, (new_set4 N (g := g6) (by have := unhide hL; omega) (.int .u64 (lim (r) 0)) (.int .u64 (lim (r) 1)) (.int .u64 (lim (r) 2)) (.int .u64 (lim (r) 3)))⟩
theorem fmul_to (a b m r : Nat) (hm : m < M256) (ha : a < m) (hb : b < M256) (hr : a * b % m = r) (w : World) :
    Calls Tryz.prog 72 #[u a, u b, u m] w fun e w' => e = .returned (u r) ∧ New w w' := by
  rw [Nat.mul_comm] at hr; exact fmul_any a b m r hm ha hb hr w
theorem fsub_to (a b m r : Nat) (hm : m < M256) (ha : a < m) (hb : b < m) (hr : (a + m - b) % m = r) (w : World) :
    Calls Tryz.prog 71 #[u a, u b, u m] w fun e w' => e = .returned (u r) ∧ New w w' := hr ▸ fsub_any a b m hm ha hb w
set_option maxHeartbeats 1000000 in
theorem by_add (a b m r : Nat) (hm : m < M256) (ha : a < m) (hb : b < m) (hc : ∀ w, Calls Tryz.prog 101 #[u a, u b, u m] w fun e w' => e = .returned (u r) ∧ New w w') (w : World) :
    Calls Tryz.prog 73 #[.func (.func 101) #[] #[], u a, u b, u m] w fun e w' => e = .returned (.tuple #[u r, .int .i64 0]) ∧ New w w' := by
  have hm := hide hm; have ha := hide ha; have hb := hide hb; have hc := hide hc
  go_enter Tryz.func73, Tryz.ntmps73
  go_wp2_with fail
  generalize hW : World.alloc _ _ = W
  obtain ⟨N, B5, B6, B7, B8, B9⟩ := boxes5 hW
  clear hW
  generalize q9 : w.heap.size + 1 + 1 + 1 + 1 = g9 at *
  generalize q8 : w.heap.size + 1 + 1 + 1 = g8 at *
  generalize q7 : w.heap.size + 1 + 1 = g7 at *
  generalize q6 : w.heap.size + 1 = g6 at *
  have hL : Hid (w.heap.size < g6 ∧ g6 < g7 ∧ g7 < g8 ∧ g8 < g9) := hide (by omega)
  clear q6 q7 q8 q9
  try clear c5
  try clear l5
  try clear f5
  have c5 := B5.cell; have l5 := B5.lt
  try clear c6
  try clear l6
  try clear f6
  have c6 := B6.cell; have l6 := B6.lt
  try clear c7
  try clear l7
  try clear f7
  have c7 := B7.cell; have l7 := B7.lt
  try clear c8
  try clear l8
  try clear f8
  have c8 := B8.cell; have l8 := B8.lt
  try clear c9
  try clear l9
  try clear f9
  have c9 := B9.cell; have l9 := B9.lt
  refine (fault2 a b m g9 _ (unhide hm) (unhide ha) (unhide hb) _ B9).mono ?_
  rintro e w1 ⟨rfl, hb'⟩
  have B5 := B5.up hb'; have B6 := B6.up hb'; have B7 := B7.up hb'; have B8 := B8.up hb'; have N := new_trans N hb'
  clear c5 c6 c7 c8 c9 l5 l6 l7 l8 l9 hb' B9
  have c5 := B5.cell; have c6 := B6.cell; have c7 := B7.cell; have c8 := B8.cell
  go_wp2_with fail
  refine (unhide hc _).mono ?_
  rintro e w2 ⟨rfl, hb'⟩
  have B8 := B8.up hb'; have N := new_trans N hb'
  clear c5 c6 c7 c8 hb' B5 B6 B7
  have c8 := B8.cell; have f8 := B8.free
  go_wp2
  have c := (B8.set4 (.int .u64 (lim (r) 0)) (.int .u64 (lim (r) 1)) (.int .u64 (lim (r) 2)) (.int .u64 (lim (r) 3))).cell
  exact bodyPost_ret (v := .tuple #[u r, .int .i64 0]) (by simp [results, Tryz.results73, go_sem, c]) rfl ⟨rfl, (new_set4 N (g := g8) (by have := unhide hL; omega) (.int .u64 (lim (r) 0)) (.int .u64 (lim (r) 1)) (.int .u64 (lim (r) 2)) (.int .u64 (lim (r) 3)))⟩
set_option maxHeartbeats 1000000 in
theorem by_sub (a b m r : Nat) (hm : m < M256) (ha : a < m) (hb : b < m) (hc : ∀ w, Calls Tryz.prog 71 #[u a, u b, u m] w fun e w' => e = .returned (u r) ∧ New w w') (w : World) :
    Calls Tryz.prog 73 #[.func (.func 71) #[] #[], u a, u b, u m] w fun e w' => e = .returned (.tuple #[u r, .int .i64 0]) ∧ New w w' := by
  have hm := hide hm; have ha := hide ha; have hb := hide hb; have hc := hide hc
  go_enter Tryz.func73, Tryz.ntmps73
  go_wp2_with fail
  generalize hW : World.alloc _ _ = W
  obtain ⟨N, B5, B6, B7, B8, B9⟩ := boxes5 hW
  clear hW
  generalize q9 : w.heap.size + 1 + 1 + 1 + 1 = g9 at *
  generalize q8 : w.heap.size + 1 + 1 + 1 = g8 at *
  generalize q7 : w.heap.size + 1 + 1 = g7 at *
  generalize q6 : w.heap.size + 1 = g6 at *
  have hL : Hid (w.heap.size < g6 ∧ g6 < g7 ∧ g7 < g8 ∧ g8 < g9) := hide (by omega)
  clear q6 q7 q8 q9
  try clear c5
  try clear l5
  try clear f5
  have c5 := B5.cell; have l5 := B5.lt
  try clear c6
  try clear l6
  try clear f6
  have c6 := B6.cell; have l6 := B6.lt
  try clear c7
  try clear l7
  try clear f7
  have c7 := B7.cell; have l7 := B7.lt
  try clear c8
  try clear l8
  try clear f8
  have c8 := B8.cell; have l8 := B8.lt
  try clear c9
  try clear l9
  try clear f9
  have c9 := B9.cell; have l9 := B9.lt
  refine (fault2 a b m g9 _ (unhide hm) (unhide ha) (unhide hb) _ B9).mono ?_
  rintro e w1 ⟨rfl, hb'⟩
  have B5 := B5.up hb'; have B6 := B6.up hb'; have B7 := B7.up hb'; have B8 := B8.up hb'; have N := new_trans N hb'
  clear c5 c6 c7 c8 c9 l5 l6 l7 l8 l9 hb' B9
  have c5 := B5.cell; have c6 := B6.cell; have c7 := B7.cell; have c8 := B8.cell
  go_wp2_with fail
  refine (unhide hc _).mono ?_
  rintro e w2 ⟨rfl, hb'⟩
  have B8 := B8.up hb'; have N := new_trans N hb'
  clear c5 c6 c7 c8 hb' B5 B6 B7
  have c8 := B8.cell; have f8 := B8.free
  go_wp2
  have c := (B8.set4 (.int .u64 (lim (r) 0)) (.int .u64 (lim (r) 1)) (.int .u64 (lim (r) 2)) (.int .u64 (lim (r) 3))).cell
  exact bodyPost_ret (v := .tuple #[u r, .int .i64 0]) (by simp [results, Tryz.results73, go_sem, c]) rfl ⟨rfl, (new_set4 N (g := g8) (by have := unhide hL; omega) (.int .u64 (lim (r) 0)) (.int .u64 (lim (r) 1)) (.int .u64 (lim (r) 2)) (.int .u64 (lim (r) 3)))⟩
set_option maxHeartbeats 1000000 in
theorem by_mul (a b m r : Nat) (hm : m < M256) (ha : a < m) (hb : b < m) (hc : ∀ w, Calls Tryz.prog 72 #[u a, u b, u m] w fun e w' => e = .returned (u r) ∧ New w w') (w : World) :
    Calls Tryz.prog 73 #[.func (.func 72) #[] #[], u a, u b, u m] w fun e w' => e = .returned (.tuple #[u r, .int .i64 0]) ∧ New w w' := by
  have hm := hide hm; have ha := hide ha; have hb := hide hb; have hc := hide hc
  go_enter Tryz.func73, Tryz.ntmps73
  go_wp2_with fail
  generalize hW : World.alloc _ _ = W
  obtain ⟨N, B5, B6, B7, B8, B9⟩ := boxes5 hW
  clear hW
  generalize q9 : w.heap.size + 1 + 1 + 1 + 1 = g9 at *
  generalize q8 : w.heap.size + 1 + 1 + 1 = g8 at *
  generalize q7 : w.heap.size + 1 + 1 = g7 at *
  generalize q6 : w.heap.size + 1 = g6 at *
  have hL : Hid (w.heap.size < g6 ∧ g6 < g7 ∧ g7 < g8 ∧ g8 < g9) := hide (by omega)
  clear q6 q7 q8 q9
  try clear c5
  try clear l5
  try clear f5
  have c5 := B5.cell; have l5 := B5.lt
  try clear c6
  try clear l6
  try clear f6
  have c6 := B6.cell; have l6 := B6.lt
  try clear c7
  try clear l7
  try clear f7
  have c7 := B7.cell; have l7 := B7.lt
  try clear c8
  try clear l8
  try clear f8
  have c8 := B8.cell; have l8 := B8.lt
  try clear c9
  try clear l9
  try clear f9
  have c9 := B9.cell; have l9 := B9.lt
  refine (fault2 a b m g9 _ (unhide hm) (unhide ha) (unhide hb) _ B9).mono ?_
  rintro e w1 ⟨rfl, hb'⟩
  have B5 := B5.up hb'; have B6 := B6.up hb'; have B7 := B7.up hb'; have B8 := B8.up hb'; have N := new_trans N hb'
  clear c5 c6 c7 c8 c9 l5 l6 l7 l8 l9 hb' B9
  have c5 := B5.cell; have c6 := B6.cell; have c7 := B7.cell; have c8 := B8.cell
  go_wp2_with fail
  refine (unhide hc _).mono ?_
  rintro e w2 ⟨rfl, hb'⟩
  have B8 := B8.up hb'; have N := new_trans N hb'
  clear c5 c6 c7 c8 hb' B5 B6 B7
  have c8 := B8.cell; have f8 := B8.free
  go_wp2
  have c := (B8.set4 (.int .u64 (lim (r) 0)) (.int .u64 (lim (r) 1)) (.int .u64 (lim (r) 2)) (.int .u64 (lim (r) 3))).cell
  exact bodyPost_ret (v := .tuple #[u r, .int .i64 0]) (by simp [results, Tryz.results73, go_sem, c]) rfl ⟨rfl, (new_set4 N (g := g8) (by have := unhide hL; omega) (.int .u64 (lim (r) 0)) (.int .u64 (lim (r) 1)) (.int .u64 (lim (r) 2)) (.int .u64 (lim (r) 3)))⟩
set_option maxHeartbeats 1000000 in
theorem pub_Add (a b m r : Nat) (hm : m < M256) (ha : a < m) (hb : b < m) (hc : ∀ w, Calls Tryz.prog 101 #[u a, u b, u m] w fun e w' => e = .returned (u r) ∧ New w w') (w : World) :
    Calls Tryz.prog 82 #[u a, u b, u m] w fun e w' => e = .returned (.tuple #[u r, .int .i64 0]) ∧ New w w' := by
  have hm := hide hm; have ha := hide ha; have hb := hide hb; have hc := hide hc
  go_enter Tryz.func82, Tryz.ntmps82
  go_wp2_with fail
  generalize hW : World.alloc _ _ = W
  obtain ⟨N, B3, B4, B5, B6⟩ := boxes4 hW
  clear hW
  generalize q6 : w.heap.size + 1 + 1 + 1 = g6 at *
  generalize q5 : w.heap.size + 1 + 1 = g5 at *
  generalize q4 : w.heap.size + 1 = g4 at *
  have hL : Hid (w.heap.size < g4 ∧ g4 < g5 ∧ g5 < g6) := hide (by omega)
  clear q4 q5 q6
  try clear c3
  try clear l3
  try clear f3
  have c3 := B3.cell; have l3 := B3.lt
  try clear c4
  try clear l4
  try clear f4
  have c4 := B4.cell; have l4 := B4.lt
  try clear c5
  try clear l5
  try clear f5
  have c5 := B5.cell; have l5 := B5.lt
  try clear c6
  try clear l6
  try clear f6
  have c6 := B6.cell; have l6 := B6.lt
  refine (by_add a b m r (unhide hm) (unhide ha) (unhide hb) (unhide hc) _).mono ?_
  rintro e w1 ⟨rfl, hb'⟩
  have B6 := B6.up hb'; have N := new_trans N hb'
  clear c3 c4 c5 c6 l3 l4 l5 l6 hb' B3 B4 B5
  have c6 := B6.cell; have f6 := B6.free
  go_wp2
  have c := (B6.set4 (.int .u64 (lim (r) 0)) (.int .u64 (lim (r) 1)) (.int .u64 (lim (r) 2)) (.int .u64 (lim (r) 3))).cell
  exact bodyPost_ret (v := .tuple #[u r, .int .i64 0]) (by simp [results, Tryz.results82, go_sem, c]) rfl ⟨rfl, (new_set4 N (g := g6) (by have := unhide hL; omega) (.int .u64 (lim (r) 0)) (.int .u64 (lim (r) 1)) (.int .u64 (lim (r) 2)) (.int .u64 (lim (r) 3)))⟩
set_option maxHeartbeats 1000000 in
theorem pub_Sub (a b m r : Nat) (hm : m < M256) (ha : a < m) (hb : b < m) (hc : ∀ w, Calls Tryz.prog 71 #[u a, u b, u m] w fun e w' => e = .returned (u r) ∧ New w w') (w : World) :
    Calls Tryz.prog 105 #[u a, u b, u m] w fun e w' => e = .returned (.tuple #[u r, .int .i64 0]) ∧ New w w' := by
  have hm := hide hm; have ha := hide ha; have hb := hide hb; have hc := hide hc
  go_enter Tryz.func105, Tryz.ntmps105
  go_wp2_with fail
  generalize hW : World.alloc _ _ = W
  obtain ⟨N, B3, B4, B5, B6⟩ := boxes4 hW
  clear hW
  generalize q6 : w.heap.size + 1 + 1 + 1 = g6 at *
  generalize q5 : w.heap.size + 1 + 1 = g5 at *
  generalize q4 : w.heap.size + 1 = g4 at *
  have hL : Hid (w.heap.size < g4 ∧ g4 < g5 ∧ g5 < g6) := hide (by omega)
  clear q4 q5 q6
  try clear c3
  try clear l3
  try clear f3
  have c3 := B3.cell; have l3 := B3.lt
  try clear c4
  try clear l4
  try clear f4
  have c4 := B4.cell; have l4 := B4.lt
  try clear c5
  try clear l5
  try clear f5
  have c5 := B5.cell; have l5 := B5.lt
  try clear c6
  try clear l6
  try clear f6
  have c6 := B6.cell; have l6 := B6.lt
  refine (by_sub a b m r (unhide hm) (unhide ha) (unhide hb) (unhide hc) _).mono ?_
  rintro e w1 ⟨rfl, hb'⟩
  have B6 := B6.up hb'; have N := new_trans N hb'
  clear c3 c4 c5 c6 l3 l4 l5 l6 hb' B3 B4 B5
  have c6 := B6.cell; have f6 := B6.free
  go_wp2
  have c := (B6.set4 (.int .u64 (lim (r) 0)) (.int .u64 (lim (r) 1)) (.int .u64 (lim (r) 2)) (.int .u64 (lim (r) 3))).cell
  exact bodyPost_ret (v := .tuple #[u r, .int .i64 0]) (by simp [results, Tryz.results105, go_sem, c]) rfl ⟨rfl, (new_set4 N (g := g6) (by have := unhide hL; omega) (.int .u64 (lim (r) 0)) (.int .u64 (lim (r) 1)) (.int .u64 (lim (r) 2)) (.int .u64 (lim (r) 3)))⟩
set_option maxHeartbeats 1000000 in
theorem pub_Mul (a b m r : Nat) (hm : m < M256) (ha : a < m) (hb : b < m) (hc : ∀ w, Calls Tryz.prog 72 #[u a, u b, u m] w fun e w' => e = .returned (u r) ∧ New w w') (w : World) :
    Calls Tryz.prog 34 #[u a, u b, u m] w fun e w' => e = .returned (.tuple #[u r, .int .i64 0]) ∧ New w w' := by
  have hm := hide hm; have ha := hide ha; have hb := hide hb; have hc := hide hc
  go_enter Tryz.func34, Tryz.ntmps34
  go_wp2_with fail
  generalize hW : World.alloc _ _ = W
  obtain ⟨N, B3, B4, B5, B6⟩ := boxes4 hW
  clear hW
  generalize q6 : w.heap.size + 1 + 1 + 1 = g6 at *
  generalize q5 : w.heap.size + 1 + 1 = g5 at *
  generalize q4 : w.heap.size + 1 = g4 at *
  have hL : Hid (w.heap.size < g4 ∧ g4 < g5 ∧ g5 < g6) := hide (by omega)
  clear q4 q5 q6
  try clear c3
  try clear l3
  try clear f3
  have c3 := B3.cell; have l3 := B3.lt
  try clear c4
  try clear l4
  try clear f4
  have c4 := B4.cell; have l4 := B4.lt
  try clear c5
  try clear l5
  try clear f5
  have c5 := B5.cell; have l5 := B5.lt
  try clear c6
  try clear l6
  try clear f6
  have c6 := B6.cell; have l6 := B6.lt
  refine (by_mul a b m r (unhide hm) (unhide ha) (unhide hb) (unhide hc) _).mono ?_
  rintro e w1 ⟨rfl, hb'⟩
  have B6 := B6.up hb'; have N := new_trans N hb'
  clear c3 c4 c5 c6 l3 l4 l5 l6 hb' B3 B4 B5
  have c6 := B6.cell; have f6 := B6.free
  go_wp2
  have c := (B6.set4 (.int .u64 (lim (r) 0)) (.int .u64 (lim (r) 1)) (.int .u64 (lim (r) 2)) (.int .u64 (lim (r) 3))).cell
  exact bodyPost_ret (v := .tuple #[u r, .int .i64 0]) (by simp [results, Tryz.results34, go_sem, c]) rfl ⟨rfl, (new_set4 N (g := g6) (by have := unhide hL; omega) (.int .u64 (lim (r) 0)) (.int .u64 (lim (r) 1)) (.int .u64 (lim (r) 2)) (.int .u64 (lim (r) 3)))⟩
theorem Add_to (a b m r : Nat) (hm : m < M256) (ha : a < m) (hb : b < m) (hr : (a + b) % m = r) (w : World) :
    Calls Tryz.prog 82 #[u a, u b, u m] w fun e w' => e = .returned (.tuple #[u r, .int .i64 0]) ∧ New w w' :=
  pub_Add a b m r hm ha hb (fadd_to a b m r hm ha hb hr) w
theorem Sub_to (a b m r : Nat) (hm : m < M256) (ha : a < m) (hb : b < m) (hr : (a + m - b) % m = r) (w : World) :
    Calls Tryz.prog 105 #[u a, u b, u m] w fun e w' => e = .returned (.tuple #[u r, .int .i64 0]) ∧ New w w' :=
  pub_Sub a b m r hm ha hb (fsub_to a b m r hm ha hb hr) w
theorem Mul_to (a b m r : Nat) (hm : m < M256) (ha : a < m) (hb : b < m) (hr : a * b % m = r) (w : World) :
    Calls Tryz.prog 34 #[u a, u b, u m] w fun e w' => e = .returned (.tuple #[u r, .int .i64 0]) ∧ New w w' :=
  pub_Mul a b m r hm ha hb (fmul_to a b m r hm ha (Nat.lt_trans hb hm) hr) w
end Go.Proofs.YtcfefmbbbfdppaaGreatDoor
namespace Go.Proofs.YtcfefmbbbfdppaaGreatDoor
open Go.RowKit
set_option linter.unusedVariables false
set_option maxRecDepth 100000
set_option linter.unusedSimpArgs false
theorem div_one (m q r : Nat) (hm : m < M256) (h0 : 0 < m) (hq : 1 / m = q) (hr : 1 % m = r) (w : World) :
    Calls Tryz.prog 70 #[.agg #[.int .u64 1, .int .u64 0, .int .u64 0, .int .u64 0], u m] w fun e w' => e = .returned (.tuple #[u q, u r, .int .i64 0]) ∧ New w w' := by
  have h := divmod_any 1 m (by decide) hm h0 w
  rw [hq, hr, u_one] at h
  exact h
end Go.Proofs.YtcfefmbbbfdppaaGreatDoor
