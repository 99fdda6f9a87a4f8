/- What the functions of wide and field make of numbers, as contracts over data. Conditions: the numbers are below 2 to the 256, those of a ring below its modulus. -/
import Derived.Test.YtpdhbddkcnffbaaDoorGb
import Derived.Test.YtpdhbddkcnffbaaDoorDNum
namespace Go.Proofs.YtpdhbddkcnffbaaDoor
open Go.RowKit
set_option linter.unusedVariables false
set_option linter.unusedVariables false
set_option maxRecDepth 100000
set_option linter.unusedSimpArgs false

set_option maxHeartbeats 1000000 in
/-- add: the sum, less the modulus if that is not greater -/
theorem fadd_walk (a b m s t r : Nat) (o o' : Bool) (c : Int) (ha : a < M256) (hb : b < M256) (hm : m < M256) (hs : s < M256)
    (e1 : (a + b) % M256 = s) (e2 : decide (M256 ≤ a + b) = o) (e3 : cmpI s m = c) (e4 : (s + M256 - m) % M256 = t) (e5 : decide (s < m) = o')
    (hr : (o = true ∧ r = t) ∨ (o = false ∧ 0 ≤ c ∧ r = t) ∨ (o = false ∧ c < 0 ∧ r = s)) (w : World) :
    Calls Tryd.prog 75 #[u a, u b, u m] w fun e w' => e = .returned (u r) ∧ New w w' := by
  have e1 := hide e1; have e2 := hide e2; have e3 := hide e3; have e4 := hide e4; have e5 := hide e5; have ha := hide ha; have hb := hide hb; have hm := hide hm; have hs := hide hs
  rcases hr with ⟨rfl, rfl⟩ | ⟨rfl, hc, rfl⟩ | ⟨rfl, hc, rfl⟩
  · go_enter Tryd.func75, Tryd.ntmps75
    go_wp2_with fail
    generalize hW : World.alloc _ _ = W
    obtain ⟨N, B3, B4, B5, B6⟩ := boxes4 hW
    clear hW
    generalize q6 : w.heap.size + 1 + 1 + 1 = g6 at *
    generalize q5 : w.heap.size + 1 + 1 = g5 at *
    generalize q4 : w.heap.size + 1 = g4 at *
    have hL : Hid (w.heap.size < g4 ∧ g4 < g5 ∧ g5 < g6) := hide (by omega)
    clear q4 q5 q6
    try clear c3
    try clear l3
    try clear f3
    have c3 := B3.cell; have l3 := B3.lt
    try clear c4
    try clear l4
    try clear f4
    have c4 := B4.cell; have l4 := B4.lt
    try clear c5
    try clear l5
    try clear f5
    have c5 := B5.cell; have l5 := B5.lt
    try clear c6
    try clear l6
    try clear f6
    have c6 := B6.cell; have l6 := B6.lt
    refine (add_is a b s true (unhide ha) (unhide hb) (unhide e1) (unhide e2) _).mono ?_
    rintro e w1 ⟨rfl, hb⟩
    have U : New W w1 := new_trans (by (repeat' (first | with_reducible exact new_refl _ | with_reducible assumption | with_reducible refine new_drewN ?_ _ | with_reducible refine new_drew ?_ | with_reducible refine new_alloc ?_ _ | with_reducible refine new_set ?_ ?_ _ | with_reducible refine new_freeze ?_ ?_ _ | with_reducible refine new_trans ?_ (by assumption) | (simp; done) | (simp; omega)))) hb
    have N : New w w1 := new_trans (by (repeat' (first | with_reducible exact new_refl _ | with_reducible assumption | with_reducible refine new_drewN ?_ _ | with_reducible refine new_drew ?_ | with_reducible refine new_alloc ?_ _ | with_reducible refine new_set ?_ ?_ _ | with_reducible refine new_freeze ?_ ?_ _ | with_reducible refine new_trans ?_ (by assumption) | (simp; done) | (simp; omega)))) hb
    have B3 := B3.up U
    have B4 := B4.up U
    have B5 := B5.up U
    have B6 := B6.up U
    try clear c3
    try clear l3
    try clear f3
    have c3 := B3.cell; have l3 := B3.lt
    try clear c4
    try clear l4
    try clear f4
    have c4 := B4.cell; have l4 := B4.lt
    try clear c5
    try clear l5
    try clear f5
    have c5 := B5.cell; have l5 := B5.lt
    try clear c6
    try clear l6
    try clear f6
    have c6 := B6.cell; have l6 := B6.lt
    clear hb U
    go_wp2_with fail
    have m7 := hide (Nat.le_trans N.size (Nat.le_add_right _ 0) : w.heap.size ≤ w1.heap.size)
    have n6_7 := Nat.ne_of_lt (Nat.lt_of_lt_of_le B6.lt (Nat.le_add_right _ 0) : _ < w1.heap.size)
    refine (sub_is s m r o' (unhide hs) (unhide hm) (unhide e4) (unhide e5) _).mono ?_
    rintro e w2 ⟨rfl, hb⟩
    have U : New w1 w2 := new_trans (by (repeat' (first | with_reducible exact new_refl _ | with_reducible assumption | with_reducible refine new_drewN ?_ _ | with_reducible refine new_drew ?_ | with_reducible refine new_alloc ?_ _ | with_reducible refine new_set ?_ ?_ _ | with_reducible refine new_freeze ?_ ?_ _ | with_reducible refine new_trans ?_ (by assumption) | (simp; done) | (simp; omega)))) hb
    have N : New w w2 := new_trans (by (repeat' (first | with_reducible exact new_refl _ | with_reducible assumption | with_reducible refine new_drewN ?_ _ | with_reducible refine new_drew ?_ | with_reducible refine new_alloc ?_ _ | with_reducible refine new_set ?_ ?_ _ | with_reducible refine new_freeze ?_ ?_ _ | with_reducible refine new_trans ?_ (by assumption) | (simp; done) | (simp; omega)))) hb
    have B3 := B3.up U
    have B4 := B4.up U
    have B5 := B5.up U
    have B6 := B6.up U
    have B7 := (Blk.new_ w1 24 (uc s)).up hb
    try clear c3
    try clear l3
    try clear f3
    have c3 := B3.cell; have l3 := B3.lt
    try clear c4
    try clear l4
    try clear f4
    have c4 := B4.cell; have l4 := B4.lt
    try clear c5
    try clear l5
    try clear f5
    have c5 := B5.cell; have l5 := B5.lt
    try clear c6
    try clear l6
    try clear f6
    have c6 := B6.cell; have l6 := B6.lt
    try clear c7
    try clear l7
    try clear f7
    have c7 := B7.cell; have l7 := B7.lt
    clear hb U
    have f6 := B6.free
    have f7 := B7.free
    go_wp2
    have c := ((B6.far4 (g' := w1.heap.size) n6_7 (.int .u64 (lim (r) 0)) (.int .u64 (lim (r) 1)) (.int .u64 (lim (r) 2)) (.int .u64 (lim (r) 3))).set4 (.int .u64 (lim (r) 0)) (.int .u64 (lim (r) 1)) (.int .u64 (lim (r) 2)) (.int .u64 (lim (r) 3))).cell
    exact bodyPost_ret (v := u r) (by simp [results, Tryd.results75, go_sem, c]) rfl ⟨rfl, (new_set4 (new_set4 N (g := w1.heap.size) (unhide m7) (.int .u64 (lim (r) 0)) (.int .u64 (lim (r) 1)) (.int .u64 (lim (r) 2)) (.int .u64 (lim (r) 3))) (g := g6) (by have := unhide hL; omega) (.int .u64 (lim (r) 0)) (.int .u64 (lim (r) 1)) (.int .u64 (lim (r) 2)) (.int .u64 (lim (r) 3)))⟩
  · go_enter Tryd.func75, Tryd.ntmps75
    go_wp2_with fail
    generalize hW : World.alloc _ _ = W
    obtain ⟨N, B3, B4, B5, B6⟩ := boxes4 hW
    clear hW
    generalize q6 : w.heap.size + 1 + 1 + 1 = g6 at *
    generalize q5 : w.heap.size + 1 + 1 = g5 at *
    generalize q4 : w.heap.size + 1 = g4 at *
    have hL : Hid (w.heap.size < g4 ∧ g4 < g5 ∧ g5 < g6) := hide (by omega)
    clear q4 q5 q6
    try clear c3
    try clear l3
    try clear f3
    have c3 := B3.cell; have l3 := B3.lt
    try clear c4
    try clear l4
    try clear f4
    have c4 := B4.cell; have l4 := B4.lt
    try clear c5
    try clear l5
    try clear f5
    have c5 := B5.cell; have l5 := B5.lt
    try clear c6
    try clear l6
    try clear f6
    have c6 := B6.cell; have l6 := B6.lt
    refine (add_is a b s false (unhide ha) (unhide hb) (unhide e1) (unhide e2) _).mono ?_
    rintro e w1 ⟨rfl, hb⟩
    have U : New W w1 := new_trans (by (repeat' (first | with_reducible exact new_refl _ | with_reducible assumption | with_reducible refine new_drewN ?_ _ | with_reducible refine new_drew ?_ | with_reducible refine new_alloc ?_ _ | with_reducible refine new_set ?_ ?_ _ | with_reducible refine new_freeze ?_ ?_ _ | with_reducible refine new_trans ?_ (by assumption) | (simp; done) | (simp; omega)))) hb
    have N : New w w1 := new_trans (by (repeat' (first | with_reducible exact new_refl _ | with_reducible assumption | with_reducible refine new_drewN ?_ _ | with_reducible refine new_drew ?_ | with_reducible refine new_alloc ?_ _ | with_reducible refine new_set ?_ ?_ _ | with_reducible refine new_freeze ?_ ?_ _ | with_reducible refine new_trans ?_ (by assumption) | (simp; done) | (simp; omega)))) hb
    have B3 := B3.up U
    have B4 := B4.up U
    have B5 := B5.up U
    have B6 := B6.up U
    try clear c3
    try clear l3
    try clear f3
    have c3 := B3.cell; have l3 := B3.lt
    try clear c4
    try clear l4
    try clear f4
    have c4 := B4.cell; have l4 := B4.lt
    try clear c5
    try clear l5
    try clear f5
    have c5 := B5.cell; have l5 := B5.lt
    try clear c6
    try clear l6
    try clear f6
    have c6 := B6.cell; have l6 := B6.lt
    clear hb U
    go_wp2_with fail
    have m7 := hide (Nat.le_trans N.size (Nat.le_add_right _ 0) : w.heap.size ≤ w1.heap.size)
    have n6_7 := Nat.ne_of_lt (Nat.lt_of_lt_of_le B6.lt (Nat.le_add_right _ 0) : _ < w1.heap.size)
    refine (cmp_is s m c (unhide hs) (unhide hm) (unhide e3) _).mono ?_
    rintro e w2 ⟨rfl, hb⟩
    have U : New w1 w2 := new_trans (by (repeat' (first | with_reducible exact new_refl _ | with_reducible assumption | with_reducible refine new_drewN ?_ _ | with_reducible refine new_drew ?_ | with_reducible refine new_alloc ?_ _ | with_reducible refine new_set ?_ ?_ _ | with_reducible refine new_freeze ?_ ?_ _ | with_reducible refine new_trans ?_ (by assumption) | (simp; done) | (simp; omega)))) hb
    have N : New w w2 := new_trans (by (repeat' (first | with_reducible exact new_refl _ | with_reducible assumption | with_reducible refine new_drewN ?_ _ | with_reducible refine new_drew ?_ | with_reducible refine new_alloc ?_ _ | with_reducible refine new_set ?_ ?_ _ | with_reducible refine new_freeze ?_ ?_ _ | with_reducible refine new_trans ?_ (by assumption) | (simp; done) | (simp; omega)))) hb
    have B3 := B3.up U
    have B4 := B4.up U
    have B5 := B5.up U
    have B6 := B6.up U
    have B7 := (Blk.new_ w1 24 (uc s)).up hb
    try clear c3
    try clear l3
    try clear f3
    have c3 := B3.cell; have l3 := B3.lt
    try clear c4
    try clear l4
    try clear f4
    have c4 := B4.cell; have l4 := B4.lt
    try clear c5
    try clear l5
    try clear f5
    have c5 := B5.cell; have l5 := B5.lt
    try clear c6
    try clear l6
    try clear f6
    have c6 := B6.cell; have l6 := B6.lt
    try clear c7
    try clear l7
    try clear f7
    have c7 := B7.cell; have l7 := B7.lt
    clear hb U
    go_wp2_with fail
    refine (sub_is s m r o' (unhide hs) (unhide hm) (unhide e4) (unhide e5) _).mono ?_
    rintro e w3 ⟨rfl, hb⟩
    have U : New w2 w3 := new_trans (by (repeat' (first | with_reducible exact new_refl _ | with_reducible assumption | with_reducible refine new_drewN ?_ _ | with_reducible refine new_drew ?_ | with_reducible refine new_alloc ?_ _ | with_reducible refine new_set ?_ ?_ _ | with_reducible refine new_freeze ?_ ?_ _ | with_reducible refine new_trans ?_ (by assumption) | (simp; done) | (simp; omega)))) hb
    have N : New w w3 := new_trans (by (repeat' (first | with_reducible exact new_refl _ | with_reducible assumption | with_reducible refine new_drewN ?_ _ | with_reducible refine new_drew ?_ | with_reducible refine new_alloc ?_ _ | with_reducible refine new_set ?_ ?_ _ | with_reducible refine new_freeze ?_ ?_ _ | with_reducible refine new_trans ?_ (by assumption) | (simp; done) | (simp; omega)))) hb
    have B3 := B3.up U
    have B4 := B4.up U
    have B5 := B5.up U
    have B6 := B6.up U
    have B7 := B7.up U
    try clear c3
    try clear l3
    try clear f3
    have c3 := B3.cell; have l3 := B3.lt
    try clear c4
    try clear l4
    try clear f4
    have c4 := B4.cell; have l4 := B4.lt
    try clear c5
    try clear l5
    try clear f5
    have c5 := B5.cell; have l5 := B5.lt
    try clear c6
    try clear l6
    try clear f6
    have c6 := B6.cell; have l6 := B6.lt
    try clear c7
    try clear l7
    try clear f7
    have c7 := B7.cell; have l7 := B7.lt
    clear hb U
    have f6 := B6.free
    have f7 := B7.free
    go_wp2
    have c := ((B6.far4 (g' := w1.heap.size) n6_7 (.int .u64 (lim (r) 0)) (.int .u64 (lim (r) 1)) (.int .u64 (lim (r) 2)) (.int .u64 (lim (r) 3))).set4 (.int .u64 (lim (r) 0)) (.int .u64 (lim (r) 1)) (.int .u64 (lim (r) 2)) (.int .u64 (lim (r) 3))).cell
    exact bodyPost_ret (v := u r) (by simp [results, Tryd.results75, go_sem, c]) rfl ⟨rfl, (new_set4 (new_set4 N (g := w1.heap.size) (unhide m7) (.int .u64 (lim (r) 0)) (.int .u64 (lim (r) 1)) (.int .u64 (lim (r) 2)) (.int .u64 (lim (r) 3))) (g := g6) (by have := unhide hL; omega) (.int .u64 (lim (r) 0)) (.int .u64 (lim (r) 1)) (.int .u64 (lim (r) 2)) (.int .u64 (lim (r) 3)))⟩
  · go_enter Tryd.func75, Tryd.ntmps75
    go_wp2_with fail
    generalize hW : World.alloc _ _ = W
    obtain ⟨N, B3, B4, B5, B6⟩ := boxes4 hW
    clear hW
    generalize q6 : w.heap.size + 1 + 1 + 1 = g6 at *
    generalize q5 : w.heap.size + 1 + 1 = g5 at *
    generalize q4 : w.heap.size + 1 = g4 at *
    have hL : Hid (w.heap.size < g4 ∧ g4 < g5 ∧ g5 < g6) := hide (by omega)
    clear q4 q5 q6
    try clear c3
    try clear l3
    try clear f3
    have c3 := B3.cell; have l3 := B3.lt
    try clear c4
    try clear l4
    try clear f4
    have c4 := B4.cell; have l4 := B4.lt
    try clear c5
    try clear l5
    try clear f5
    have c5 := B5.cell; have l5 := B5.lt
    try clear c6
    try clear l6
    try clear f6
    have c6 := B6.cell; have l6 := B6.lt
    refine (add_is a b r false (unhide ha) (unhide hb) (unhide e1) (unhide e2) _).mono ?_
    rintro e w1 ⟨rfl, hb⟩
    have U : New W w1 := new_trans (by (repeat' (first | with_reducible exact new_refl _ | with_reducible assumption | with_reducible refine new_drewN ?_ _ | with_reducible refine new_drew ?_ | with_reducible refine new_alloc ?_ _ | with_reducible refine new_set ?_ ?_ _ | with_reducible refine new_freeze ?_ ?_ _ | with_reducible refine new_trans ?_ (by assumption) | (simp; done) | (simp; omega)))) hb
    have N : New w w1 := new_trans (by (repeat' (first | with_reducible exact new_refl _ | with_reducible assumption | with_reducible refine new_drewN ?_ _ | with_reducible refine new_drew ?_ | with_reducible refine new_alloc ?_ _ | with_reducible refine new_set ?_ ?_ _ | with_reducible refine new_freeze ?_ ?_ _ | with_reducible refine new_trans ?_ (by assumption) | (simp; done) | (simp; omega)))) hb
    have B3 := B3.up U
    have B4 := B4.up U
    have B5 := B5.up U
    have B6 := B6.up U
    try clear c3
    try clear l3
    try clear f3
    have c3 := B3.cell; have l3 := B3.lt
    try clear c4
    try clear l4
    try clear f4
    have c4 := B4.cell; have l4 := B4.lt
    try clear c5
    try clear l5
    try clear f5
    have c5 := B5.cell; have l5 := B5.lt
    try clear c6
    try clear l6
    try clear f6
    have c6 := B6.cell; have l6 := B6.lt
    clear hb U
    go_wp2_with fail
    have m7 := hide (Nat.le_trans N.size (Nat.le_add_right _ 0) : w.heap.size ≤ w1.heap.size)
    have n6_7 := Nat.ne_of_lt (Nat.lt_of_lt_of_le B6.lt (Nat.le_add_right _ 0) : _ < w1.heap.size)
    refine (cmp_is r m c (unhide hs) (unhide hm) (unhide e3) _).mono ?_
    rintro e w2 ⟨rfl, hb⟩
    have U : New w1 w2 := new_trans (by (repeat' (first | with_reducible exact new_refl _ | with_reducible assumption | with_reducible refine new_drewN ?_ _ | with_reducible refine new_drew ?_ | with_reducible refine new_alloc ?_ _ | with_reducible refine new_set ?_ ?_ _ | with_reducible refine new_freeze ?_ ?_ _ | with_reducible refine new_trans ?_ (by assumption) | (simp; done) | (simp; omega)))) hb
    have N : New w w2 := new_trans (by (repeat' (first | with_reducible exact new_refl _ | with_reducible assumption | with_reducible refine new_drewN ?_ _ | with_reducible refine new_drew ?_ | with_reducible refine new_alloc ?_ _ | with_reducible refine new_set ?_ ?_ _ | with_reducible refine new_freeze ?_ ?_ _ | with_reducible refine new_trans ?_ (by assumption) | (simp; done) | (simp; omega)))) hb
    have B3 := B3.up U
    have B4 := B4.up U
    have B5 := B5.up U
    have B6 := B6.up U
    have B7 := (Blk.new_ w1 24 (uc r)).up hb
    try clear c3
    try clear l3
    try clear f3
    have c3 := B3.cell; have l3 := B3.lt
    try clear c4
    try clear l4
    try clear f4
    have c4 := B4.cell; have l4 := B4.lt
    try clear c5
    try clear l5
    try clear f5
    have c5 := B5.cell; have l5 := B5.lt
    try clear c6
    try clear l6
    try clear f6
    have c6 := B6.cell; have l6 := B6.lt
    try clear c7
    try clear l7
    try clear f7
    have c7 := B7.cell; have l7 := B7.lt
    clear hb U
    have f6 := B6.free
    have f7 := B7.free
    go_wp2
    have c := (B6.set4 (.int .u64 (lim (r) 0)) (.int .u64 (lim (r) 1)) (.int .u64 (lim (r) 2)) (.int .u64 (lim (r) 3))).cell
    exact bodyPost_ret (v := u r) (by simp [results, Tryd.results75, go_sem, c]) rfl ⟨rfl, (new_set4 N (g := g6) (by have := unhide hL; omega) (.int .u64 (lim (r) 0)) (.int .u64 (lim (r) 1)) (.int .u64 (lim (r) 2)) (.int .u64 (lim (r) 3)))⟩

theorem fadd_any (a b m : Nat) (hm : m < M256) (ha : a < m) (hb : b < m) (w : World) :
    Calls Tryd.prog 75 #[u a, u b, u m] w fun e w' => e = .returned (u ((a + b) % m)) ∧ New w w' := by
  refine fadd_walk a b m _ _ ((a + b) % m) _ _ _ (by omega) (by omega) hm (Nat.mod_lt _ (by decide)) rfl rfl rfl rfl rfl ?_ w
  have e : (a + b) % m = if a + b < m then a + b else a + b - m := by
    split
    · exact Nat.mod_eq_of_lt (by assumption)
    · rw [Nat.mod_eq_sub_mod (by omega)]; exact Nat.mod_eq_of_lt (by omega)
  rw [e]
  unfold cmpI M256 at *
  by_cases h1 : 115792089237316195423570985008687907853269984665640564039457584007913129639936 ≤ a + b
  · left
    refine ⟨by simp [h1], ?_⟩
    rw [if_neg (by omega)]; omega
  · have e2 : (a + b) % 115792089237316195423570985008687907853269984665640564039457584007913129639936 = a + b := Nat.mod_eq_of_lt (by omega)
    rw [e2]
    by_cases h2 : a + b < m
    · right; right
      refine ⟨by simp; omega, ?_, ?_⟩
      · rw [if_pos h2]; decide
      · rw [if_pos h2]
    · right; left
      refine ⟨by simp; omega, ?_, ?_⟩
      · rw [if_neg h2]; split <;> decide
      · rw [if_neg h2]; omega

/-- sub: the difference, with the modulus where it went under -/
theorem fsub_walk (a b m d t r : Nat) (o o' : Bool) (ha : a < M256) (hb : b < M256) (hm : m < M256) (hd : d < M256)
    (e1 : (a + M256 - b) % M256 = d) (e2 : decide (a < b) = o) (e4 : (d + m) % M256 = t) (e5 : decide (M256 ≤ d + m) = o')
    (hr : (o = true ∧ r = t) ∨ (o = false ∧ r = d)) (w : World) :
    Calls Tryd.prog 67 #[u a, u b, u m] w fun e w' => e = .returned (u r) ∧ New w w' := by
  have e1 := hide e1; have e2 := hide e2; have e4 := hide e4; have e5 := hide e5; have ha := hide ha; have hb := hide hb; have hm := hide hm; have hd := hide hd
  rcases hr with ⟨rfl, rfl⟩ | ⟨rfl, rfl⟩
  · go_enter Tryd.func67, Tryd.ntmps67
    go_wp2_with fail
    generalize hW : World.alloc _ _ = W
    obtain ⟨N, B3, B4, B5, B6⟩ := boxes4 hW
    clear hW
    generalize q6 : w.heap.size + 1 + 1 + 1 = g6 at *
    generalize q5 : w.heap.size + 1 + 1 = g5 at *
    generalize q4 : w.heap.size + 1 = g4 at *
    have hL : Hid (w.heap.size < g4 ∧ g4 < g5 ∧ g5 < g6) := hide (by omega)
    clear q4 q5 q6
    try clear c3
    try clear l3
    try clear f3
    have c3 := B3.cell; have l3 := B3.lt
    try clear c4
    try clear l4
    try clear f4
    have c4 := B4.cell; have l4 := B4.lt
    try clear c5
    try clear l5
    try clear f5
    have c5 := B5.cell; have l5 := B5.lt
    try clear c6
    try clear l6
    try clear f6
    have c6 := B6.cell; have l6 := B6.lt
    refine (sub_is a b d true (unhide ha) (unhide hb) (unhide e1) (unhide e2) _).mono ?_
    rintro e w1 ⟨rfl, hb⟩
    have U : New W w1 := new_trans (by (repeat' (first | with_reducible exact new_refl _ | with_reducible assumption | with_reducible refine new_drewN ?_ _ | with_reducible refine new_drew ?_ | with_reducible refine new_alloc ?_ _ | with_reducible refine new_set ?_ ?_ _ | with_reducible refine new_freeze ?_ ?_ _ | with_reducible refine new_trans ?_ (by assumption) | (simp; done) | (simp; omega)))) hb
    have N : New w w1 := new_trans (by (repeat' (first | with_reducible exact new_refl _ | with_reducible assumption | with_reducible refine new_drewN ?_ _ | with_reducible refine new_drew ?_ | with_reducible refine new_alloc ?_ _ | with_reducible refine new_set ?_ ?_ _ | with_reducible refine new_freeze ?_ ?_ _ | with_reducible refine new_trans ?_ (by assumption) | (simp; done) | (simp; omega)))) hb
    have B3 := B3.up U
    have B4 := B4.up U
    have B5 := B5.up U
    have B6 := B6.up U
    try clear c3
    try clear l3
    try clear f3
    have c3 := B3.cell; have l3 := B3.lt
    try clear c4
    try clear l4
    try clear f4
    have c4 := B4.cell; have l4 := B4.lt
    try clear c5
    try clear l5
    try clear f5
    have c5 := B5.cell; have l5 := B5.lt
    try clear c6
    try clear l6
    try clear f6
    have c6 := B6.cell; have l6 := B6.lt
    clear hb U
    go_wp2_with fail
    have m7 := hide (Nat.le_trans N.size (Nat.le_add_right _ 0) : w.heap.size ≤ w1.heap.size)
    have n6_7 := Nat.ne_of_lt (Nat.lt_of_lt_of_le B6.lt (Nat.le_add_right _ 0) : _ < w1.heap.size)
    refine (add_is d m r o' (unhide hd) (unhide hm) (unhide e4) (unhide e5) _).mono ?_
    rintro e w2 ⟨rfl, hb⟩
    have U : New w1 w2 := new_trans (by (repeat' (first | with_reducible exact new_refl _ | with_reducible assumption | with_reducible refine new_drewN ?_ _ | with_reducible refine new_drew ?_ | with_reducible refine new_alloc ?_ _ | with_reducible refine new_set ?_ ?_ _ | with_reducible refine new_freeze ?_ ?_ _ | with_reducible refine new_trans ?_ (by assumption) | (simp; done) | (simp; omega)))) hb
    have N : New w w2 := new_trans (by (repeat' (first | with_reducible exact new_refl _ | with_reducible assumption | with_reducible refine new_drewN ?_ _ | with_reducible refine new_drew ?_ | with_reducible refine new_alloc ?_ _ | with_reducible refine new_set ?_ ?_ _ | with_reducible refine new_freeze ?_ ?_ _ | with_reducible refine new_trans ?_ (by assumption) | (simp; done) | (simp; omega)))) hb
    have B3 := B3.up U
    have B4 := B4.up U
    have B5 := B5.up U
    have B6 := B6.up U
    have B7 := (Blk.new_ w1 24 (uc d)).up hb
    try clear c3
    try clear l3
    try clear f3
    have c3 := B3.cell; have l3 := B3.lt
    try clear c4
    try clear l4
    try clear f4
    have c4 := B4.cell; have l4 := B4.lt
    try clear c5
    try clear l5
    try clear f5
    have c5 := B5.cell; have l5 := B5.lt
    try clear c6
    try clear l6
    try clear f6
    have c6 := B6.cell; have l6 := B6.lt
    try clear c7
    try clear l7
    try clear f7
    have c7 := B7.cell; have l7 := B7.lt
    clear hb U
    have f6 := B6.free
    have f7 := B7.free
    go_wp2
    have c := ((B6.far4 (g' := w1.heap.size) n6_7 (.int .u64 (lim (r) 0)) (.int .u64 (lim (r) 1)) (.int .u64 (lim (r) 2)) (.int .u64 (lim (r) 3))).set4 (.int .u64 (lim (r) 0)) (.int .u64 (lim (r) 1)) (.int .u64 (lim (r) 2)) (.int .u64 (lim (r) 3))).cell
    exact bodyPost_ret (v := u r) (by simp [results, Tryd.results67, go_sem, c]) rfl ⟨rfl, (new_set4 (new_set4 N (g := w1.heap.size) (unhide m7) (.int .u64 (lim (r) 0)) (.int .u64 (lim (r) 1)) (.int .u64 (lim (r) 2)) (.int .u64 (lim (r) 3))) (g := g6) (by have := unhide hL; omega) (.int .u64 (lim (r) 0)) (.int .u64 (lim (r) 1)) (.int .u64 (lim (r) 2)) (.int .u64 (lim (r) 3)))⟩
  · go_enter Tryd.func67, Tryd.ntmps67
    go_wp2_with fail
    generalize hW : World.alloc _ _ = W
    obtain ⟨N, B3, B4, B5, B6⟩ := boxes4 hW
    clear hW
    generalize q6 : w.heap.size + 1 + 1 + 1 = g6 at *
    generalize q5 : w.heap.size + 1 + 1 = g5 at *
    generalize q4 : w.heap.size + 1 = g4 at *
    have hL : Hid (w.heap.size < g4 ∧ g4 < g5 ∧ g5 < g6) := hide (by omega)
    clear q4 q5 q6
    try clear c3
    try clear l3
    try clear f3
    have c3 := B3.cell; have l3 := B3.lt
    try clear c4
    try clear l4
    try clear f4
    have c4 := B4.cell; have l4 := B4.lt
    try clear c5
    try clear l5
    try clear f5
    have c5 := B5.cell; have l5 := B5.lt
    try clear c6
    try clear l6
    try clear f6
    have c6 := B6.cell; have l6 := B6.lt
    refine (sub_is a b r false (unhide ha) (unhide hb) (unhide e1) (unhide e2) _).mono ?_
    rintro e w1 ⟨rfl, hb⟩
    have U : New W w1 := new_trans (by (repeat' (first | with_reducible exact new_refl _ | with_reducible assumption | with_reducible refine new_drewN ?_ _ | with_reducible refine new_drew ?_ | with_reducible refine new_alloc ?_ _ | with_reducible refine new_set ?_ ?_ _ | with_reducible refine new_freeze ?_ ?_ _ | with_reducible refine new_trans ?_ (by assumption) | (simp; done) | (simp; omega)))) hb
    have N : New w w1 := new_trans (by (repeat' (first | with_reducible exact new_refl _ | with_reducible assumption | with_reducible refine new_drewN ?_ _ | with_reducible refine new_drew ?_ | with_reducible refine new_alloc ?_ _ | with_reducible refine new_set ?_ ?_ _ | with_reducible refine new_freeze ?_ ?_ _ | with_reducible refine new_trans ?_ (by assumption) | (simp; done) | (simp; omega)))) hb
    have B3 := B3.up U
    have B4 := B4.up U
    have B5 := B5.up U
    have B6 := B6.up U
    try clear c3
    try clear l3
    try clear f3
    have c3 := B3.cell; have l3 := B3.lt
    try clear c4
    try clear l4
    try clear f4
    have c4 := B4.cell; have l4 := B4.lt
    try clear c5
    try clear l5
    try clear f5
    have c5 := B5.cell; have l5 := B5.lt
    try clear c6
    try clear l6
    try clear f6
    have c6 := B6.cell; have l6 := B6.lt
    clear hb U
    have f6 := B6.free
    go_wp2
    have c := ((B6.set4 (.int .u64 (lim (r) 0)) (.int .u64 (lim (r) 1)) (.int .u64 (lim (r) 2)) (.int .u64 (lim (r) 3))).al (.cells (uc r) 24)).cell
    exact bodyPost_ret (v := u r) (by simp [results, Tryd.results67, go_sem, c]) rfl ⟨rfl, (new_alloc (new_set4 N (g := g6) (by have := unhide hL; omega) (.int .u64 (lim (r) 0)) (.int .u64 (lim (r) 1)) (.int .u64 (lim (r) 2)) (.int .u64 (lim (r) 3))) (.cells (uc r) 24))⟩

theorem fsub_any (a b m : Nat) (hm : m < M256) (ha : a < m) (hb : b < m) (w : World) :
    Calls Tryd.prog 67 #[u a, u b, u m] w fun e w' => e = .returned (u ((a + m - b) % m)) ∧ New w w' := by
  refine fsub_walk a b m _ _ ((a + m - b) % m) _ _ (by omega) (by omega) hm (Nat.mod_lt _ (by decide)) rfl rfl rfl rfl ?_ w
  have e : (a + m - b) % m = if a < b then a + m - b else a - b := by
    split
    · exact Nat.mod_eq_of_lt (by omega)
    · rw [Nat.mod_eq_sub_mod (by omega)]; rw [show a + m - b - m = a - b from by omega]; exact Nat.mod_eq_of_lt (by omega)
  rw [e]
  unfold M256 at *
  by_cases h : a < b
  · left; refine ⟨by simp [h], ?_⟩
    rw [if_pos h]; omega
  · right; refine ⟨by simp; omega, ?_⟩
    rw [if_neg h]; omega

end Go.Proofs.YtpdhbddkcnffbaaDoor

namespace Go.Proofs.YtpdhbddkcnffbaaDoor
open Go.RowKit
set_option linter.unusedVariables false
set_option linter.unusedVariables false
set_option maxRecDepth 100000
set_option linter.unusedSimpArgs false

theorem cmp_lt (a m : Nat) (hm : m < M256) (h : a < m) (w : World) :
    Calls Tryd.prog 23 #[u a, u m] w fun e w' => e = .returned (.int .i64 (-1)) ∧ New w w' :=
  cmp_is a m (-1) (by omega) hm (by unfold cmpI; rw [if_pos h]) w

@[reducible] def cc (a b : Nat) : Array Value := #[.int .u64 (lim a 0), .int .u64 (lim a 1), .int .u64 (lim a 2), .int .u64 (lim a 3), .int .u64 (lim b 0), .int .u64 (lim b 1), .int .u64 (lim b 2), .int .u64 (lim b 3)]

set_option maxHeartbeats 1000000 in
theorem fault2 (a b m g : Nat) (tt : TypeId) (hm : m < M256) (ha : a < m) (hb : b < m) (w : World) (B0 : Blk w g tt (cc a b)) :
    Calls Tryd.prog 66 #[u m, .slice (some ⟨g, 0, none⟩) 2 2] w fun e w' => e = .returned (.int .i64 0) ∧ New w w' := by
  have ez := zero_iff m hm
  rw [decide_eq_false (by omega)] at ez
  have ha := hide ha; have hb := hide hb; have hm := hide hm
  have l0 := B0.lt
  go_enter Tryd.func66, Tryd.ntmps66
  go_wp2_with fail
  refine wp_loop_rounds 3 ?_
  rw [rounds_succ]
  have B2 := Blk.new_ w 24 (uc m)
  have B0 := B0.al (.cells (uc m) 24)
  have N := new_alloc (new_refl w) (.cells (uc m) 24)
  generalize hW : World.alloc w _ = W at *
  clear hW
  clear l0
  have c0 := B0.cell; have c2 := B2.cell; have l0 := B0.lt; have l2 := B2.lt
  go_wp2_with fail
  refine (cmp_lt a m (unhide hm) (unhide ha) _).mono ?_
  rintro e w1 ⟨rfl, hb⟩
  have U : New W w1 := new_trans (by (repeat' (first | with_reducible exact new_refl _ | with_reducible assumption | with_reducible refine new_drewN ?_ _ | with_reducible refine new_drew ?_ | with_reducible refine new_alloc ?_ _ | with_reducible refine new_set ?_ ?_ _ | with_reducible refine new_freeze ?_ ?_ _ | with_reducible refine new_trans ?_ (by assumption) | (simp; done) | (simp; omega)))) hb
  have N : New w w1 := new_trans (by (repeat' (first | with_reducible exact new_refl _ | with_reducible assumption | with_reducible refine new_drewN ?_ _ | with_reducible refine new_drew ?_ | with_reducible refine new_alloc ?_ _ | with_reducible refine new_set ?_ ?_ _ | with_reducible refine new_freeze ?_ ?_ _ | with_reducible refine new_trans ?_ (by assumption) | (simp; done) | (simp; omega)))) hb
  have B0 := B0.up U
  have B2 := B2.up U
  try clear c0
  try clear l0
  try clear f0
  have c0 := B0.cell; have l0 := B0.lt
  try clear c2
  try clear l2
  try clear f2
  have c2 := B2.cell; have l2 := B2.lt
  clear hb U
  go_wp2_with fail
  rw [rounds_succ]
  go_wp2_with fail
  refine (cmp_lt b m (unhide hm) (unhide hb) _).mono ?_
  rintro e w2 ⟨rfl, hb⟩
  have U : New w1 w2 := new_trans (by (repeat' (first | with_reducible exact new_refl _ | with_reducible assumption | with_reducible refine new_drewN ?_ _ | with_reducible refine new_drew ?_ | with_reducible refine new_alloc ?_ _ | with_reducible refine new_set ?_ ?_ _ | with_reducible refine new_freeze ?_ ?_ _ | with_reducible refine new_trans ?_ (by assumption) | (simp; done) | (simp; omega)))) hb
  have N : New w w2 := new_trans (by (repeat' (first | with_reducible exact new_refl _ | with_reducible assumption | with_reducible refine new_drewN ?_ _ | with_reducible refine new_drew ?_ | with_reducible refine new_alloc ?_ _ | with_reducible refine new_set ?_ ?_ _ | with_reducible refine new_freeze ?_ ?_ _ | with_reducible refine new_trans ?_ (by assumption) | (simp; done) | (simp; omega)))) hb
  have B0 := B0.up U
  have B2 := B2.up U
  try clear c0
  try clear l0
  try clear f0
  have c0 := B0.cell; have l0 := B0.lt
  try clear c2
  try clear l2
  try clear f2
  have c2 := B2.cell; have l2 := B2.lt
  clear hb U
  go_wp2_with fail
  rw [rounds_succ]
  go_wp2
  go_ret
  exact ⟨rfl, by (repeat' (first | with_reducible exact new_refl _ | with_reducible assumption | with_reducible refine new_drewN ?_ _ | with_reducible refine new_drew ?_ | with_reducible refine new_alloc ?_ _ | with_reducible refine new_set ?_ ?_ _ | with_reducible refine new_freeze ?_ ?_ _ | with_reducible refine new_trans ?_ (by assumption) | (simp; done) | (simp; omega)))⟩

@[reducible] def c1 (a : Nat) : Array Value := #[.int .u64 (lim a 0), .int .u64 (lim a 1), .int .u64 (lim a 2), .int .u64 (lim a 3)]
set_option maxHeartbeats 1000000 in
theorem fault1 (a m g : Nat) (tt : TypeId) (hm : m < M256) (ha : a < m) (w : World) (B0 : Blk w g tt (uc a)) :
    Calls Tryd.prog 66 #[u m, .slice (some ⟨g, 0, none⟩) 1 1] w fun e w' => e = .returned (.int .i64 0) ∧ New w w' := by
  have ez := zero_iff m hm
  rw [decide_eq_false (by omega)] at ez
  have ha := hide ha; have hm := hide hm
  go_enter Tryd.func66, Tryd.ntmps66
  go_wp2_with fail
  refine wp_loop_rounds 2 ?_
  rw [rounds_succ]
  have B2 := Blk.new_ w 24 (uc m)
  have B0 := B0.al (.cells (uc m) 24)
  have N := new_alloc (new_refl w) (.cells (uc m) 24)
  generalize hW : World.alloc w _ = W at *
  clear hW
  have c0 := B0.cell; have c2 := B2.cell; have l0 := B0.lt; have l2 := B2.lt
  go_wp2_with fail
  refine (cmp_lt a m (unhide hm) (unhide ha) _).mono ?_
  rintro e w1 ⟨rfl, hb⟩
  have U : New W w1 := new_trans (by (repeat' (first | with_reducible exact new_refl _ | with_reducible assumption | with_reducible refine new_drewN ?_ _ | with_reducible refine new_drew ?_ | with_reducible refine new_alloc ?_ _ | with_reducible refine new_set ?_ ?_ _ | with_reducible refine new_freeze ?_ ?_ _ | with_reducible refine new_trans ?_ (by assumption) | (simp; done) | (simp; omega)))) hb
  have N : New w w1 := new_trans (by (repeat' (first | with_reducible exact new_refl _ | with_reducible assumption | with_reducible refine new_drewN ?_ _ | with_reducible refine new_drew ?_ | with_reducible refine new_alloc ?_ _ | with_reducible refine new_set ?_ ?_ _ | with_reducible refine new_freeze ?_ ?_ _ | with_reducible refine new_trans ?_ (by assumption) | (simp; done) | (simp; omega)))) hb
  have B0 := B0.up U
  have B2 := B2.up U
  try clear c0
  try clear l0
  try clear f0
  have c0 := B0.cell; have l0 := B0.lt
  try clear c2
  try clear l2
  try clear f2
  have c2 := B2.cell; have l2 := B2.lt
  clear hb U
  go_wp2_with fail
  rw [rounds_succ]
  go_wp2
  go_ret
  exact ⟨rfl, by (repeat' (first | with_reducible exact new_refl _ | with_reducible assumption | with_reducible refine new_drewN ?_ _ | with_reducible refine new_drew ?_ | with_reducible refine new_alloc ?_ _ | with_reducible refine new_set ?_ ?_ _ | with_reducible refine new_freeze ?_ ?_ _ | with_reducible refine new_trans ?_ (by assumption) | (simp; done) | (simp; omega)))⟩

/-- the call of the function value that is told of each bit -/
theorem Keep.trans {T : List Nat} {a b c : World} (h : Keep T a b) (k : Keep T b c) : Keep T a c :=
  ⟨k.os.trans h.os, k.tape.trans h.tape, k.output.trans h.output, Nat.le_trans h.size k.size, fun i hi hT => (k.block i (Nat.lt_of_lt_of_le hi h.size) hT).trans (h.block i hi hT)⟩
theorem Keep.ofNew {T : List Nat} {a b : World} (k : New a b) : Keep T a b := (Keep.refl T a).new k
theorem Blk.keep {T : List Nat} {w w' : World} {g : Nat} {t : TypeId} {cs : Array Value} (h : Blk w g t cs) (hk : Keep T w w') (hg : g ∉ T) : Blk w' g t cs := (hk.block g h.lt hg).trans h

theorem limb_zero (a q : Nat) (h : a / 2 ^ (64 * (q + 1)) = 0) (hz : lim a q = 0) : a / 2 ^ (64 * q) = 0 := by
  unfold lim at hz
  rw [show (18446744073709551616 : Nat) ^ q = 2 ^ (64 * q) from by rw [Nat.pow_mul]] at hz
  have e : a / 2 ^ (64 * (q + 1)) = a / 2 ^ (64 * q) / 18446744073709551616 := by
    rw [Nat.div_div_eq_div_mul, show 64 * (q + 1) = 64 * q + 64 from by omega, Nat.pow_add]
  rw [e] at h
  generalize a / 2 ^ (64 * q) = y at *
  omega
theorem next_bit (a n : Nat) : a / 2 ^ n = 2 * (a / 2 ^ (n + 1)) + a / 2 ^ n % 2 := by
  rw [Nat.pow_succ, ← Nat.div_div_eq_div_mul]
  generalize a / 2 ^ n = y
  omega
theorem uc_at (a q : Nat) (hq : q < 4) : (uc a)[q]? = some (.int .u64 (lim a q)) := by
  have : q = 0 ∨ q = 1 ∨ q = 2 ∨ q = 3 := by omega
  rcases this with rfl | rfl | rfl | rfl <;> rfl

set_option maxHeartbeats 4000000 in
theorem bits_mul (a : Nat) (ha : a < M256) (v1 v2 v3 : Value) (T : List Nat) (I : Nat → World → Prop) (hnew : ∀ p w w', I p w → New w w' → I p w')
    (hc0 : ∀ (p : Nat) (w : World), I p w → 2 * p ≤ a → Calls Tryd.prog 78 #[.bool false, v1, v2, v3] w fun e w' => e = .returned (.tuple #[]) ∧ I (2 * p) w' ∧ Keep T w w')
    (hc1 : ∀ (p : Nat) (w : World), I p w → 2 * p + 1 ≤ a → Calls Tryd.prog 78 #[.bool true, v1, v2, v3] w fun e w' => e = .returned (.tuple #[]) ∧ I (2 * p + 1) w' ∧ Keep T w w')
    (w : World) (h0 : I 0 w) (hT : ∀ x ∈ T, x < w.heap.size) :
    Calls Tryd.prog 76 #[u a, .func (.func 78) #[] #[v1, v2, v3]] w fun e w' => e = .returned (.tuple #[]) ∧ I a w' ∧ Keep T w w' := by
  have hnew := hide hnew; have hc0 := hide hc0; have hc1 := hide hc1; have hT := hide hT; have h0 := hide h0
  have hz := hide (Nat.div_eq_of_lt (show a < 2 ^ (64 * 4) from ha))
  have ha := hide ha
  go_enter Tryd.func76, Tryd.ntmps76
  go_wp2_with fail
  have B2 := Blk.new_ w 24 (uc a)
  have N := new_alloc (new_refl w) (.cells (uc a) 24)
  have hg : Hid (w.heap.size ∉ T) := hide (fun h => Nat.lt_irrefl _ (unhide hT _ h))
  have h0 := hide (unhide hnew 0 _ _ (unhide h0) N)
  have hN := hide N
  generalize hW : World.alloc w _ = W at *
  clear hW
  generalize w.heap.size = g2 at *
  go_loopw [4, 5] (fun b i wr => ∃ j : Nat, j ≤ 4 ∧ i = .int .i64 ((j : Int) - 1) ∧ b = .bool (decide (a / 2 ^ (64 * j) ≠ 0)) ∧ Blk wr g2 24 (uc a) ∧ Hid (I (a / 2 ^ (64 * j)) wr) ∧ Keep T W wr) (fun _ i _ => (intOf i + 1).toNat)
  case atStart => exact ⟨4, by omega, rfl, by first | (rw [unhide hz]; done) | (rw [unhide hz]; rfl), B2, by rw [unhide hz]; exact h0, Keep.refl _ _⟩
  case round =>
    obtain ⟨j, hj, rfl, rfl, B2, hI, hK⟩ := hrel
    cases j with
    | zero =>
      go_wp2
      have e : a / 2 ^ (64 * 0) = a := by rw [Nat.mul_zero, Nat.pow_zero, Nat.div_one]
      rw [e] at hI
      go_end0
      exact ⟨rfl, unhide hI, (Keep.ofNew (unhide hN)).trans hK⟩
    | succ q =>
      rw [show ((q + 1 : Nat) : Int) - 1 = q from by omega]
      have hq4 : (q : Int) < 4 := by omega
      have hq0 : (0 : Int) ≤ q := by omega
      have cq : wr.cell? ⟨g2, q, none⟩ = some (.int .u64 (lim a q)) := by rw [B2.cell]; exact uc_at a q (by omega)
      by_cases hs : lim a q = 0 ∧ a / 2 ^ (64 * (q + 1)) = 0
      · obtain ⟨hl, hp⟩ := hs
        rw [show decide (a / 2 ^ (64 * (q + 1)) ≠ 0) = false by simp [hp]]
        have hn := hide (limb_zero a q hp hl)
        rw [hp] at hI
        rw [hl] at cq
        clear hl hp
        go_wp2
        exact ⟨⟨q, by omega, rfl, by first | (rw [unhide hn]; done) | (rw [unhide hn]; rfl), B2, by rw [unhide hn]; exact hI, hK⟩, by simp [intOf] <;> omega⟩
      · have hcase : (lim a q ≠ 0) ∨ (lim a q = 0 ∧ a / 2 ^ (64 * (q + 1)) ≠ 0) := by
          by_cases hl : lim a q = 0
          · exact .inr ⟨hl, fun h => hs ⟨hl, h⟩⟩
          · exact .inl hl
        clear hs
        have eq64 : 64 * (q + 1) = 64 * q + 64 := by omega
        rw [eq64] at hI hcase ⊢
        clear eq64
        obtain ⟨beg, ebeg⟩ : ∃ beg, decide (a / 2 ^ (64 * q + 64) ≠ 0) = beg := ⟨_, rfl⟩
        rw [ebeg]
        have hstart : ((beg = true ∧ lim a q = 0) ∨ (lim a q == 0) = false) := by
          rcases hcase with h | ⟨h', h⟩
          · exact .inr (by simpa using h)
          · exact .inl ⟨by rw [← ebeg]; simpa using h, h'⟩
        have ebeg := hide ebeg
        clear hcase
        rcases hstart with ⟨rfl, hl⟩ | hl'
        rw [hl] at cq
        clear hl
        all_goals go_wp2_with fail
        all_goals try clear hl'
        all_goals
          obtain ⟨wo, rfl⟩ : ∃ wo : World, wo = wr := ⟨_, rfl⟩
          clear cq
          go_loopw [4, 6] (fun b k wr => ∃ t : Nat, t ≤ 64 ∧ k = .int .i64 ((t : Int) - 1) ∧ b = .bool (decide (a / 2 ^ (64 * q + t) ≠ 0)) ∧ Blk wr g2 24 (uc a) ∧ Hid (I (a / 2 ^ (64 * q + t)) wr) ∧ Keep T W wr) (fun _ k _ => (intOf k + 1).toNat)
          case atStart => exact ⟨64, by omega, rfl, by rw [unhide ebeg], B2, hI, hK⟩
          case round =>
            clear B2 hI hK ebeg
            obtain ⟨t, ht, rfl, rfl, B2, hI, hK⟩ := hrel
            cases t with
            | zero =>
              go_wp2
              exact ⟨⟨q, by omega, rfl, rfl, B2, hI, hK⟩, by simp [intOf] <;> omega⟩
            | succ s =>
              rw [show ((s + 1 : Nat) : Int) - 1 = s from by omega]
              have hs64 : (s : Int) < 64 := by omega
              have hs0 : (0 : Int) ≤ s := by omega
              have cq : wr.cell? ⟨g2, q, none⟩ = some (.int .u64 (lim a q)) := by rw [B2.cell]; exact uc_at a q (by omega)
              have nb := next_bit a (64 * q + s)
              have ab := and_one (lim a q) s (lim_nonneg a q) (lim_lt a q)
              rw [lim_bit a q s (by omega)] at ab
              have le := Nat.div_le_self a (2 ^ (64 * q + s))
              have hb2 := Nat.mod_lt (a / 2 ^ (64 * q + s)) (by decide : 0 < 2)
              rw [← Nat.add_assoc] at hI ⊢
              generalize a / 2 ^ (64 * q + s + 1) = p at *
              generalize a / 2 ^ (64 * q + s) % 2 = bit at *
              have hbit : bit = 0 ∨ bit = 1 := by omega
              by_cases hp : p = 0
              · subst hp
                rcases hbit with rfl | rfl
                · have nb := hide nb; clear le hb2
                  go_wp2
                  exact ⟨⟨s, by omega, rfl, by first | (rw [unhide nb]; done) | (rw [unhide nb]; rfl), B2, by rw [unhide nb]; exact hI, hK⟩, by simp [intOf] <;> omega⟩
                · rw [nb] at le; have nb := hide nb; clear hb2
                  go_wp2_with fail
                  refine (unhide hc1 0 _ (unhide hI) le).mono ?_
                  rintro e w2 ⟨rfl, hI2, hk2⟩
                  have hI2 := hide hI2
                  go_wp2
                  exact ⟨⟨s, by omega, rfl, by first | (rw [unhide nb]; done) | (rw [unhide nb]; rfl), B2.keep hk2 (unhide hg), by first | (rw [unhide nb]; done) | (rw [unhide nb]; exact hI2), hK.trans hk2⟩, by simp [intOf] <;> omega⟩
              · rw [show decide (p ≠ 0) = true by simp [hp]]
                have hn0 : 2 * p + bit ≠ 0 := by omega
                rw [nb] at le
                have nb := hide nb; have hn0 := hide hn0; clear hb2 hp
                rcases hbit with rfl | rfl
                · go_wp2_with fail
                  refine (unhide hc0 p _ (unhide hI) le).mono ?_
                  rintro e w2 ⟨rfl, hI2, hk2⟩
                  have hI2 := hide hI2
                  go_wp2
                  exact ⟨⟨s, by omega, rfl, by rw [unhide nb]; exact (congrArg Value.bool (decide_eq_true (unhide hn0))).symm, B2.keep hk2 (unhide hg), by first | (rw [unhide nb]; done) | (rw [unhide nb]; exact hI2), hK.trans hk2⟩, by simp [intOf] <;> omega⟩
                · go_wp2_with fail
                  refine (unhide hc1 p _ (unhide hI) le).mono ?_
                  rintro e w2 ⟨rfl, hI2, hk2⟩
                  have hI2 := hide hI2
                  go_wp2
                  exact ⟨⟨s, by omega, rfl, by rw [unhide nb]; exact (congrArg Value.bool (decide_eq_true (unhide hn0))).symm, B2.keep hk2 (unhide hg), by first | (rw [unhide nb]; done) | (rw [unhide nb]; exact hI2), hK.trans hk2⟩, by simp [intOf] <;> omega⟩

set_option maxHeartbeats 4000000 in
theorem bits_Pow (a : Nat) (ha : a < M256) (v1 v2 v3 : Value) (T : List Nat) (I : Nat → World → Prop) (hnew : ∀ p w w', I p w → New w w' → I p w')
    (hc0 : ∀ (p : Nat) (w : World), I p w → 2 * p ≤ a → Calls Tryd.prog 77 #[.bool false, v1, v2, v3] w fun e w' => e = .returned (.tuple #[]) ∧ I (2 * p) w' ∧ Keep T w w')
    (hc1 : ∀ (p : Nat) (w : World), I p w → 2 * p + 1 ≤ a → Calls Tryd.prog 77 #[.bool true, v1, v2, v3] w fun e w' => e = .returned (.tuple #[]) ∧ I (2 * p + 1) w' ∧ Keep T w w')
    (w : World) (h0 : I 0 w) (hT : ∀ x ∈ T, x < w.heap.size) :
    Calls Tryd.prog 76 #[u a, .func (.func 77) #[] #[v1, v2, v3]] w fun e w' => e = .returned (.tuple #[]) ∧ I a w' ∧ Keep T w w' := by
  have hnew := hide hnew; have hc0 := hide hc0; have hc1 := hide hc1; have hT := hide hT; have h0 := hide h0
  have hz := hide (Nat.div_eq_of_lt (show a < 2 ^ (64 * 4) from ha))
  have ha := hide ha
  go_enter Tryd.func76, Tryd.ntmps76
  go_wp2_with fail
  have B2 := Blk.new_ w 24 (uc a)
  have N := new_alloc (new_refl w) (.cells (uc a) 24)
  have hg : Hid (w.heap.size ∉ T) := hide (fun h => Nat.lt_irrefl _ (unhide hT _ h))
  have h0 := hide (unhide hnew 0 _ _ (unhide h0) N)
  have hN := hide N
  generalize hW : World.alloc w _ = W at *
  clear hW
  generalize w.heap.size = g2 at *
  go_loopw [4, 5] (fun b i wr => ∃ j : Nat, j ≤ 4 ∧ i = .int .i64 ((j : Int) - 1) ∧ b = .bool (decide (a / 2 ^ (64 * j) ≠ 0)) ∧ Blk wr g2 24 (uc a) ∧ Hid (I (a / 2 ^ (64 * j)) wr) ∧ Keep T W wr) (fun _ i _ => (intOf i + 1).toNat)
  case atStart => exact ⟨4, by omega, rfl, by first | (rw [unhide hz]; done) | (rw [unhide hz]; rfl), B2, by rw [unhide hz]; exact h0, Keep.refl _ _⟩
  case round =>
    obtain ⟨j, hj, rfl, rfl, B2, hI, hK⟩ := hrel
    cases j with
    | zero =>
      go_wp2
      have e : a / 2 ^ (64 * 0) = a := by rw [Nat.mul_zero, Nat.pow_zero, Nat.div_one]
      rw [e] at hI
      go_end0
      exact ⟨rfl, unhide hI, (Keep.ofNew (unhide hN)).trans hK⟩
    | succ q =>
      rw [show ((q + 1 : Nat) : Int) - 1 = q from by omega]
      have hq4 : (q : Int) < 4 := by omega
      have hq0 : (0 : Int) ≤ q := by omega
      have cq : wr.cell? ⟨g2, q, none⟩ = some (.int .u64 (lim a q)) := by rw [B2.cell]; exact uc_at a q (by omega)
      by_cases hs : lim a q = 0 ∧ a / 2 ^ (64 * (q + 1)) = 0
      · obtain ⟨hl, hp⟩ := hs
        rw [show decide (a / 2 ^ (64 * (q + 1)) ≠ 0) = false by simp [hp]]
        have hn := hide (limb_zero a q hp hl)
        rw [hp] at hI
        rw [hl] at cq
        clear hl hp
        go_wp2
        exact ⟨⟨q, by omega, rfl, by first | (rw [unhide hn]; done) | (rw [unhide hn]; rfl), B2, by rw [unhide hn]; exact hI, hK⟩, by simp [intOf] <;> omega⟩
      · have hcase : (lim a q ≠ 0) ∨ (lim a q = 0 ∧ a / 2 ^ (64 * (q + 1)) ≠ 0) := by
          by_cases hl : lim a q = 0
          · exact .inr ⟨hl, fun h => hs ⟨hl, h⟩⟩
          · exact .inl hl
        clear hs
        have eq64 : 64 * (q + 1) = 64 * q + 64 := by omega
        rw [eq64] at hI hcase ⊢
        clear eq64
        obtain ⟨beg, ebeg⟩ : ∃ beg, decide (a / 2 ^ (64 * q + 64) ≠ 0) = beg := ⟨_, rfl⟩
        rw [ebeg]
        have hstart : ((beg = true ∧ lim a q = 0) ∨ (lim a q == 0) = false) := by
          rcases hcase with h | ⟨h', h⟩
          · exact .inr (by simpa using h)
          · exact .inl ⟨by rw [← ebeg]; simpa using h, h'⟩
        have ebeg := hide ebeg
        clear hcase
        rcases hstart with ⟨rfl, hl⟩ | hl'
        rw [hl] at cq
        clear hl
        all_goals go_wp2_with fail
        all_goals try clear hl'
        all_goals
          obtain ⟨wo, rfl⟩ : ∃ wo : World, wo = wr := ⟨_, rfl⟩
          clear cq
          go_loopw [4, 6] (fun b k wr => ∃ t : Nat, t ≤ 64 ∧ k = .int .i64 ((t : Int) - 1) ∧ b = .bool (decide (a / 2 ^ (64 * q + t) ≠ 0)) ∧ Blk wr g2 24 (uc a) ∧ Hid (I (a / 2 ^ (64 * q + t)) wr) ∧ Keep T W wr) (fun _ k _ => (intOf k + 1).toNat)
          case atStart => exact ⟨64, by omega, rfl, by rw [unhide ebeg], B2, hI, hK⟩
          case round =>
            clear B2 hI hK ebeg
            obtain ⟨t, ht, rfl, rfl, B2, hI, hK⟩ := hrel
            cases t with
            | zero =>
              go_wp2
              exact ⟨⟨q, by omega, rfl, rfl, B2, hI, hK⟩, by simp [intOf] <;> omega⟩
            | succ s =>
              rw [show ((s + 1 : Nat) : Int) - 1 = s from by omega]
              have hs64 : (s : Int) < 64 := by omega
              have hs0 : (0 : Int) ≤ s := by omega
              have cq : wr.cell? ⟨g2, q, none⟩ = some (.int .u64 (lim a q)) := by rw [B2.cell]; exact uc_at a q (by omega)
              have nb := next_bit a (64 * q + s)
              have ab := and_one (lim a q) s (lim_nonneg a q) (lim_lt a q)
              rw [lim_bit a q s (by omega)] at ab
              have le := Nat.div_le_self a (2 ^ (64 * q + s))
              have hb2 := Nat.mod_lt (a / 2 ^ (64 * q + s)) (by decide : 0 < 2)
              rw [← Nat.add_assoc] at hI ⊢
              generalize a / 2 ^ (64 * q + s + 1) = p at *
              generalize a / 2 ^ (64 * q + s) % 2 = bit at *
              have hbit : bit = 0 ∨ bit = 1 := by omega
              by_cases hp : p = 0
              · subst hp
                rcases hbit with rfl | rfl
                · have nb := hide nb; clear le hb2
                  go_wp2
                  exact ⟨⟨s, by omega, rfl, by first | (rw [unhide nb]; done) | (rw [unhide nb]; rfl), B2, by rw [unhide nb]; exact hI, hK⟩, by simp [intOf] <;> omega⟩
                · rw [nb] at le; have nb := hide nb; clear hb2
                  go_wp2_with fail
                  refine (unhide hc1 0 _ (unhide hI) le).mono ?_
                  rintro e w2 ⟨rfl, hI2, hk2⟩
                  have hI2 := hide hI2
                  go_wp2
                  exact ⟨⟨s, by omega, rfl, by first | (rw [unhide nb]; done) | (rw [unhide nb]; rfl), B2.keep hk2 (unhide hg), by first | (rw [unhide nb]; done) | (rw [unhide nb]; exact hI2), hK.trans hk2⟩, by simp [intOf] <;> omega⟩
              · rw [show decide (p ≠ 0) = true by simp [hp]]
                have hn0 : 2 * p + bit ≠ 0 := by omega
                rw [nb] at le
                have nb := hide nb; have hn0 := hide hn0; clear hb2 hp
                rcases hbit with rfl | rfl
                · go_wp2_with fail
                  refine (unhide hc0 p _ (unhide hI) le).mono ?_
                  rintro e w2 ⟨rfl, hI2, hk2⟩
                  have hI2 := hide hI2
                  go_wp2
                  exact ⟨⟨s, by omega, rfl, by rw [unhide nb]; exact (congrArg Value.bool (decide_eq_true (unhide hn0))).symm, B2.keep hk2 (unhide hg), by first | (rw [unhide nb]; done) | (rw [unhide nb]; exact hI2), hK.trans hk2⟩, by simp [intOf] <;> omega⟩
                · go_wp2_with fail
                  refine (unhide hc1 p _ (unhide hI) le).mono ?_
                  rintro e w2 ⟨rfl, hI2, hk2⟩
                  have hI2 := hide hI2
                  go_wp2
                  exact ⟨⟨s, by omega, rfl, by rw [unhide nb]; exact (congrArg Value.bool (decide_eq_true (unhide hn0))).symm, B2.keep hk2 (unhide hg), by first | (rw [unhide nb]; done) | (rw [unhide nb]; exact hI2), hK.trans hk2⟩, by simp [intOf] <;> omega⟩

end Go.Proofs.YtpdhbddkcnffbaaDoor

namespace Go.Proofs.YtpdhbddkcnffbaaDoor.FM
theorem dvd_of_mod {x y m : Nat} (h : x % m = y % m) : (m : Int) ∣ (x : Int) - y := by
  have h' : (x : Int) % m = (y : Int) % m := by have := congrArg (Nat.cast : Nat → Int) h; simpa using this
  exact Int.dvd_of_emod_eq_zero (Int.emod_eq_emod_iff_emod_sub_eq_zero.1 h')
theorem mod_of_dvd {x y m : Nat} (h : (m : Int) ∣ (x : Int) - y) : x % m = y % m := by
  have h' : (x : Int) % m = (y : Int) % m := Int.emod_eq_emod_iff_emod_sub_eq_zero.2 (Int.emod_eq_zero_of_dvd h)
  have : ((x % m : Nat) : Int) = ((y % m : Nat) : Int) := by simpa using h'
  exact Int.ofNat.inj this

/-- x by the modulus -/
theorem inv_uniq {a i j m : Nat} (hi : i < m) (hj : j < m) (ei : a * i % m = 1 % m) (ej : a * j % m = 1 % m) : i = j := by
  obtain ⟨c, hc⟩ := dvd_of_mod ei
  obtain ⟨d, hd⟩ := dvd_of_mod ej
  have : (m : Int) ∣ (i : Int) - j := ⟨c * j - d * i, by
    have h1 : ((a * i : Nat) : Int) = a * i := by simp
    have h2 : ((a * j : Nat) : Int) = a * j := by simp
    rw [h1] at hc; rw [h2] at hd
    have e1 : (a : Int) * i = 1 + m * c := by have : ((1 : Nat) : Int) = 1 := rfl; rw [this] at hc; omega
    have e2 : (a : Int) * j = 1 + m * d := by have : ((1 : Nat) : Int) = 1 := rfl; rw [this] at hd; omega
    grind⟩
  have := mod_of_dvd this
  rw [Nat.mod_eq_of_lt hi, Nat.mod_eq_of_lt hj] at this
  exact this

theorem sub_dvd {u v m : Nat} (hv : v ≤ m) : (m : Int) ∣ (((u + m - v) % m : Nat) : Int) - (u - v) := by
  have h1 : (((u + m - v) % m : Nat) : Int) = (u + m - v : Int) % m := by
    rw [Int.natCast_emod]; congr 1; omega
  rw [h1]
  refine ⟨1 - (u + m - v : Int) / m, ?_⟩
  have := Int.mul_ediv_add_emod (u + m - v) m
  rw [Int.mul_sub, Int.mul_one]; omega

/-- one round of the long way to an inverse -/
theorem inv_step {a m r s u t : Nat} (hm : 0 < m) (hu : u * a % m = r % m) (ht : t * a % m = s % m) : (u + m - (r / s % m) * t % m) % m * a % m = (r % s) % m := by
  obtain ⟨c, hc⟩ := dvd_of_mod hu
  obtain ⟨d, hd⟩ := dvd_of_mod ht
  obtain ⟨e, he⟩ := sub_dvd (u := u) (v := (r / s % m) * t % m) (Nat.le_of_lt (Nat.mod_lt _ hm))
  obtain ⟨f, hf⟩ : (m : Int) ∣ (((r / s % m) * t % m : Nat) : Int) - ((r / s * t : Nat) : Int) := dvd_of_mod (by simp [Nat.mod_mul_mod])
  have hrs : (r : Int) = s * ((r / s : Nat) : Int) + ((r % s : Nat) : Int) := by
    have := Nat.div_add_mod r s
    have := congrArg (Nat.cast : Nat → Int) this
    simpa using this.symm
  apply mod_of_dvd
  generalize (u + m - (r / s % m) * t % m) % m = x at *
  generalize (r / s % m) * t % m = y at *
  generalize hq : r / s = q at *
  generalize r % s = l at *
  have e1 : ((u * a : Nat) : Int) = u * a := by simp
  have e2 : ((t * a : Nat) : Int) = t * a := by simp
  have e3 : ((q * t : Nat) : Int) = q * t := by simp
  have e4 : ((x * a : Nat) : Int) = x * a := by simp
  rw [e1] at hc; rw [e2] at hd; rw [e3] at hf; rw [e4]
  exact ⟨e * a - f * a + c - q * d, by
    have h1 : (x : Int) = u - y + m * e := by omega
    have h2 : (y : Int) = q * t + m * f := by omega
    have h3 : (u : Int) * a = r + m * c := by omega
    have h4 : (t : Int) * a = s + m * d := by omega
    rw [h1, h2]
    grind⟩

theorem pow_split (x e m : Nat) : x ^ (2 * e) % m = (x ^ e % m) * (x ^ e % m) % m := by
  rw [Nat.two_mul, Nat.pow_add, Nat.mul_mod]
theorem pow_one (x e m : Nat) : x ^ (2 * e + 1) % m = (((x ^ e % m) * (x ^ e % m) % m) * x) % m := by
  rw [Nat.pow_succ, Nat.mul_mod, pow_split]; simp [Nat.mul_mod]
end Go.Proofs.YtpdhbddkcnffbaaDoor.FM

namespace Go.Proofs.YtpdhbddkcnffbaaDoor
open Go.RowKit
set_option linter.unusedVariables false
set_option linter.unusedVariables false
set_option maxRecDepth 100000
set_option linter.unusedSimpArgs false

theorem keep_set4 {T : List Nat} {w0 w : World} (h : Keep T w0 w) {g : Nat} (hg : g ∈ T) (x0 x1 x2 x3 : Value) :
    Keep T w0 ((((w.setCell ⟨g, 0, none⟩ x0).setCell ⟨g, 1, none⟩ x1).setCell ⟨g, 2, none⟩ x2).setCell ⟨g, 3, none⟩ x3) := by
  have one : ∀ (w : World) (n : Nat) (x : Value), Keep T w0 w → Keep T w0 (w.setCell ⟨g, n, none⟩ x) := by
    intro w n x h
    refine ⟨h.os, h.tape, h.output, by simpa [World.setCell] using h.size, fun i hi hT => ?_⟩
    rw [Below.heap_setCell _ _ _ _ (fun he => hT (by rw [he]; exact hg))]
    exact h.block i hi hT
  exact one _ 3 _ (one _ 2 _ (one _ 1 _ (one _ 0 _ h)))

theorem fadd_to (a b m r : Nat) (hm : m < M256) (ha : a < m) (hb : b < m) (hr : (a + b) % m = r) (w : World) :
    Calls Tryd.prog 75 #[u a, u b, u m] w fun e w' => e = .returned (u r) ∧ New w w' := hr ▸ fadd_any a b m hm ha hb w

theorem dbl (p a m : Nat) : (p * a % m + p * a % m) % m = 2 * p * a % m := by
  rw [← Nat.add_mod, Nat.mul_assoc, Nat.two_mul]
theorem dbl1 (p a m : Nat) (ha : a < m) : (2 * p * a % m + a) % m = (2 * p + 1) * a % m := by
  rw [Nat.mod_add_mod, Nat.add_mul, Nat.one_mul]

set_option maxHeartbeats 1000000 in
theorem mulc0 (x a m y : Nat) (go gm ga : Nat) (hm : m < M256) (hx : x < m) (hy : (x + x) % m = y) (w : World) (B1 : Blk w go 24 (uc x)) (B2 : Blk w gm 24 (uc m)) (B3 : Blk w ga 24 (uc a)) :
    Calls Tryd.prog 78 #[.bool false, .pointer (some ⟨go, 0, none⟩), .pointer (some ⟨gm, 0, none⟩), .pointer (some ⟨ga, 0, none⟩)] w fun e w' => e = .returned (.tuple #[]) ∧ Blk w' go 24 (uc y) ∧ Keep [go] w w' := by
  have hm := hide hm; have hx := hide hx; have hy := hide hy
  have N := new_refl w
  have c1 := B1.cell; have c2 := B2.cell; have c3 := B3.cell
  go_enter Tryd.func78, Tryd.ntmps78
  go_wp2_with fail
  refine (fadd_to x x m y (unhide hm) (unhide hx) (unhide hx) (unhide hy) _).mono ?_
  rintro e w1 ⟨rfl, hb⟩
  have U : New w w1 := new_trans (by (repeat' (first | with_reducible exact new_refl _ | with_reducible assumption | with_reducible refine new_drewN ?_ _ | with_reducible refine new_drew ?_ | with_reducible refine new_alloc ?_ _ | with_reducible refine new_set ?_ ?_ _ | with_reducible refine new_freeze ?_ ?_ _ | with_reducible refine new_trans ?_ (by assumption) | (simp; done) | (simp; omega)))) hb
  have N : New w w1 := new_trans (by (repeat' (first | with_reducible exact new_refl _ | with_reducible assumption | with_reducible refine new_drewN ?_ _ | with_reducible refine new_drew ?_ | with_reducible refine new_alloc ?_ _ | with_reducible refine new_set ?_ ?_ _ | with_reducible refine new_freeze ?_ ?_ _ | with_reducible refine new_trans ?_ (by assumption) | (simp; done) | (simp; omega)))) hb
  have B1 := B1.up U
  have B2 := B2.up U
  have B3 := B3.up U
  try clear c1
  try clear l1
  try clear f1
  have c1 := B1.cell; have l1 := B1.lt
  try clear c2
  try clear l2
  try clear f2
  have c2 := B2.cell; have l2 := B2.lt
  try clear c3
  try clear l3
  try clear f3
  have c3 := B3.cell; have l3 := B3.lt
  clear hb U
  have f1 := B1.free
  go_wp2
  go_end0
  exact ⟨rfl, B1.set4 _ _ _ _, keep_set4 (Keep.ofNew N) (by simp) _ _ _ _⟩

set_option maxHeartbeats 1000000 in
theorem mulc1 (x a m y z : Nat) (go gm ga : Nat) (hm : m < M256) (hx : x < m) (ha : a < m) (hy : (x + x) % m = y) (hz : (y + a) % m = z) (h1 : go ≠ gm) (h2 : go ≠ ga) (w : World) (B1 : Blk w go 24 (uc x)) (B2 : Blk w gm 24 (uc m)) (B3 : Blk w ga 24 (uc a)) :
    Calls Tryd.prog 78 #[.bool true, .pointer (some ⟨go, 0, none⟩), .pointer (some ⟨gm, 0, none⟩), .pointer (some ⟨ga, 0, none⟩)] w fun e w' => e = .returned (.tuple #[]) ∧ Blk w' go 24 (uc z) ∧ Keep [go] w w' := by
  have hy' : y < m := by rw [← hy]; exact Nat.mod_lt _ (by omega)
  have hm := hide hm; have hx := hide hx; have hy := hide hy; have hz := hide hz; have ha := hide ha; have hy' := hide hy'
  have N := new_refl w
  have c1 := B1.cell; have c2 := B2.cell; have c3 := B3.cell
  go_enter Tryd.func78, Tryd.ntmps78
  go_wp2_with fail
  refine (fadd_to x x m y (unhide hm) (unhide hx) (unhide hx) (unhide hy) _).mono ?_
  rintro e w1 ⟨rfl, hb⟩
  have U : New w w1 := new_trans (by (repeat' (first | with_reducible exact new_refl _ | with_reducible assumption | with_reducible refine new_drewN ?_ _ | with_reducible refine new_drew ?_ | with_reducible refine new_alloc ?_ _ | with_reducible refine new_set ?_ ?_ _ | with_reducible refine new_freeze ?_ ?_ _ | with_reducible refine new_trans ?_ (by assumption) | (simp; done) | (simp; omega)))) hb
  have N : New w w1 := new_trans (by (repeat' (first | with_reducible exact new_refl _ | with_reducible assumption | with_reducible refine new_drewN ?_ _ | with_reducible refine new_drew ?_ | with_reducible refine new_alloc ?_ _ | with_reducible refine new_set ?_ ?_ _ | with_reducible refine new_freeze ?_ ?_ _ | with_reducible refine new_trans ?_ (by assumption) | (simp; done) | (simp; omega)))) hb
  have B1 := B1.up U
  have B2 := B2.up U
  have B3 := B3.up U
  try clear c1
  try clear l1
  try clear f1
  have c1 := B1.cell; have l1 := B1.lt
  try clear c2
  try clear l2
  try clear f2
  have c2 := B2.cell; have l2 := B2.lt
  try clear c3
  try clear l3
  try clear f3
  have c3 := B3.cell; have l3 := B3.lt
  clear hb U
  have f1 := B1.free
  go_wp2_with fail
  have B1 : Blk _ _ _ (uc y) := B1.set4 (.int .u64 (lim y 0)) (.int .u64 (lim y 1)) (.int .u64 (lim y 2)) (.int .u64 (lim y 3))
  have hk := keep_set4 (T := [go]) (Keep.ofNew N) (g := go) (by simp) (.int .u64 (lim y 0)) (.int .u64 (lim y 1)) (.int .u64 (lim y 2)) (.int .u64 (lim y 3))
  have B2 := B2.far4 (g' := go) (Ne.symm h1) (.int .u64 (lim y 0)) (.int .u64 (lim y 1)) (.int .u64 (lim y 2)) (.int .u64 (lim y 3))
  have B3 := B3.far4 (g' := go) (Ne.symm h2) (.int .u64 (lim y 0)) (.int .u64 (lim y 1)) (.int .u64 (lim y 2)) (.int .u64 (lim y 3))
  clear c1 c2 c3 f1 l1 l2 l3
  generalize World.setCell _ _ _ = w2 at *
  refine (fadd_to y a m z (unhide hm) (unhide hy') (unhide ha) (unhide hz) _).mono ?_
  rintro e w3 ⟨rfl, hb⟩
  have B1 := B1.up hb
  have hk := hk.new hb
  have c1 := B1.cell; have f1 := B1.free
  clear N hb
  go_wp2
  go_end0
  exact ⟨rfl, B1.set4 _ _ _ _, keep_set4 hk (by simp) _ _ _ _⟩

theorem uc_of (n : Nat) (h : n = 0) : z4 = uc n := by subst h; exact uc_zero.symm

set_option maxHeartbeats 1000000 in
theorem fmul_any (a b m r : Nat) (hm : m < M256) (ha : a < m) (hb : b < M256) (er : b * a % m = r) (w : World) :
    Calls Tryd.prog 68 #[u a, u b, u m] w fun e w' => e = .returned (u r) ∧ New w w' := by
  have er := hide er; have hm := hide hm; have ha := hide ha; have hb := hide hb
  go_enter Tryd.func68, Tryd.ntmps68
  go_wp2_with fail
  generalize hW : World.alloc _ _ = W
  obtain ⟨N, B3, B4, B5, B6, B7⟩ := boxes5 hW
  clear hW
  generalize q7 : w.heap.size + 1 + 1 + 1 + 1 = g7 at *
  generalize q6 : w.heap.size + 1 + 1 + 1 = g6 at *
  generalize q5 : w.heap.size + 1 + 1 = g5 at *
  generalize q4 : w.heap.size + 1 = g4 at *
  have hL : Hid (w.heap.size < g4 ∧ g4 < g5 ∧ g5 < g6 ∧ g6 < g7) := hide (by omega)
  clear q4 q5 q6 q7
  try clear c3
  try clear l3
  try clear f3
  have c3 := B3.cell; have l3 := B3.lt
  try clear c4
  try clear l4
  try clear f4
  have c4 := B4.cell; have l4 := B4.lt
  try clear c5
  try clear l5
  try clear f5
  have c5 := B5.cell; have l5 := B5.lt
  try clear c6
  try clear l6
  try clear f6
  have c6 := B6.cell; have l6 := B6.lt
  try clear c7
  try clear l7
  try clear f7
  have c7 := B7.cell; have l7 := B7.lt
  have hz : z4 = uc (0 * a % m) := uc_of _ (by rw [Nat.zero_mul, Nat.zero_mod])
  have m0 : 0 < m := by have := unhide ha; omega
  have n73 : g7 ≠ w.heap.size := by have := unhide hL; omega
  have n75 : g7 ≠ g5 := by have := unhide hL; omega
  have n67 : g6 ≠ g7 := by have := unhide hL; omega
  have B7 : Blk W g7 24 (uc (0 * a % m)) := by rw [← hz]; exact B7
  refine (bits_mul b (unhide hb) (.pointer (some ⟨g7, 0, none⟩)) (.pointer (some ⟨g5, 0, none⟩)) (.pointer (some ⟨w.heap.size, 0, none⟩)) [g7] (fun p w' => Blk w' g7 24 (uc (p * a % m)) ∧ Blk w' g5 24 (uc m) ∧ Blk w' w.heap.size 24 (uc a))
    (fun p w w' h k => ⟨h.1.up k, h.2.1.up k, h.2.2.up k⟩) ?_ ?_ W ⟨B7, B5, B3⟩ (by simp; exact l7)).mono ?_
  · intro p w' h _
    exact (mulc0 (p * a % m) a m (2 * p * a % m) g7 g5 _ (unhide hm) (Nat.mod_lt _ m0) (dbl p a m) w' h.1 h.2.1 h.2.2).mono fun e w'' k => ⟨k.1, ⟨k.2.1, h.2.1.keep k.2.2 (by simp [n75, Ne.symm n75]), h.2.2.keep k.2.2 (by simp [Ne.symm n73])⟩, k.2.2⟩
  · intro p w' h _
    exact (mulc1 (p * a % m) a m (2 * p * a % m) ((2 * p + 1) * a % m) g7 g5 _ (unhide hm) (Nat.mod_lt _ m0) (unhide ha) (dbl p a m) (dbl1 p a m (unhide ha)) n75 n73 w' h.1 h.2.1 h.2.2).mono fun e w'' k => ⟨k.1, ⟨k.2.1, h.2.1.keep k.2.2 (by simp [Ne.symm n75]), h.2.2.keep k.2.2 (by simp [Ne.symm n73])⟩, k.2.2⟩
  rintro e w1 ⟨rfl, ⟨B7', -, -⟩, hk⟩
  have B6 := B6.keep hk (by simp [n67])
  have N := hk.since N (by simp; have := unhide hL; omega)
  rw [unhide er] at B7'
  clear c3 c4 c5 c6 c7 l3 l4 l5 l6 l7 hk hz m0 er B7
  have c6 := B6.cell; have c7 := B7'.cell; have f6 := B6.free; have f7 := B7'.free
  go_wp2
  have c := (B6.set4 (.int .u64 (lim (r) 0)) (.int .u64 (lim (r) 1)) (.int .u64 (lim (r) 2)) (.int .u64 (lim (r) 3))).cell
  exact bodyPost_ret (v := u r) (by simp [results, Tryd.results68, go_sem, c]) rfl ⟨rfl, (new_set4 N (g := g6) (by have := unhide hL; omega) (.int .u64 (lim (r) 0)) (.int .u64 (lim (r) 1)) (.int .u64 (lim (r) 2)) (.int .u64 (lim (r) 3)))⟩

theorem fmul_to (a b m r : Nat) (hm : m < M256) (ha : a < m) (hb : b < M256) (hr : a * b % m = r) (w : World) :
    Calls Tryd.prog 68 #[u a, u b, u m] w fun e w' => e = .returned (u r) ∧ New w w' := by
  rw [Nat.mul_comm] at hr; exact fmul_any a b m r hm ha hb hr w
theorem fsub_to (a b m r : Nat) (hm : m < M256) (ha : a < m) (hb : b < m) (hr : (a + m - b) % m = r) (w : World) :
    Calls Tryd.prog 67 #[u a, u b, u m] w fun e w' => e = .returned (u r) ∧ New w w' := hr ▸ fsub_any a b m hm ha hb w

set_option maxHeartbeats 1000000 in
theorem by_add (a b m r : Nat) (hm : m < M256) (ha : a < m) (hb : b < m) (hc : ∀ w, Calls Tryd.prog 75 #[u a, u b, u m] w fun e w' => e = .returned (u r) ∧ New w w') (w : World) :
    Calls Tryd.prog 69 #[.func (.func 75) #[] #[], u a, u b, u m] w fun e w' => e = .returned (.tuple #[u r, .int .i64 0]) ∧ New w w' := by
  have hm := hide hm; have ha := hide ha; have hb := hide hb; have hc := hide hc
  go_enter Tryd.func69, Tryd.ntmps69
  go_wp2_with fail
  generalize hW : World.alloc _ _ = W
  obtain ⟨N, B5, B6, B7, B8, B9⟩ := boxes5 hW
  clear hW
  generalize q9 : w.heap.size + 1 + 1 + 1 + 1 = g9 at *
  generalize q8 : w.heap.size + 1 + 1 + 1 = g8 at *
  generalize q7 : w.heap.size + 1 + 1 = g7 at *
  generalize q6 : w.heap.size + 1 = g6 at *
  have hL : Hid (w.heap.size < g6 ∧ g6 < g7 ∧ g7 < g8 ∧ g8 < g9) := hide (by omega)
  clear q6 q7 q8 q9
  try clear c5
  try clear l5
  try clear f5
  have c5 := B5.cell; have l5 := B5.lt
  try clear c6
  try clear l6
  try clear f6
  have c6 := B6.cell; have l6 := B6.lt
  try clear c7
  try clear l7
  try clear f7
  have c7 := B7.cell; have l7 := B7.lt
  try clear c8
  try clear l8
  try clear f8
  have c8 := B8.cell; have l8 := B8.lt
  try clear c9
  try clear l9
  try clear f9
  have c9 := B9.cell; have l9 := B9.lt
  refine (fault2 a b m g9 _ (unhide hm) (unhide ha) (unhide hb) _ B9).mono ?_
  rintro e w1 ⟨rfl, hb'⟩
  have B5 := B5.up hb'; have B6 := B6.up hb'; have B7 := B7.up hb'; have B8 := B8.up hb'; have N := new_trans N hb'
  clear c5 c6 c7 c8 c9 l5 l6 l7 l8 l9 hb' B9
  have c5 := B5.cell; have c6 := B6.cell; have c7 := B7.cell; have c8 := B8.cell
  go_wp2_with fail
  refine (unhide hc _).mono ?_
  rintro e w2 ⟨rfl, hb'⟩
  have B8 := B8.up hb'; have N := new_trans N hb'
  clear c5 c6 c7 c8 hb' B5 B6 B7
  have c8 := B8.cell; have f8 := B8.free
  go_wp2
  have c := (B8.set4 (.int .u64 (lim (r) 0)) (.int .u64 (lim (r) 1)) (.int .u64 (lim (r) 2)) (.int .u64 (lim (r) 3))).cell
  exact bodyPost_ret (v := .tuple #[u r, .int .i64 0]) (by simp [results, Tryd.results69, go_sem, c]) rfl ⟨rfl, (new_set4 N (g := g8) (by have := unhide hL; omega) (.int .u64 (lim (r) 0)) (.int .u64 (lim (r) 1)) (.int .u64 (lim (r) 2)) (.int .u64 (lim (r) 3)))⟩

set_option maxHeartbeats 1000000 in
theorem by_sub (a b m r : Nat) (hm : m < M256) (ha : a < m) (hb : b < m) (hc : ∀ w, Calls Tryd.prog 67 #[u a, u b, u m] w fun e w' => e = .returned (u r) ∧ New w w') (w : World) :
    Calls Tryd.prog 69 #[.func (.func 67) #[] #[], u a, u b, u m] w fun e w' => e = .returned (.tuple #[u r, .int .i64 0]) ∧ New w w' := by
  have hm := hide hm; have ha := hide ha; have hb := hide hb; have hc := hide hc
  go_enter Tryd.func69, Tryd.ntmps69
  go_wp2_with fail
  generalize hW : World.alloc _ _ = W
  obtain ⟨N, B5, B6, B7, B8, B9⟩ := boxes5 hW
  clear hW
  generalize q9 : w.heap.size + 1 + 1 + 1 + 1 = g9 at *
  generalize q8 : w.heap.size + 1 + 1 + 1 = g8 at *
  generalize q7 : w.heap.size + 1 + 1 = g7 at *
  generalize q6 : w.heap.size + 1 = g6 at *
  have hL : Hid (w.heap.size < g6 ∧ g6 < g7 ∧ g7 < g8 ∧ g8 < g9) := hide (by omega)
  clear q6 q7 q8 q9
  try clear c5
  try clear l5
  try clear f5
  have c5 := B5.cell; have l5 := B5.lt
  try clear c6
  try clear l6
  try clear f6
  have c6 := B6.cell; have l6 := B6.lt
  try clear c7
  try clear l7
  try clear f7
  have c7 := B7.cell; have l7 := B7.lt
  try clear c8
  try clear l8
  try clear f8
  have c8 := B8.cell; have l8 := B8.lt
  try clear c9
  try clear l9
  try clear f9
  have c9 := B9.cell; have l9 := B9.lt
  refine (fault2 a b m g9 _ (unhide hm) (unhide ha) (unhide hb) _ B9).mono ?_
  rintro e w1 ⟨rfl, hb'⟩
  have B5 := B5.up hb'; have B6 := B6.up hb'; have B7 := B7.up hb'; have B8 := B8.up hb'; have N := new_trans N hb'
  clear c5 c6 c7 c8 c9 l5 l6 l7 l8 l9 hb' B9
  have c5 := B5.cell; have c6 := B6.cell; have c7 := B7.cell; have c8 := B8.cell
  go_wp2_with fail
  refine (unhide hc _).mono ?_
  rintro e w2 ⟨rfl, hb'⟩
  have B8 := B8.up hb'; have N := new_trans N hb'
  clear c5 c6 c7 c8 hb' B5 B6 B7
  have c8 := B8.cell; have f8 := B8.free
  go_wp2
  have c := (B8.set4 (.int .u64 (lim (r) 0)) (.int .u64 (lim (r) 1)) (.int .u64 (lim (r) 2)) (.int .u64 (lim (r) 3))).cell
  exact bodyPost_ret (v := .tuple #[u r, .int .i64 0]) (by simp [results, Tryd.results69, go_sem, c]) rfl ⟨rfl, (new_set4 N (g := g8) (by have := unhide hL; omega) (.int .u64 (lim (r) 0)) (.int .u64 (lim (r) 1)) (.int .u64 (lim (r) 2)) (.int .u64 (lim (r) 3)))⟩

set_option maxHeartbeats 1000000 in
theorem by_mul (a b m r : Nat) (hm : m < M256) (ha : a < m) (hb : b < m) (hc : ∀ w, Calls Tryd.prog 68 #[u a, u b, u m] w fun e w' => e = .returned (u r) ∧ New w w') (w : World) :
    Calls Tryd.prog 69 #[.func (.func 68) #[] #[], u a, u b, u m] w fun e w' => e = .returned (.tuple #[u r, .int .i64 0]) ∧ New w w' := by
  have hm := hide hm; have ha := hide ha; have hb := hide hb; have hc := hide hc
  go_enter Tryd.func69, Tryd.ntmps69
  go_wp2_with fail
  generalize hW : World.alloc _ _ = W
  obtain ⟨N, B5, B6, B7, B8, B9⟩ := boxes5 hW
  clear hW
  generalize q9 : w.heap.size + 1 + 1 + 1 + 1 = g9 at *
  generalize q8 : w.heap.size + 1 + 1 + 1 = g8 at *
  generalize q7 : w.heap.size + 1 + 1 = g7 at *
  generalize q6 : w.heap.size + 1 = g6 at *
  have hL : Hid (w.heap.size < g6 ∧ g6 < g7 ∧ g7 < g8 ∧ g8 < g9) := hide (by omega)
  clear q6 q7 q8 q9
  try clear c5
  try clear l5
  try clear f5
  have c5 := B5.cell; have l5 := B5.lt
  try clear c6
  try clear l6
  try clear f6
  have c6 := B6.cell; have l6 := B6.lt
  try clear c7
  try clear l7
  try clear f7
  have c7 := B7.cell; have l7 := B7.lt
  try clear c8
  try clear l8
  try clear f8
  have c8 := B8.cell; have l8 := B8.lt
  try clear c9
  try clear l9
  try clear f9
  have c9 := B9.cell; have l9 := B9.lt
  refine (fault2 a b m g9 _ (unhide hm) (unhide ha) (unhide hb) _ B9).mono ?_
  rintro e w1 ⟨rfl, hb'⟩
  have B5 := B5.up hb'; have B6 := B6.up hb'; have B7 := B7.up hb'; have B8 := B8.up hb'; have N := new_trans N hb'
  clear c5 c6 c7 c8 c9 l5 l6 l7 l8 l9 hb' B9
  have c5 := B5.cell; have c6 := B6.cell; have c7 := B7.cell; have c8 := B8.cell
  go_wp2_with fail
  refine (unhide hc _).mono ?_
  rintro e w2 ⟨rfl, hb'⟩
  have B8 := B8.up hb'; have N := new_trans N hb'
  clear c5 c6 c7 c8 hb' B5 B6 B7
  have c8 := B8.cell; have f8 := B8.free
  go_wp2
  have c := (B8.set4 (.int .u64 (lim (r) 0)) (.int .u64 (lim (r) 1)) (.int .u64 (lim (r) 2)) (.int .u64 (lim (r) 3))).cell
  exact bodyPost_ret (v := .tuple #[u r, .int .i64 0]) (by simp [results, Tryd.results69, go_sem, c]) rfl ⟨rfl, (new_set4 N (g := g8) (by have := unhide hL; omega) (.int .u64 (lim (r) 0)) (.int .u64 (lim (r) 1)) (.int .u64 (lim (r) 2)) (.int .u64 (lim (r) 3)))⟩

set_option maxHeartbeats 1000000 in
theorem pub_Add (a b m r : Nat) (hm : m < M256) (ha : a < m) (hb : b < m) (hc : ∀ w, Calls Tryd.prog 75 #[u a, u b, u m] w fun e w' => e = .returned (u r) ∧ New w w') (w : World) :
    Calls Tryd.prog 59 #[u a, u b, u m] w fun e w' => e = .returned (.tuple #[u r, .int .i64 0]) ∧ New w w' := by
  have hm := hide hm; have ha := hide ha; have hb := hide hb; have hc := hide hc
  go_enter Tryd.func59, Tryd.ntmps59
  go_wp2_with fail
  generalize hW : World.alloc _ _ = W
  obtain ⟨N, B3, B4, B5, B6⟩ := boxes4 hW
  clear hW
  generalize q6 : w.heap.size + 1 + 1 + 1 = g6 at *
  generalize q5 : w.heap.size + 1 + 1 = g5 at *
  generalize q4 : w.heap.size + 1 = g4 at *
  have hL : Hid (w.heap.size < g4 ∧ g4 < g5 ∧ g5 < g6) := hide (by omega)
  clear q4 q5 q6
  try clear c3
  try clear l3
  try clear f3
  have c3 := B3.cell; have l3 := B3.lt
  try clear c4
  try clear l4
  try clear f4
  have c4 := B4.cell; have l4 := B4.lt
  try clear c5
  try clear l5
  try clear f5
  have c5 := B5.cell; have l5 := B5.lt
  try clear c6
  try clear l6
  try clear f6
  have c6 := B6.cell; have l6 := B6.lt
  refine (by_add a b m r (unhide hm) (unhide ha) (unhide hb) (unhide hc) _).mono ?_
  rintro e w1 ⟨rfl, hb'⟩
  have B6 := B6.up hb'; have N := new_trans N hb'
  clear c3 c4 c5 c6 l3 l4 l5 l6 hb' B3 B4 B5
  have c6 := B6.cell; have f6 := B6.free
  go_wp2
  have c := (B6.set4 (.int .u64 (lim (r) 0)) (.int .u64 (lim (r) 1)) (.int .u64 (lim (r) 2)) (.int .u64 (lim (r) 3))).cell
  exact bodyPost_ret (v := .tuple #[u r, .int .i64 0]) (by simp [results, Tryd.results59, go_sem, c]) rfl ⟨rfl, (new_set4 N (g := g6) (by have := unhide hL; omega) (.int .u64 (lim (r) 0)) (.int .u64 (lim (r) 1)) (.int .u64 (lim (r) 2)) (.int .u64 (lim (r) 3)))⟩

set_option maxHeartbeats 1000000 in
theorem pub_Sub (a b m r : Nat) (hm : m < M256) (ha : a < m) (hb : b < m) (hc : ∀ w, Calls Tryd.prog 67 #[u a, u b, u m] w fun e w' => e = .returned (u r) ∧ New w w') (w : World) :
    Calls Tryd.prog 45 #[u a, u b, u m] w fun e w' => e = .returned (.tuple #[u r, .int .i64 0]) ∧ New w w' := by
  have hm := hide hm; have ha := hide ha; have hb := hide hb; have hc := hide hc
  go_enter Tryd.func45, Tryd.ntmps45
  go_wp2_with fail
  generalize hW : World.alloc _ _ = W
  obtain ⟨N, B3, B4, B5, B6⟩ := boxes4 hW
  clear hW
  generalize q6 : w.heap.size + 1 + 1 + 1 = g6 at *
  generalize q5 : w.heap.size + 1 + 1 = g5 at *
  generalize q4 : w.heap.size + 1 = g4 at *
  have hL : Hid (w.heap.size < g4 ∧ g4 < g5 ∧ g5 < g6) := hide (by omega)
  clear q4 q5 q6
  try clear c3
  try clear l3
  try clear f3
  have c3 := B3.cell; have l3 := B3.lt
  try clear c4
  try clear l4
  try clear f4
  have c4 := B4.cell; have l4 := B4.lt
  try clear c5
  try clear l5
  try clear f5
  have c5 := B5.cell; have l5 := B5.lt
  try clear c6
  try clear l6
  try clear f6
  have c6 := B6.cell; have l6 := B6.lt
  refine (by_sub a b m r (unhide hm) (unhide ha) (unhide hb) (unhide hc) _).mono ?_
  rintro e w1 ⟨rfl, hb'⟩
  have B6 := B6.up hb'; have N := new_trans N hb'
  clear c3 c4 c5 c6 l3 l4 l5 l6 hb' B3 B4 B5
  have c6 := B6.cell; have f6 := B6.free
  go_wp2
  have c := (B6.set4 (.int .u64 (lim (r) 0)) (.int .u64 (lim (r) 1)) (.int .u64 (lim (r) 2)) (.int .u64 (lim (r) 3))).cell
  exact bodyPost_ret (v := .tuple #[u r, .int .i64 0]) (by simp [results, Tryd.results45, go_sem, c]) rfl ⟨rfl, (new_set4 N (g := g6) (by have := unhide hL; omega) (.int .u64 (lim (r) 0)) (.int .u64 (lim (r) 1)) (.int .u64 (lim (r) 2)) (.int .u64 (lim (r) 3)))⟩

set_option maxHeartbeats 1000000 in
theorem pub_Mul (a b m r : Nat) (hm : m < M256) (ha : a < m) (hb : b < m) (hc : ∀ w, Calls Tryd.prog 68 #[u a, u b, u m] w fun e w' => e = .returned (u r) ∧ New w w') (w : World) :
    Calls Tryd.prog 44 #[u a, u b, u m] w fun e w' => e = .returned (.tuple #[u r, .int .i64 0]) ∧ New w w' := by
  have hm := hide hm; have ha := hide ha; have hb := hide hb; have hc := hide hc
  go_enter Tryd.func44, Tryd.ntmps44
  go_wp2_with fail
  generalize hW : World.alloc _ _ = W
  obtain ⟨N, B3, B4, B5, B6⟩ := boxes4 hW
  clear hW
  generalize q6 : w.heap.size + 1 + 1 + 1 = g6 at *
  generalize q5 : w.heap.size + 1 + 1 = g5 at *
  generalize q4 : w.heap.size + 1 = g4 at *
  have hL : Hid (w.heap.size < g4 ∧ g4 < g5 ∧ g5 < g6) := hide (by omega)
  clear q4 q5 q6
  try clear c3
  try clear l3
  try clear f3
  have c3 := B3.cell; have l3 := B3.lt
  try clear c4
  try clear l4
  try clear f4
  have c4 := B4.cell; have l4 := B4.lt
  try clear c5
  try clear l5
  try clear f5
  have c5 := B5.cell; have l5 := B5.lt
  try clear c6
  try clear l6
  try clear f6
  have c6 := B6.cell; have l6 := B6.lt
  refine (by_mul a b m r (unhide hm) (unhide ha) (unhide hb) (unhide hc) _).mono ?_
  rintro e w1 ⟨rfl, hb'⟩
  have B6 := B6.up hb'; have N := new_trans N hb'
  clear c3 c4 c5 c6 l3 l4 l5 l6 hb' B3 B4 B5
  have c6 := B6.cell; have f6 := B6.free
  go_wp2
  have c := (B6.set4 (.int .u64 (lim (r) 0)) (.int .u64 (lim (r) 1)) (.int .u64 (lim (r) 2)) (.int .u64 (lim (r) 3))).cell
  exact bodyPost_ret (v := .tuple #[u r, .int .i64 0]) (by simp [results, Tryd.results44, go_sem, c]) rfl ⟨rfl, (new_set4 N (g := g6) (by have := unhide hL; omega) (.int .u64 (lim (r) 0)) (.int .u64 (lim (r) 1)) (.int .u64 (lim (r) 2)) (.int .u64 (lim (r) 3)))⟩

theorem Add_to (a b m r : Nat) (hm : m < M256) (ha : a < m) (hb : b < m) (hr : (a + b) % m = r) (w : World) :
    Calls Tryd.prog 59 #[u a, u b, u m] w fun e w' => e = .returned (.tuple #[u r, .int .i64 0]) ∧ New w w' :=
  pub_Add a b m r hm ha hb (fadd_to a b m r hm ha hb hr) w
theorem Sub_to (a b m r : Nat) (hm : m < M256) (ha : a < m) (hb : b < m) (hr : (a + m - b) % m = r) (w : World) :
    Calls Tryd.prog 45 #[u a, u b, u m] w fun e w' => e = .returned (.tuple #[u r, .int .i64 0]) ∧ New w w' :=
  pub_Sub a b m r hm ha hb (fsub_to a b m r hm ha hb hr) w
theorem Mul_to (a b m r : Nat) (hm : m < M256) (ha : a < m) (hb : b < m) (hr : a * b % m = r) (w : World) :
    Calls Tryd.prog 44 #[u a, u b, u m] w fun e w' => e = .returned (.tuple #[u r, .int .i64 0]) ∧ New w w' :=
  pub_Mul a b m r hm ha hb (fmul_to a b m r hm ha (Nat.lt_trans hb hm) hr) w
end Go.Proofs.YtpdhbddkcnffbaaDoor

namespace Go.Proofs.YtpdhbddkcnffbaaDoor
open Go.RowKit
set_option linter.unusedVariables false
set_option linter.unusedVariables false
set_option maxRecDepth 100000
set_option linter.unusedSimpArgs false

theorem div_one (m q r : Nat) (hm : m < M256) (h0 : 0 < m) (hq : 1 / m = q) (hr : 1 % m = r) (w : World) :
    Calls Tryd.prog 17 #[.agg #[.int .u64 1, .int .u64 0, .int .u64 0, .int .u64 0], u m] w fun e w' => e = .returned (.tuple #[u q, u r, .int .i64 0]) ∧ New w w' := by
  have h := divmod_any 1 m (by decide) hm h0 w
  rw [hq, hr, u_one] at h
  exact h

set_option maxHeartbeats 1000000 in
theorem powc0 (x a m y : Nat) (go gm ga : Nat) (hm : m < M256) (hx : x < m) (hy : x * x % m = y) (w : World) (B1 : Blk w go 24 (uc x)) (B2 : Blk w gm 24 (uc m)) (B3 : Blk w ga 24 (uc a)) :
    Calls Tryd.prog 77 #[.bool false, .pointer (some ⟨go, 0, none⟩), .pointer (some ⟨gm, 0, none⟩), .pointer (some ⟨ga, 0, none⟩)] w fun e w' => e = .returned (.tuple #[]) ∧ Blk w' go 24 (uc y) ∧ Keep [go] w w' := by
  have hm := hide hm; have hx := hide hx; have hy := hide hy
  have N := new_refl w
  have c1 := B1.cell; have c2 := B2.cell; have c3 := B3.cell
  go_enter Tryd.func77, Tryd.ntmps77
  go_wp2_with fail
  refine (fmul_to x x m y (unhide hm) (unhide hx) (Nat.lt_trans (unhide hx) (unhide hm)) (unhide hy) _).mono ?_
  rintro e w1 ⟨rfl, hb⟩
  have U : New w w1 := new_trans (by (repeat' (first | with_reducible exact new_refl _ | with_reducible assumption | with_reducible refine new_drewN ?_ _ | with_reducible refine new_drew ?_ | with_reducible refine new_alloc ?_ _ | with_reducible refine new_set ?_ ?_ _ | with_reducible refine new_freeze ?_ ?_ _ | with_reducible refine new_trans ?_ (by assumption) | (simp; done) | (simp; omega)))) hb
  have N : New w w1 := new_trans (by (repeat' (first | with_reducible exact new_refl _ | with_reducible assumption | with_reducible refine new_drewN ?_ _ | with_reducible refine new_drew ?_ | with_reducible refine new_alloc ?_ _ | with_reducible refine new_set ?_ ?_ _ | with_reducible refine new_freeze ?_ ?_ _ | with_reducible refine new_trans ?_ (by assumption) | (simp; done) | (simp; omega)))) hb
  have B1 := B1.up U
  have B2 := B2.up U
  have B3 := B3.up U
  try clear c1
  try clear l1
  try clear f1
  have c1 := B1.cell; have l1 := B1.lt
  try clear c2
  try clear l2
  try clear f2
  have c2 := B2.cell; have l2 := B2.lt
  try clear c3
  try clear l3
  try clear f3
  have c3 := B3.cell; have l3 := B3.lt
  clear hb U
  have f1 := B1.free
  go_wp2
  go_end0
  exact ⟨rfl, B1.set4 _ _ _ _, keep_set4 (Keep.ofNew N) (by simp) _ _ _ _⟩

set_option maxHeartbeats 1000000 in
theorem powc1 (x a m y z : Nat) (go gm ga : Nat) (hm : m < M256) (hx : x < m) (ha : a < m) (hy : x * x % m = y) (hz : y * a % m = z) (h1 : go ≠ gm) (h2 : go ≠ ga) (w : World) (B1 : Blk w go 24 (uc x)) (B2 : Blk w gm 24 (uc m)) (B3 : Blk w ga 24 (uc a)) :
    Calls Tryd.prog 77 #[.bool true, .pointer (some ⟨go, 0, none⟩), .pointer (some ⟨gm, 0, none⟩), .pointer (some ⟨ga, 0, none⟩)] w fun e w' => e = .returned (.tuple #[]) ∧ Blk w' go 24 (uc z) ∧ Keep [go] w w' := by
  have hy' : y < m := by rw [← hy]; exact Nat.mod_lt _ (by omega)
  have hm := hide hm; have hx := hide hx; have hy := hide hy; have hz := hide hz; have ha := hide ha; have hy' := hide hy'
  have N := new_refl w
  have c1 := B1.cell; have c2 := B2.cell; have c3 := B3.cell
  go_enter Tryd.func77, Tryd.ntmps77
  go_wp2_with fail
  refine (fmul_to x x m y (unhide hm) (unhide hx) (Nat.lt_trans (unhide hx) (unhide hm)) (unhide hy) _).mono ?_
  rintro e w1 ⟨rfl, hb⟩
  have U : New w w1 := new_trans (by (repeat' (first | with_reducible exact new_refl _ | with_reducible assumption | with_reducible refine new_drewN ?_ _ | with_reducible refine new_drew ?_ | with_reducible refine new_alloc ?_ _ | with_reducible refine new_set ?_ ?_ _ | with_reducible refine new_freeze ?_ ?_ _ | with_reducible refine new_trans ?_ (by assumption) | (simp; done) | (simp; omega)))) hb
  have N : New w w1 := new_trans (by (repeat' (first | with_reducible exact new_refl _ | with_reducible assumption | with_reducible refine new_drewN ?_ _ | with_reducible refine new_drew ?_ | with_reducible refine new_alloc ?_ _ | with_reducible refine new_set ?_ ?_ _ | with_reducible refine new_freeze ?_ ?_ _ | with_reducible refine new_trans ?_ (by assumption) | (simp; done) | (simp; omega)))) hb
  have B1 := B1.up U
  have B2 := B2.up U
  have B3 := B3.up U
  try clear c1
  try clear l1
  try clear f1
  have c1 := B1.cell; have l1 := B1.lt
  try clear c2
  try clear l2
  try clear f2
  have c2 := B2.cell; have l2 := B2.lt
  try clear c3
  try clear l3
  try clear f3
  have c3 := B3.cell; have l3 := B3.lt
  clear hb U
  have f1 := B1.free
  go_wp2_with fail
  have B1 : Blk _ _ _ (uc y) := B1.set4 (.int .u64 (lim y 0)) (.int .u64 (lim y 1)) (.int .u64 (lim y 2)) (.int .u64 (lim y 3))
  have hk := keep_set4 (T := [go]) (Keep.ofNew N) (g := go) (by simp) (.int .u64 (lim y 0)) (.int .u64 (lim y 1)) (.int .u64 (lim y 2)) (.int .u64 (lim y 3))
  have B2 := B2.far4 (g' := go) (Ne.symm h1) (.int .u64 (lim y 0)) (.int .u64 (lim y 1)) (.int .u64 (lim y 2)) (.int .u64 (lim y 3))
  have B3 := B3.far4 (g' := go) (Ne.symm h2) (.int .u64 (lim y 0)) (.int .u64 (lim y 1)) (.int .u64 (lim y 2)) (.int .u64 (lim y 3))
  clear c1 c2 c3 f1 l1 l2 l3
  generalize World.setCell _ _ _ = w2 at *
  refine (fmul_to y a m z (unhide hm) (unhide hy') (Nat.lt_trans (unhide ha) (unhide hm)) (unhide hz) _).mono ?_
  rintro e w3 ⟨rfl, hb⟩
  have B1 := B1.up hb
  have hk := hk.new hb
  have c1 := B1.cell; have f1 := B1.free
  clear N hb
  go_wp2
  go_end0
  exact ⟨rfl, B1.set4 _ _ _ _, keep_set4 hk (by simp) _ _ _ _⟩

set_option maxHeartbeats 2000000 in
theorem Pow_to (a x m r : Nat) (hm : m < M256) (ha : a < m) (hx : x < M256) (er : a ^ x % m = r) (w : World) :
    Calls Tryd.prog 64 #[u a, u x, u m] w fun e w' => e = .returned (.tuple #[u r, .int .i64 0]) ∧ New w w' := by
  obtain ⟨q, eq⟩ : ∃ q, 1 / m = q := ⟨_, rfl⟩
  obtain ⟨o, eo⟩ : ∃ o, 1 % m = o := ⟨_, rfl⟩
  have er := hide er; have hm := hide hm; have ha := hide ha; have hx := hide hx; have eq := hide eq; have eo := hide eo
  go_enter Tryd.func64, Tryd.ntmps64
  go_wp2_with fail
  generalize hW : World.alloc _ _ = W
  obtain ⟨N, B3, B4, B5, B6, B14⟩ := boxes5 hW
  clear hW
  generalize q14 : w.heap.size + 1 + 1 + 1 + 1 = g14 at *
  generalize q6 : w.heap.size + 1 + 1 + 1 = g6 at *
  generalize q5 : w.heap.size + 1 + 1 = g5 at *
  generalize q4 : w.heap.size + 1 = g4 at *
  have hL : Hid (w.heap.size < g4 ∧ g4 < g5 ∧ g5 < g6 ∧ g6 < g14) := hide (by omega)
  clear q4 q5 q6 q14
  try clear c3
  try clear l3
  try clear f3
  have c3 := B3.cell; have l3 := B3.lt
  try clear c4
  try clear l4
  try clear f4
  have c4 := B4.cell; have l4 := B4.lt
  try clear c5
  try clear l5
  try clear f5
  have c5 := B5.cell; have l5 := B5.lt
  try clear c6
  try clear l6
  try clear f6
  have c6 := B6.cell; have l6 := B6.lt
  try clear c14
  try clear l14
  try clear f14
  have c14 := B14.cell; have l14 := B14.lt
  refine (fault1 a m g14 _ (unhide hm) (unhide ha) _ B14).mono ?_
  rintro e w1 ⟨rfl, hb⟩
  have U : New W w1 := new_trans (by (repeat' (first | with_reducible exact new_refl _ | with_reducible assumption | with_reducible refine new_drewN ?_ _ | with_reducible refine new_drew ?_ | with_reducible refine new_alloc ?_ _ | with_reducible refine new_set ?_ ?_ _ | with_reducible refine new_freeze ?_ ?_ _ | with_reducible refine new_trans ?_ (by assumption) | (simp; done) | (simp; omega)))) hb
  have N : New w w1 := new_trans (by (repeat' (first | with_reducible exact new_refl _ | with_reducible assumption | with_reducible refine new_drewN ?_ _ | with_reducible refine new_drew ?_ | with_reducible refine new_alloc ?_ _ | with_reducible refine new_set ?_ ?_ _ | with_reducible refine new_freeze ?_ ?_ _ | with_reducible refine new_trans ?_ (by assumption) | (simp; done) | (simp; omega)))) hb
  have B3 := B3.up U
  have B4 := B4.up U
  have B5 := B5.up U
  have B6 := B6.up U
  try clear c3
  try clear l3
  try clear f3
  have c3 := B3.cell; have l3 := B3.lt
  try clear c4
  try clear l4
  try clear f4
  have c4 := B4.cell; have l4 := B4.lt
  try clear c5
  try clear l5
  try clear f5
  have c5 := B5.cell; have l5 := B5.lt
  try clear c6
  try clear l6
  try clear f6
  have c6 := B6.cell; have l6 := B6.lt
  clear hb U
  clear B14 c14 l14
  go_wp2_with fail
  refine (div_one m q o (unhide hm) (by have := unhide ha; omega) (unhide eq) (unhide eo) _).mono ?_
  rintro e w2 ⟨rfl, hb⟩
  have U : New w1 w2 := new_trans (by (repeat' (first | with_reducible exact new_refl _ | with_reducible assumption | with_reducible refine new_drewN ?_ _ | with_reducible refine new_drew ?_ | with_reducible refine new_alloc ?_ _ | with_reducible refine new_set ?_ ?_ _ | with_reducible refine new_freeze ?_ ?_ _ | with_reducible refine new_trans ?_ (by assumption) | (simp; done) | (simp; omega)))) hb
  have N : New w w2 := new_trans (by (repeat' (first | with_reducible exact new_refl _ | with_reducible assumption | with_reducible refine new_drewN ?_ _ | with_reducible refine new_drew ?_ | with_reducible refine new_alloc ?_ _ | with_reducible refine new_set ?_ ?_ _ | with_reducible refine new_freeze ?_ ?_ _ | with_reducible refine new_trans ?_ (by assumption) | (simp; done) | (simp; omega)))) hb
  have B3 := B3.up U
  have B4 := B4.up U
  have B5 := B5.up U
  have B6 := B6.up U
  try clear c3
  try clear l3
  try clear f3
  have c3 := B3.cell; have l3 := B3.lt
  try clear c4
  try clear l4
  try clear f4
  have c4 := B4.cell; have l4 := B4.lt
  try clear c5
  try clear l5
  try clear f5
  have c5 := B5.cell; have l5 := B5.lt
  try clear c6
  try clear l6
  try clear f6
  have c6 := B6.cell; have l6 := B6.lt
  clear hb U
  go_wp2_with fail
  generalize hZ : World.alloc _ _ = Z
  obtain ⟨NZ, B9, B10⟩ := boxes2 hZ
  have B3 := B3.up NZ; have B4 := B4.up NZ; have B5 := B5.up NZ; have B6 := B6.up NZ; have N' := new_trans N NZ
  have k6 : g6 ≠ w2.heap.size + 1 := by omega
  have k5 : w2.heap.size + 1 ≠ g5 := by omega
  have k3 : w2.heap.size + 1 ≠ w.heap.size := by omega
  have kb : w.heap.size ≤ w2.heap.size + 1 := by omega
  have l10 := B10.lt
  clear hZ NZ l3 l4 l5 l6 c3 c4 c5 c6 N B9
  generalize w2.heap.size + 1 = g10 at *
  have m0 : 0 < m := by have := unhide ha; omega
  have hz : uc o = uc (a ^ 0 % m) := by rw [Nat.pow_zero, unhide eo]
  have B10 : Blk Z g10 24 (uc (a ^ 0 % m)) := by rw [← hz]; exact B10
  refine (bits_Pow x (unhide hx) (.pointer (some ⟨g10, 0, none⟩)) (.pointer (some ⟨g5, 0, none⟩)) (.pointer (some ⟨w.heap.size, 0, none⟩)) [g10] (fun p w' => Blk w' g10 24 (uc (a ^ p % m)) ∧ Blk w' g5 24 (uc m) ∧ Blk w' w.heap.size 24 (uc a))
    (fun p w w' h k => ⟨h.1.up k, h.2.1.up k, h.2.2.up k⟩) ?_ ?_ Z ⟨B10, B5, B3⟩ (by simp; exact l10)).mono ?_
  · intro p w' h _
    exact (powc0 (a ^ p % m) a m (a ^ (2 * p) % m) g10 g5 _ (unhide hm) (Nat.mod_lt _ m0) (FM.pow_split a p m).symm w' h.1 h.2.1 h.2.2).mono fun e w'' k => ⟨k.1, ⟨k.2.1, h.2.1.keep k.2.2 (by simp [Ne.symm k5]), h.2.2.keep k.2.2 (by simp [Ne.symm k3])⟩, k.2.2⟩
  · intro p w' h _
    exact (powc1 (a ^ p % m) a m (a ^ (2 * p) % m) (a ^ (2 * p + 1) % m) g10 g5 _ (unhide hm) (Nat.mod_lt _ m0) (unhide ha) (FM.pow_split a p m).symm (by rw [FM.pow_one, FM.pow_split]) k5 k3 w' h.1 h.2.1 h.2.2).mono fun e w'' k => ⟨k.1, ⟨k.2.1, h.2.1.keep k.2.2 (by simp [Ne.symm k5]), h.2.2.keep k.2.2 (by simp [Ne.symm k3])⟩, k.2.2⟩
  rintro e w3 ⟨rfl, ⟨B10', -, -⟩, hk⟩
  have B6 := B6.keep hk (by simp [k6])
  have N := hk.since N' (by simp; exact kb)
  rw [unhide er] at B10'
  clear hk hz m0 B10 l10 N' B3 B4 B5 k5 k3 kb
  have c6 := B6.cell; have c10 := B10'.cell; have f6 := B6.free; have f10 := B10'.free
  go_wp2
  have c := (B6.set4 (.int .u64 (lim (r) 0)) (.int .u64 (lim (r) 1)) (.int .u64 (lim (r) 2)) (.int .u64 (lim (r) 3))).cell
  exact bodyPost_ret (v := .tuple #[u r, .int .i64 0]) (by simp [results, Tryd.results64, go_sem, c]) rfl ⟨rfl, (new_set4 N (g := g6) (by have := unhide hL; omega) (.int .u64 (lim (r) 0)) (.int .u64 (lim (r) 1)) (.int .u64 (lim (r) 2)) (.int .u64 (lim (r) 3)))⟩
end Go.Proofs.YtpdhbddkcnffbaaDoor

namespace Go.Proofs.YtpdhbddkcnffbaaDoor
open Go.RowKit
set_option linter.unusedVariables false
set_option linter.unusedVariables false
set_option maxRecDepth 100000
set_option linter.unusedSimpArgs false

theorem div_to (a b q r : Nat) (ha : a < M256) (hb : b < M256) (hb0 : 0 < b) (hq : a / b = q) (hr : a % b = r) (w : World) :
    Calls Tryd.prog 17 #[u a, u b] w fun e w' => e = .returned (.tuple #[u q, u r, .int .i64 0]) ∧ New w w' := hq ▸ hr ▸ divmod_any a b ha hb hb0 w

/-- the number that a variable of four cells holds -/
def numAt (w : World) (g : Nat) : Nat :=
  match w.heap[g]? with
  | some (.cells cs _ _) => match cs.toList with
    | [.int _ a, .int _ b, .int _ c, .int _ d] => mk4 a b c d
    | _ => 0
  | _ => 0
theorem numAt_is {w : World} {g : Nat} {t : TypeId} {s : Nat} (B : Blk w g t (uc s)) (hs : s < M256) : numAt w g = s := by
  unfold numAt
  unfold Blk at B
  rw [B]
  show mk4 (lim s 0) (lim s 1) (lim s 2) (lim s 3) = s
  have v := val_lim s hs
  unfold mk4
  omega

theorem one_iff (r : Nat) (hr : r < M256) : (lim r 0 == 1 && (lim r 1 == 0 && (lim r 2 == 0 && lim r 3 == 0))) = decide (r = 1) := same_iff r 1 hr (by decide)

/-- what holds at each round's head -/
structure Round (a m r s x t : Nat) : Prop where
  hr : r ≤ m
  hs : s < m
  hx : x < m
  ht : t < m
  er : x * a % m = r % m
  es : t * a % m = s % m
  eg : Nat.gcd r s = Nat.gcd m a
theorem Round.start (a m : Nat) (hm : 0 < m) (ha : a < m) : Round a m m a 0 (1 % m) := {
  hr := Nat.le_refl _
  hs := ha
  hx := hm
  ht := Nat.mod_lt _ hm
  er := by simp
  es := by rw [Nat.mod_mul_mod, Nat.one_mul]
  eg := rfl }
theorem Round.next {a m r s x t : Nat} (h : Round a m r s x t) (h0 : s ≠ 0) : Round a m s (r % s) t ((x + m - (r / s % m) * t % m) % m) := {
  hr := Nat.le_of_lt h.hs
  hs := Nat.lt_trans (Nat.mod_lt _ (Nat.pos_of_ne_zero h0)) h.hs
  hx := h.ht
  ht := Nat.mod_lt _ (Nat.lt_of_le_of_lt (Nat.zero_le _) h.hs)
  er := h.es
  es := FM.inv_step (Nat.lt_of_le_of_lt (Nat.zero_le _) h.hs) h.er h.es
  eg := by rw [← h.eg, Nat.gcd_comm r s, Nat.gcd_rec s r, Nat.gcd_comm] }

set_option maxHeartbeats 4000000 in
theorem inv_walk (a m : Nat) (hm : m < M256) (ha : a < m) (w : World) (R : Ending → Prop)
    (hok : ∀ x, x < m → x * a % m = 1 % m → Nat.gcd m a = 1 → R (.returned (.tuple #[u x, .int .i64 0])))
    (hno : Nat.gcd m a ≠ 1 → R (.returned (.tuple #[.agg #[.int .u64 0, .int .u64 0, .int .u64 0, .int .u64 0], .int .i64 5]))) :
    Calls Tryd.prog 43 #[u a, u m] w fun e w' => R e ∧ New w w' := by
  obtain ⟨q, eq⟩ : ∃ q, 1 / m = q := ⟨_, rfl⟩
  obtain ⟨o, eo⟩ : ∃ o, 1 % m = o := ⟨_, rfl⟩
  have R0 := Round.start a m (by omega) ha
  rw [eo] at R0
  have R0 := hide R0; have hm := hide hm; have ha := hide ha; have eq := hide eq; have eo := hide eo; have hok := hide hok; have hno := hide hno
  go_enter Tryd.func43, Tryd.ntmps43
  go_wp2_with fail
  generalize hW : World.alloc _ _ = W
  obtain ⟨N, B2, B3, B4, B18⟩ := boxes4 hW
  clear hW
  generalize q18 : w.heap.size + 1 + 1 + 1 = g18 at *
  generalize q4 : w.heap.size + 1 + 1 = g4 at *
  generalize q3 : w.heap.size + 1 = g3 at *
  have hL : Hid (w.heap.size < g3 ∧ g3 < g4 ∧ g4 < g18) := hide (by omega)
  clear q3 q4 q18
  try clear c2
  try clear l2
  try clear f2
  have c2 := B2.cell; have l2 := B2.lt
  try clear c3
  try clear l3
  try clear f3
  have c3 := B3.cell; have l3 := B3.lt
  try clear c4
  try clear l4
  try clear f4
  have c4 := B4.cell; have l4 := B4.lt
  try clear c18
  try clear l18
  try clear f18
  have c18 := B18.cell; have l18 := B18.lt
  refine (fault1 a m g18 _ (unhide hm) (unhide ha) _ B18).mono ?_
  rintro e w1 ⟨rfl, hb⟩
  have U : New W w1 := new_trans (by (repeat' (first | with_reducible exact new_refl _ | with_reducible assumption | with_reducible refine new_drewN ?_ _ | with_reducible refine new_drew ?_ | with_reducible refine new_alloc ?_ _ | with_reducible refine new_set ?_ ?_ _ | with_reducible refine new_freeze ?_ ?_ _ | with_reducible refine new_trans ?_ (by assumption) | (simp; done) | (simp; omega)))) hb
  have N : New w w1 := new_trans (by (repeat' (first | with_reducible exact new_refl _ | with_reducible assumption | with_reducible refine new_drewN ?_ _ | with_reducible refine new_drew ?_ | with_reducible refine new_alloc ?_ _ | with_reducible refine new_set ?_ ?_ _ | with_reducible refine new_freeze ?_ ?_ _ | with_reducible refine new_trans ?_ (by assumption) | (simp; done) | (simp; omega)))) hb
  have B2 := B2.up U
  have B3 := B3.up U
  have B4 := B4.up U
  try clear c2
  try clear l2
  try clear f2
  have c2 := B2.cell; have l2 := B2.lt
  try clear c3
  try clear l3
  try clear f3
  have c3 := B3.cell; have l3 := B3.lt
  try clear c4
  try clear l4
  try clear f4
  have c4 := B4.cell; have l4 := B4.lt
  clear hb U
  clear B18 c18 l18
  go_wp2_with fail
  refine (div_one m q o (unhide hm) (by have := unhide ha; omega) (unhide eq) (unhide eo) _).mono ?_
  rintro e w2 ⟨rfl, hb⟩
  have U : New w1 w2 := new_trans (by (repeat' (first | with_reducible exact new_refl _ | with_reducible assumption | with_reducible refine new_drewN ?_ _ | with_reducible refine new_drew ?_ | with_reducible refine new_alloc ?_ _ | with_reducible refine new_set ?_ ?_ _ | with_reducible refine new_freeze ?_ ?_ _ | with_reducible refine new_trans ?_ (by assumption) | (simp; done) | (simp; omega)))) hb
  have N : New w w2 := new_trans (by (repeat' (first | with_reducible exact new_refl _ | with_reducible assumption | with_reducible refine new_drewN ?_ _ | with_reducible refine new_drew ?_ | with_reducible refine new_alloc ?_ _ | with_reducible refine new_set ?_ ?_ _ | with_reducible refine new_freeze ?_ ?_ _ | with_reducible refine new_trans ?_ (by assumption) | (simp; done) | (simp; omega)))) hb
  have B2 := B2.up U
  have B3 := B3.up U
  have B4 := B4.up U
  try clear c2
  try clear l2
  try clear f2
  have c2 := B2.cell; have l2 := B2.lt
  try clear c3
  try clear l3
  try clear f3
  have c3 := B3.cell; have l3 := B3.lt
  try clear c4
  try clear l4
  try clear f4
  have c4 := B4.cell; have l4 := B4.lt
  clear hb U
  go_wp2_with fail
  generalize hZ : World.alloc _ _ = Z
  obtain ⟨NZ, B7, B8⟩ := boxes2 hZ
  have B2 := B2.up NZ; have B3 := B3.up NZ; have B4 := B4.up NZ; have N := new_trans N NZ
  have k38 : g3 < w2.heap.size + 1 := by omega
  have k48 : g4 < w2.heap.size + 1 := by omega
  have k04 : w.heap.size < g3 ∧ g3 < g4 := ⟨by have := unhide hL; omega, by have := unhide hL; omega⟩
  clear hZ NZ l2 l3 l4 c2 c3 c4 B7
  generalize w2.heap.size + 1 = g8 at *
  have z3 := B3.lt; have z4' := B4.lt; have z8 := B8.lt
  have l8 := B8.lt
  apply region_okA
  case hm => kernel_rfl
  case hall =>
    apply allok_cons
    · exact ok_val _ fun ρ w' hN hc hF h0 hp => by have h3 := h0 3 rfl; (conv at h3 => (rhs; whnf)); have c := Blk.cell (B3.up hN); simp [execOp, go_sem, hc, hF, h3, c] <;> rfl
    apply allok_cons
    · exact ok_val _ fun ρ w' hN hc hF h0 hp => by have h2 := h0 2 rfl; (conv at h2 => (rhs; whnf)); have c := Blk.cell (B2.up hN); simp [execOp, go_sem, hc, hF, h2, c] <;> rfl
    apply allok_cons
    · exact ok_val _ fun ρ w' hN hc hF h0 hp => by simp [execOp, go_sem, hc, hF] <;> rfl
    apply allok_cons
    · exact ok_alloc _ _ rfl zero_u
    apply allok_cons
    · exact ok_alloc _ _ rfl zero_u
    apply allok_cons
    · exact ok_alloc _ _ rfl zero_u
    apply allok_cons
    · exact ok_store _ 3 10 31 0 _ _ rfl rfl rfl rfl rfl rfl rfl rfl size_u rfl (by simp [Value.oneCell'])
    apply allok_cons
    · exact ok_store _ 4 11 32 1 _ _ rfl rfl rfl rfl rfl rfl rfl rfl size_u rfl (by simp [Value.oneCell'])
    apply allok_cons
    · exact ok_store _ 5 12 33 2 _ _ rfl rfl rfl rfl rfl rfl rfl rfl size_u rfl (by simp [Value.oneCell'])
    exact allok_nil
  case hops => kernel_rfl
  case hlen => rfl
  case hputs => rfl
  intro g v1 hN1 hB hD
  simp [frame, gives, Act.put]
  have kk10 := (hB 3 _ _ 6 _ rfl rfl).1
  have B10 : Blk v1 (g 3) _ _ := (hB 3 _ _ 6 _ rfl rfl).2
  have kk11 := (hB 4 _ _ 7 _ rfl rfl).1
  have B11 : Blk v1 (g 4) _ _ := (hB 4 _ _ 7 _ rfl rfl).2
  have kk12 := (hB 5 _ _ 8 _ rfl rfl).1
  have B12 : Blk v1 (g 5) _ _ := (hB 5 _ _ 8 _ rfl rfl).2
  have B3 := B3.up hN1
  have B4 := B4.up hN1
  have B8 := B8.up hN1
  have N := new_trans N hN1
  have d3_4 := hD 3 4 _ _ _ _ rfl rfl (by decide)
  have d3_5 := hD 3 5 _ _ _ _ rfl rfl (by decide)
  have d4_5 := hD 4 5 _ _ _ _ rfl rfl (by decide)
  generalize g 3 = p10 at *
  generalize g 4 = p11 at *
  generalize g 5 = p12 at *
  clear hB hD g hN1
  try clear c3
  try clear l3
  have c3 := B3.cell; have l3 := B3.lt
  try clear c4
  try clear l4
  have c4 := B4.cell; have l4 := B4.lt
  try clear c8
  try clear l8
  have c8 := B8.cell; have l8 := B8.lt
  try clear c10
  try clear l10
  have c10 := B10.cell; have l10 := B10.lt
  try clear c11
  try clear l11
  have c11 := B11.cell; have l11 := B11.lt
  try clear c12
  try clear l12
  have c12 := B12.cell; have l12 := B12.lt
  have D : Hid (p10 ≠ p11 ∧ p10 ≠ p12 ∧ p11 ≠ p12 ∧ g3 < p10 ∧ g3 < p11 ∧ g3 < p12 ∧ g4 < p10 ∧ g4 < p11 ∧ g4 < p12 ∧ g8 < p10 ∧ g8 < p11 ∧ g8 < p12 ∧ g3 < g4 ∧ g4 < g8 ∧ w.heap.size < g3) := hide ⟨d3_4, d3_5, d4_5, by omega, by omega, by omega, by omega, by omega, by omega, by omega, by omega, by omega, by omega, by omega, by omega⟩
  clear d3_4 d3_5 d4_5 z3 z4' z8 kk10 kk11 kk12 k04 k38 k48 hL l3 l4 l8 l10 l11 l12 c3 c4 c8 c10 c11 c12
  have B12 : Blk v1 p12 24 (uc 0) := by rw [uc_zero]; exact B12
  go_wp2_with fail
  go_loopw [15] (fun _ wr => ∃ r s x t : Nat, Blk wr p10 24 (uc r) ∧ Blk wr p11 24 (uc s) ∧ Blk wr p12 24 (uc x) ∧ Blk wr g8 24 (uc t) ∧ Blk wr g3 24 (uc m) ∧ Blk wr g4 24 z4 ∧ New w wr ∧ Hid (Round a m r s x t)) (fun _ wr => numAt wr p11)
  case atStart => exact ⟨m, a, 0, o, B10, B11, B12, B8, B3, B4, N, R0⟩
  case round =>
    clear B10 B11 B12 B8 B3 B4 N R0
    obtain ⟨r, s, x, t, B10, B11, B12, B8, B3, B4, N, R0⟩ := hrel
    have hs' : s < M256 := by have := (unhide R0).hs; have := unhide hm; omega
    by_cases h0 : s = 0
    · subst h0
      have c11 : ∀ i, wr.cell? ⟨p11, i, none⟩ = z4[i]? := by have := B11.cell; rw [uc_zero] at this; exact this
      have c10 := B10.cell; have c4 := B4.cell; have c12 := B12.cell; have f4 := B4.free
      have eg := (unhide R0).eg
      rw [Nat.gcd_zero_right] at eg
      have hrM : r < M256 := by have := (unhide R0).hr; have := unhide hm; omega
      by_cases h1 : r = 1
      · have hR := unhide hok x (unhide R0).hx (by have := (unhide R0).er; rw [h1] at this; exact this) (by rw [← eg, h1])
        have hR := hide hR
        subst h1
        have c10 : ∀ i, wr.cell? ⟨p10, i, none⟩ = (#[.int .u64 1, .int .u64 0, .int .u64 0, .int .u64 0] : Array Value)[i]? := by have := B10.cell; rw [show uc 1 = #[.int .u64 1, .int .u64 0, .int .u64 0, .int .u64 0] from Value.agg.inj u_one] at this; exact this
        clear hs' eg hrM
        go_wp2
        have c := (B4.set4 (.int .u64 (lim x 0)) (.int .u64 (lim x 1)) (.int .u64 (lim x 2)) (.int .u64 (lim x 3))).cell
        exact bodyPost_ret (v := .tuple #[u x, .int .i64 0]) (by simp [results, Tryd.results43, go_sem, c]) rfl ⟨unhide hR, new_set4 N (g := g4) (by have := unhide D; omega) _ _ _ _⟩
      · have hR := hide (unhide hno (by rw [← eg]; exact h1))
        have e1 := one_iff r hrM
        rw [decide_eq_false h1] at e1
        clear hs' eg hrM h1
        go_wp2
        have c := (B4.set4 (.int .u64 0) (.int .u64 0) (.int .u64 0) (.int .u64 0)).cell
        exact bodyPost_ret (v := .tuple #[.agg #[.int .u64 0, .int .u64 0, .int .u64 0, .int .u64 0], .int .i64 5]) (by simp [results, Tryd.results43, go_sem, c]) rfl ⟨unhide hR, new_set4 N (g := g4) (by have := unhide D; omega) _ _ _ _⟩
    · have ez := zero_iff s hs'
      rw [decide_eq_false h0] at ez
      have R1 := hide ((unhide R0).next h0)
      have hrM : r < M256 := by have := (unhide R0).hr; have := unhide hm; omega
      have m0 : 0 < m := by have := unhide ha; omega
      have hxm := hide (unhide R0).hx; have htm := hide (unhide R0).ht
      have hms := hide (numAt_is B11 hs')
      obtain ⟨qq, e1⟩ : ∃ q, r / s = q := ⟨_, rfl⟩
      obtain ⟨l, e2⟩ : ∃ l, r % s = l := ⟨_, rfl⟩
      obtain ⟨q2, e3⟩ : ∃ q, qq / m = q := ⟨_, rfl⟩
      obtain ⟨qm, e4⟩ : ∃ l, qq % m = l := ⟨_, rfl⟩
      obtain ⟨y, e5⟩ : ∃ y, qm * t % m = y := ⟨_, rfl⟩
      obtain ⟨z, e6⟩ : ∃ z, (x + m - y) % m = z := ⟨_, rfl⟩
      rw [e1, e2, e4, e5, e6] at R1
      have hl : l < s := by rw [← e2]; exact Nat.mod_lt _ (Nat.pos_of_ne_zero h0)
      have hqq : qq < M256 := by rw [← e1]; exact Nat.lt_of_le_of_lt (Nat.div_le_self _ _) hrM
      have hqm : qm < m := by rw [← e4]; exact Nat.mod_lt _ m0
      have hy : y < m := by rw [← e5]; exact Nat.mod_lt _ m0
      have s0 := hide (Nat.pos_of_ne_zero h0); have m0 := hide m0; have hrM := hide hrM; have hs2 := hide hs'; have hl := hide hl; have hqq := hide hqq; have hqm := hide hqm; have hy := hide hy
      have e1 := hide e1; have e2 := hide e2; have e3 := hide e3; have e4 := hide e4; have e5 := hide e5; have e6 := hide e6
      clear hs' h0 R0
      have c3 := B3.cell; have c4 := B4.cell; have c8 := B8.cell; have c10 := B10.cell; have c11 := B11.cell; have c12 := B12.cell
      have l3 := B3.lt; have l4 := B4.lt; have l8 := B8.lt; have l10 := B10.lt; have l11 := B11.lt; have l12 := B12.lt
      go_wp2_with fail
      refine (div_to r s qq l (unhide hrM) (unhide hs2) (unhide s0) (unhide e1) (unhide e2) _).mono ?_
      rintro e v3 ⟨rfl, hb⟩
      have U : New wr v3 := new_trans (by (repeat' (first | with_reducible exact new_refl _ | with_reducible assumption | with_reducible refine new_drewN ?_ _ | with_reducible refine new_drew ?_ | with_reducible refine new_alloc ?_ _ | with_reducible refine new_set ?_ ?_ _ | with_reducible refine new_freeze ?_ ?_ _ | with_reducible refine new_trans ?_ (by assumption) | (simp; done) | (simp; omega)))) hb
      have N : New w v3 := new_trans (by (repeat' (first | with_reducible exact new_refl _ | with_reducible assumption | with_reducible refine new_drewN ?_ _ | with_reducible refine new_drew ?_ | with_reducible refine new_alloc ?_ _ | with_reducible refine new_set ?_ ?_ _ | with_reducible refine new_freeze ?_ ?_ _ | with_reducible refine new_trans ?_ (by assumption) | (simp; done) | (simp; omega)))) hb
      have B3 := B3.up U
      have B4 := B4.up U
      have B8 := B8.up U
      have B10 := B10.up U
      have B11 := B11.up U
      have B12 := B12.up U
      try clear c3
      try clear l3
      try clear f3
      have c3 := B3.cell; have l3 := B3.lt
      try clear c4
      try clear l4
      try clear f4
      have c4 := B4.cell; have l4 := B4.lt
      try clear c8
      try clear l8
      try clear f8
      have c8 := B8.cell; have l8 := B8.lt
      try clear c10
      try clear l10
      try clear f10
      have c10 := B10.cell; have l10 := B10.lt
      try clear c11
      try clear l11
      try clear f11
      have c11 := B11.cell; have l11 := B11.lt
      try clear c12
      try clear l12
      try clear f12
      have c12 := B12.cell; have l12 := B12.lt
      clear hb U
      go_wp2_with fail
      generalize hY : World.alloc _ _ = Y
      obtain ⟨NZ, B13, B14⟩ := boxes2 hY
      have B3 := B3.up NZ; have B4 := B4.up NZ; have B8 := B8.up NZ; have B10 := B10.up NZ; have B11 := B11.up NZ; have B12 := B12.up NZ
      have hb13 : w.heap.size ≤ v3.heap.size := N.size
      have hL : Hid (w.heap.size ≤ v3.heap.size ∧ g3 < v3.heap.size ∧ g4 < v3.heap.size ∧ g8 < v3.heap.size ∧ p10 < v3.heap.size ∧ p11 < v3.heap.size ∧ p12 < v3.heap.size) := hide ⟨hb13, l3, l4, l8, l10, l11, l12⟩
      have N := new_trans N NZ
      clear hY NZ l3 l4 l8 l10 l11 l12 c3 c4 c8 c10 c11 c12 hb13
      have hL2 : Hid (v3.heap.size < v3.heap.size + 1) := hide (Nat.lt_succ_self _)
      generalize v3.heap.size + 1 = g14 at *
      generalize v3.heap.size = g13 at *
      have c3 := B3.cell; have c13 := B13.cell; have l3 := B3.lt
      refine (div_to qq m q2 qm (unhide hqq) (unhide hm) (unhide m0) (unhide e3) (unhide e4) _).mono ?_
      rintro e v4 ⟨rfl, hb⟩
      have U : New Y v4 := new_trans (by (repeat' (first | with_reducible exact new_refl _ | with_reducible assumption | with_reducible refine new_drewN ?_ _ | with_reducible refine new_drew ?_ | with_reducible refine new_alloc ?_ _ | with_reducible refine new_set ?_ ?_ _ | with_reducible refine new_freeze ?_ ?_ _ | with_reducible refine new_trans ?_ (by assumption) | (simp; done) | (simp; omega)))) hb
      have N : New w v4 := new_trans (by (repeat' (first | with_reducible exact new_refl _ | with_reducible assumption | with_reducible refine new_drewN ?_ _ | with_reducible refine new_drew ?_ | with_reducible refine new_alloc ?_ _ | with_reducible refine new_set ?_ ?_ _ | with_reducible refine new_freeze ?_ ?_ _ | with_reducible refine new_trans ?_ (by assumption) | (simp; done) | (simp; omega)))) hb
      have B3 := B3.up U
      have B4 := B4.up U
      have B8 := B8.up U
      have B10 := B10.up U
      have B11 := B11.up U
      have B12 := B12.up U
      have B13 := B13.up U
      have B14 := B14.up U
      try clear c3
      try clear l3
      try clear f3
      have c3 := B3.cell; have l3 := B3.lt
      try clear c4
      try clear l4
      try clear f4
      have c4 := B4.cell; have l4 := B4.lt
      try clear c8
      try clear l8
      try clear f8
      have c8 := B8.cell; have l8 := B8.lt
      try clear c10
      try clear l10
      try clear f10
      have c10 := B10.cell; have l10 := B10.lt
      try clear c11
      try clear l11
      try clear f11
      have c11 := B11.cell; have l11 := B11.lt
      try clear c12
      try clear l12
      try clear f12
      have c12 := B12.cell; have l12 := B12.lt
      try clear c13
      try clear l13
      try clear f13
      have c13 := B13.cell; have l13 := B13.lt
      try clear c14
      try clear l14
      try clear f14
      have c14 := B14.cell; have l14 := B14.lt
      clear hb U
      have f13 := B13.free
      clear c3 c4 c8 c10 c11 c12 c14 l3 l4 l8 l10 l11 l12 l13 l14
      go_wp2_with fail
      have hL3 := hL; have hL : Hid _ := hide (⟨unhide hL3, unhide hL2, unhide D⟩ : _ ∧ _ ∧ _)
      have B13 : Blk _ _ _ (uc (qm)) := B13.set4 (.int .u64 (lim (qm) 0)) (.int .u64 (lim (qm) 1)) (.int .u64 (lim (qm) 2)) (.int .u64 (lim (qm) 3))
      have B3 := B3.far4 (g' := g13) (by have := unhide hL; omega) (.int .u64 (lim (qm) 0)) (.int .u64 (lim (qm) 1)) (.int .u64 (lim (qm) 2)) (.int .u64 (lim (qm) 3))
      have B4 := B4.far4 (g' := g13) (by have := unhide hL; omega) (.int .u64 (lim (qm) 0)) (.int .u64 (lim (qm) 1)) (.int .u64 (lim (qm) 2)) (.int .u64 (lim (qm) 3))
      have B8 := B8.far4 (g' := g13) (by have := unhide hL; omega) (.int .u64 (lim (qm) 0)) (.int .u64 (lim (qm) 1)) (.int .u64 (lim (qm) 2)) (.int .u64 (lim (qm) 3))
      have B10 := B10.far4 (g' := g13) (by have := unhide hL; omega) (.int .u64 (lim (qm) 0)) (.int .u64 (lim (qm) 1)) (.int .u64 (lim (qm) 2)) (.int .u64 (lim (qm) 3))
      have B11 := B11.far4 (g' := g13) (by have := unhide hL; omega) (.int .u64 (lim (qm) 0)) (.int .u64 (lim (qm) 1)) (.int .u64 (lim (qm) 2)) (.int .u64 (lim (qm) 3))
      have B12 := B12.far4 (g' := g13) (by have := unhide hL; omega) (.int .u64 (lim (qm) 0)) (.int .u64 (lim (qm) 1)) (.int .u64 (lim (qm) 2)) (.int .u64 (lim (qm) 3))
      have B14 := B14.far4 (g' := g13) (by have := unhide hL; omega) (.int .u64 (lim (qm) 0)) (.int .u64 (lim (qm) 1)) (.int .u64 (lim (qm) 2)) (.int .u64 (lim (qm) 3))
      have N := new_set4 N (g := g13) (by have := unhide hL; omega) (.int .u64 (lim (qm) 0)) (.int .u64 (lim (qm) 1)) (.int .u64 (lim (qm) 2)) (.int .u64 (lim (qm) 3))
      try clear c13
      try clear l13
      try clear f13
      try clear c3
      try clear l3
      try clear f3
      try clear c4
      try clear l4
      try clear f4
      try clear c8
      try clear l8
      try clear f8
      try clear c10
      try clear l10
      try clear f10
      try clear c11
      try clear l11
      try clear f11
      try clear c12
      try clear l12
      try clear f12
      try clear c14
      try clear l14
      try clear f14
      generalize World.setCell _ _ _ = v5 at *
      try clear c13
      try clear l13
      try clear f13
      have c13 := B13.cell; have l13 := B13.lt
      try clear c3
      try clear l3
      try clear f3
      have c3 := B3.cell; have l3 := B3.lt
      try clear c4
      try clear l4
      try clear f4
      have c4 := B4.cell; have l4 := B4.lt
      try clear c8
      try clear l8
      try clear f8
      have c8 := B8.cell; have l8 := B8.lt
      try clear c10
      try clear l10
      try clear f10
      have c10 := B10.cell; have l10 := B10.lt
      try clear c11
      try clear l11
      try clear f11
      have c11 := B11.cell; have l11 := B11.lt
      try clear c12
      try clear l12
      try clear f12
      have c12 := B12.cell; have l12 := B12.lt
      try clear c14
      try clear l14
      try clear f14
      have c14 := B14.cell; have l14 := B14.lt
      have f13 := B13.free
      have f3 := B3.free
      have f4 := B4.free
      have f8 := B8.free
      have f10 := B10.free
      have f11 := B11.free
      have f12 := B12.free
      have f14 := B14.free
      have D' := unhide hL
      refine region_set (by kernel_rfl) [.inl (u s), .inl (u l), .inr (.inr (0, uc s)), .inr (.inr (1, uc l))] [p10, p11] (by simp; try omega) rfl (by kernel_rfl) rfl ?_ ?_
      · refine ⟨?_, ?_, ?_, ?_, trivial⟩
        · exact set_read _ fun ρ w' hk hI hc h0 hp => by have h11 := h0 11 rfl; (conv at h11 => (rhs; whnf)); have c := Blk.cell (hI 1 _ 3 _ rfl rfl rfl _ _ B11); simp [execOp, go_sem, hc, h11, c] <;> rfl
        · exact set_val _ fun ρ w' hk hc h0 hp => by have h14 := h0 14 rfl; (conv at h14 => (rhs; whnf)); have c := Blk.cell ((hk.block _ B14.lt (by simp; try omega)).trans B14); simp [execOp, go_sem, hc, h14, c] <;> rfl
        · exact set_store 24 0 _ 10 51 0 _ _ _ rfl rfl rfl B10 rfl rfl rfl rfl rfl size_u rfl (by simp [Value.oneCell'])
        · exact set_store 24 1 _ 11 52 1 _ _ _ rfl rfl rfl B11 rfl rfl rfl rfl rfl size_u rfl (by simp [Value.oneCell'])
      intro v6 hK hB
      have B3 : Blk v6 _ _ _ := (hK.block _ B3.lt (by simp; try omega)).trans B3
      have B4 : Blk v6 _ _ _ := (hK.block _ B4.lt (by simp; try omega)).trans B4
      have B8 : Blk v6 _ _ _ := (hK.block _ B8.lt (by simp; try omega)).trans B8
      have B12 : Blk v6 _ _ _ := (hK.block _ B12.lt (by simp; try omega)).trans B12
      have B13 : Blk v6 _ _ _ := (hK.block _ B13.lt (by simp; try omega)).trans B13
      have B10 : Blk v6 _ _ _ := hB 0 _ 2 _ _ _ rfl rfl B10
      have B11 : Blk v6 _ _ _ := hB 1 _ 3 _ _ _ rfl rfl B11
      have N := hK.since N (by simp; try omega)
      clear hK hB
      simp [frame, gives, Act.put]
      try clear c3
      try clear l3
      try clear f3
      have c3 := B3.cell; have l3 := B3.lt; have f3 := B3.free
      try clear c4
      try clear l4
      try clear f4
      have c4 := B4.cell; have l4 := B4.lt; have f4 := B4.free
      try clear c8
      try clear l8
      try clear f8
      have c8 := B8.cell; have l8 := B8.lt; have f8 := B8.free
      try clear c12
      try clear l12
      try clear f12
      have c12 := B12.cell; have l12 := B12.lt; have f12 := B12.free
      try clear c13
      try clear l13
      try clear f13
      have c13 := B13.cell; have l13 := B13.lt; have f13 := B13.free
      try clear c10
      try clear l10
      try clear f10
      have c10 := B10.cell; have l10 := B10.lt; have f10 := B10.free
      try clear c11
      try clear l11
      try clear f11
      have c11 := B11.cell; have l11 := B11.lt; have f11 := B11.free
      go_wp2_with fail
      refine region_set (by kernel_rfl) [.inl (u t), .inl (u x), .inl (u qm), .inl (u t), .inl (u m), .inl (u y), .inl (u m), .inl (u z), .inr (.inr (0, uc t)), .inr (.inr (1, uc z))] [p12, g8] (by simp; try omega) rfl (by kernel_rfl) rfl ?_ ?_
      · refine ⟨?_, ?_, ?_, ?_, ?_, ?_, ?_, ?_, ?_, ?_, trivial⟩
        · exact set_read _ fun ρ w' hk hI hc h0 hp => by have h8 := h0 8 rfl; (conv at h8 => (rhs; whnf)); have c := Blk.cell (hI 1 _ 9 _ rfl rfl rfl _ _ B8); simp [execOp, go_sem, hc, h8, c] <;> rfl
        · exact set_read _ fun ρ w' hk hI hc h0 hp => by have h12 := h0 12 rfl; (conv at h12 => (rhs; whnf)); have c := Blk.cell (hI 0 _ 8 _ rfl rfl rfl _ _ B12); simp [execOp, go_sem, hc, h12, c] <;> rfl
        · exact set_val _ fun ρ w' hk hc h0 hp => by have h13 := h0 13 rfl; (conv at h13 => (rhs; whnf)); have c := Blk.cell ((hk.block _ B13.lt (by simp; try omega)).trans B13); simp [execOp, go_sem, hc, h13, c] <;> rfl
        · exact set_read _ fun ρ w' hk hI hc h0 hp => by have h8 := h0 8 rfl; (conv at h8 => (rhs; whnf)); have c := Blk.cell (hI 1 _ 9 _ rfl rfl rfl _ _ B8); simp [execOp, go_sem, hc, h8, c] <;> rfl
        · exact set_val _ fun ρ w' hk hc h0 hp => by have h3 := h0 3 rfl; (conv at h3 => (rhs; whnf)); have c := Blk.cell ((hk.block _ B3.lt (by simp; try omega)).trans B3); simp [execOp, go_sem, hc, h3, c] <;> rfl
        · refine set_call 68 _ _ _ _ _ rfl Tryd.func68 (by kernel_rfl) (by kernel_rfl) ?_ (fmul_to qm t m y (unhide hm) (unhide hqm) (Nat.lt_trans (unhide htm) (unhide hm)) (unhide e5)); intro a h0 hp; have h55 := hp 2 _ _ rfl rfl rfl; have h56 := hp 3 _ _ rfl rfl rfl; have h57 := hp 4 _ _ rfl rfl rfl; simp [h55, h56, h57]
        · exact set_val _ fun ρ w' hk hc h0 hp => by have h3 := h0 3 rfl; (conv at h3 => (rhs; whnf)); have c := Blk.cell ((hk.block _ B3.lt (by simp; try omega)).trans B3); simp [execOp, go_sem, hc, h3, c] <;> rfl
        · refine set_call 67 _ _ _ _ _ rfl Tryd.func67 (by kernel_rfl) (by kernel_rfl) ?_ (fsub_to x y m z (unhide hm) (unhide hxm) (unhide hy) (unhide e6)); intro a h0 hp; have h54 := hp 1 _ _ rfl rfl rfl; have h58 := hp 5 _ _ rfl rfl rfl; have h59 := hp 6 _ _ rfl rfl rfl; simp [h54, h58, h59]
        · exact set_store 24 0 _ 12 53 0 _ _ _ rfl rfl rfl B12 rfl rfl rfl rfl rfl size_u rfl (by simp [Value.oneCell'])
        · exact set_store 24 1 _ 8 60 7 _ _ _ rfl rfl rfl B8 rfl rfl rfl rfl rfl size_u rfl (by simp [Value.oneCell'])
      intro v7 hK hB
      have B3 : Blk v7 _ _ _ := (hK.block _ B3.lt (by simp; try omega)).trans B3
      have B4 : Blk v7 _ _ _ := (hK.block _ B4.lt (by simp; try omega)).trans B4
      have B10 : Blk v7 _ _ _ := (hK.block _ B10.lt (by simp; try omega)).trans B10
      have B11 : Blk v7 _ _ _ := (hK.block _ B11.lt (by simp; try omega)).trans B11
      have B12 : Blk v7 _ _ _ := hB 0 _ 8 _ _ _ rfl rfl B12
      have B8 : Blk v7 _ _ _ := hB 1 _ 9 _ _ _ rfl rfl B8
      have N := hK.since N (by simp; try omega)
      clear hK hB
      simp [frame, gives, Act.put]
      try clear c3
      try clear l3
      try clear f3
      have c3 := B3.cell; have l3 := B3.lt; have f3 := B3.free
      try clear c4
      try clear l4
      try clear f4
      have c4 := B4.cell; have l4 := B4.lt; have f4 := B4.free
      try clear c10
      try clear l10
      try clear f10
      have c10 := B10.cell; have l10 := B10.lt; have f10 := B10.free
      try clear c11
      try clear l11
      try clear f11
      have c11 := B11.cell; have l11 := B11.lt; have f11 := B11.free
      try clear c12
      try clear l12
      try clear f12
      have c12 := B12.cell; have l12 := B12.lt; have f12 := B12.free
      try clear c8
      try clear l8
      try clear f8
      have c8 := B8.cell; have l8 := B8.lt; have f8 := B8.free
      clear D' hL
      go_wp2
      refine ⟨⟨s, l, t, z, B10, B11, B12, B8, B3, B4, N, R1⟩, ?_⟩
      rw [unhide hms, numAt_is B11 (Nat.lt_trans (unhide hl) (unhide hs2))]
      exact unhide hl

theorem inv_ok (a m i : Nat) (hm : m < M256) (ha : a < m) (hi : i < m) (ei : i * a % m = 1 % m) (hg : Nat.gcd m a = 1) (w : World) :
    Calls Tryd.prog 43 #[u a, u m] w fun e w' => e = .returned (.tuple #[u i, .int .i64 0]) ∧ New w w' :=
  inv_walk a m hm ha w _ (fun x hx ex _ => by rw [FM.inv_uniq hx hi (by rw [Nat.mul_comm]; exact ex) (by rw [Nat.mul_comm]; exact ei)]) (fun h => absurd hg h)
end Go.Proofs.YtpdhbddkcnffbaaDoor

namespace Go.Proofs.YtpdhbddkcnffbaaDoor
open Go.RowKit
set_option linter.unusedVariables false
set_option linter.unusedVariables false
set_option maxRecDepth 100000

theorem U_zero : U 0 = .agg [.int .u64 0, .int .u64 0, .int .u64 0, .int .u64 0] := rfl
theorem p_wadd (a b s : Nat) (o : Bool) (ha : a < M256) (hb : b < M256) (hs : (a + b) % M256 = s) (ho : decide (M256 ≤ a + b) = o) : Pur Tryd.prog 39 [U a, U b] (.tup [U s, .bool o]) :=
  pur_of_calls (vs := [u a, u b]) rfl rfl rfl (add_is a b s o ha hb hs ho)
theorem p_wsub (a b s : Nat) (o : Bool) (ha : a < M256) (hb : b < M256) (hs : (a + M256 - b) % M256 = s) (ho : decide (a < b) = o) : Pur Tryd.prog 22 [U a, U b] (.tup [U s, .bool o]) :=
  pur_of_calls (vs := [u a, u b]) rfl rfl rfl (sub_is a b s o ha hb hs ho)
theorem p_cmp (a b : Nat) (c : Int) (ha : a < M256) (hb : b < M256) (hc : cmpI a b = c) : Pur Tryd.prog 23 [U a, U b] (.int .i64 c) :=
  pur_of_calls (vs := [u a, u b]) rfl rfl rfl (cmp_is a b c ha hb hc)
theorem p_div (a b q r : Nat) (ha : a < M256) (hb : b < M256) (hb0 : 0 < b) (hq : a / b = q) (hr : a % b = r) : Pur Tryd.prog 17 [U a, U b] (.tup [U q, U r, .int .i64 0]) :=
  pur_of_calls (vs := [u a, u b]) rfl rfl rfl (div_to a b q r ha hb hb0 hq hr)
theorem p_fadd (a b m r : Nat) (hm : m < M256) (ha : a < m) (hb : b < m) (hr : (a + b) % m = r) : Pur Tryd.prog 59 [U a, U b, U m] (.tup [U r, .int .i64 0]) :=
  pur_of_calls (vs := [u a, u b, u m]) rfl rfl rfl (Add_to a b m r hm ha hb hr)
theorem p_fsub (a b m r : Nat) (hm : m < M256) (ha : a < m) (hb : b < m) (hr : (a + m - b) % m = r) : Pur Tryd.prog 45 [U a, U b, U m] (.tup [U r, .int .i64 0]) :=
  pur_of_calls (vs := [u a, u b, u m]) rfl rfl rfl (Sub_to a b m r hm ha hb hr)
theorem p_fmul (a b m r : Nat) (hm : m < M256) (ha : a < m) (hb : b < m) (hr : a * b % m = r) : Pur Tryd.prog 44 [U a, U b, U m] (.tup [U r, .int .i64 0]) :=
  pur_of_calls (vs := [u a, u b, u m]) rfl rfl rfl (Mul_to a b m r hm ha hb hr)
theorem p_fpow (a x m r : Nat) (hm : m < M256) (ha : a < m) (hx : x < M256) (er : a ^ x % m = r) : Pur Tryd.prog 64 [U a, U x, U m] (.tup [U r, .int .i64 0]) :=
  pur_of_calls (vs := [u a, u x, u m]) rfl rfl rfl (Pow_to a x m r hm ha hx er)
theorem p_finv (a m i : Nat) (hm : m < M256) (ha : a < m) (hi : i < m) (ei : i * a % m = 1 % m) (hg : Nat.gcd m a = 1) : Pur Tryd.prog 43 [U a, U m] (.tup [U i, .int .i64 0]) :=
  pur_of_calls (vs := [u a, u m]) rfl rfl rfl (inv_ok a m i hm ha hi ei hg)
end Go.Proofs.YtpdhbddkcnffbaaDoor
