/- package field: add and sub by a modulus, the bits of a number, and what a modulus is checked against. -/
import Derived.Test.YtcfefmbbbfdppaaGreatDoorSLaw
import Derived.Test.YtcfefmbbbfdppaaGreatDoorSLoad5
import Derived.Test.YtcfefmbbbfdppaaGreatDoorSReg
namespace Go.Proofs.YtcfefmbbbfdppaaGreatDoor
open Go.RowKit
set_option linter.unusedVariables false
set_option maxRecDepth 100000
set_option linter.unusedSimpArgs false
set_option maxHeartbeats 1000000 in
theorem fadd_walk (a b m s t r : Nat) (o o' : Bool) (c : Int) (ha : a < M256) (hb : b < M256) (hm : m < M256) (hs : s < M256)
    (e1 : (a + b) % M256 = s) (e2 : decide (M256 ≤ a + b) = o) (e3 : cmpI s m = c) (e4 : (s + M256 - m) % M256 = t) (e5 : decide (s < m) = o')
    (hr : (o = true ∧ r = t) ∨ (o = false ∧ 0 ≤ c ∧ r = t) ∨ (o = false ∧ c < 0 ∧ r = s)) (w : World) :
    Calls Tryz.prog 101 #[u a, u b, u m] w fun e w' => e = .returned (u r) ∧ New w w' := by
  have e1 := hide e1; have e2 := hide e2; have e3 := hide e3; have e4 := hide e4; have e5 := hide e5; have ha := hide ha; have hb := hide hb; have hm := hide hm; have hs := hide hs
  rcases hr with ⟨rfl, rfl⟩ | ⟨rfl, hc, rfl⟩ | ⟨rfl, hc, rfl⟩
  · go_enter Tryz.func101, Tryz.ntmps101
    go_wp2_with fail
    generalize hW : World.alloc _ _ = W
    obtain ⟨N, B3, B4, B5, B6⟩ := boxes4 hW
    clear hW
    generalize q6 : w.heap.size + 1 + 1 + 1 = g6 at *
    generalize q5 : w.heap.size + 1 + 1 = g5 at *
    generalize q4 : w.heap.size + 1 = g4 at *
    have hL : Hid (w.heap.size < g4 ∧ g4 < g5 ∧ g5 < g6) := hide (by omega)
    clear q4 q5 q6
    try clear c3
    try clear l3
    try clear f3
    have c3 := B3.cell; have l3 := B3.lt
    try clear c4
    try clear l4
    try clear f4
    have c4 := B4.cell; have l4 := B4.lt
    try clear c5
    try clear l5
    try clear f5
    have c5 := B5.cell; have l5 := B5.lt
    try clear c6
    try clear l6
    try clear f6
    have c6 := B6.cell; have l6 := B6.lt
    refine (add_is a b s true (unhide ha) (unhide hb) (unhide e1) (unhide e2) _).mono ?_
    rintro e w1 ⟨rfl, hb⟩
    have U : New W w1 := new_trans (by (repeat' (first | with_reducible exact new_refl _ | with_reducible assumption | with_reducible refine new_drewN ?_ _ | with_reducible refine new_drew ?_ | with_reducible refine new_alloc ?_ _ | with_reducible refine new_set ?_ ?_ _ | with_reducible refine new_freeze ?_ ?_ _ | with_reducible refine new_trans ?_ (by assumption) | (simp; done) | (simp; omega)))) hb
    have N : New w w1 := new_trans (by (repeat' (first | with_reducible exact new_refl _ | with_reducible assumption | with_reducible refine new_drewN ?_ _ | with_reducible refine new_drew ?_ | with_reducible refine new_alloc ?_ _ | with_reducible refine new_set ?_ ?_ _ | with_reducible refine new_freeze ?_ ?_ _ | with_reducible refine new_trans ?_ (by assumption) | (simp; done) | (simp; omega)))) hb
    have B3 := B3.up U
    have B4 := B4.up U
    have B5 := B5.up U
    have B6 := B6.up U
    try clear c3
    try clear l3
    try clear f3
    have c3 := B3.cell; have l3 := B3.lt
    try clear c4
    try clear l4
    try clear f4
    have c4 := B4.cell; have l4 := B4.lt
    try clear c5
    try clear l5
    try clear f5
    have c5 := B5.cell; have l5 := B5.lt
    try clear c6
    try clear l6
    try clear f6
    have c6 := B6.cell; have l6 := B6.lt
    clear hb U
    go_wp2_with fail
    have m7 := hide (Nat.le_trans N.size (Nat.le_add_right _ 0) : w.heap.size ≤ w1.heap.size)
    have n6_7 := Nat.ne_of_lt (Nat.lt_of_lt_of_le B6.lt (Nat.le_add_right _ 0) : _ < w1.heap.size)
    refine (sub_is s m r o' (unhide hs) (unhide hm) (unhide e4) (unhide e5) _).mono ?_
    rintro e w2 ⟨rfl, hb⟩
    have U : New w1 w2 := new_trans (by (repeat' (first | with_reducible exact new_refl _ | with_reducible assumption | with_reducible refine new_drewN ?_ _ | with_reducible refine new_drew ?_ | with_reducible refine new_alloc ?_ _ | with_reducible refine new_set ?_ ?_ _ | with_reducible refine new_freeze ?_ ?_ _ | with_reducible refine new_trans ?_ (by assumption) | (simp; done) | (simp; omega)))) hb
    have N : New w w2 := new_trans (by (repeat' (first | with_reducible exact new_refl _ | with_reducible assumption | with_reducible refine new_drewN ?_ _ | with_reducible refine new_drew ?_ | with_reducible refine new_alloc ?_ _ | with_reducible refine new_set ?_ ?_ _ | with_reducible refine new_freeze ?_ ?_ _ | with_reducible refine new_trans ?_ (by assumption) | (simp; done) | (simp; omega)))) hb
    have B3 := B3.up U
    have B4 := B4.up U
    have B5 := B5.up U
    have B6 := B6.up U
    have B7 := (Blk.new_ w1 27 (uc s)).up hb
    try clear c3
    try clear l3
    try clear f3
    have c3 := B3.cell; have l3 := B3.lt
    try clear c4
    try clear l4
    try clear f4
    have c4 := B4.cell; have l4 := B4.lt
    try clear c5
    try clear l5
    try clear f5
    have c5 := B5.cell; have l5 := B5.lt
    try clear c6
    try clear l6
    try clear f6
    have c6 := B6.cell; have l6 := B6.lt
    try clear c7
    try clear l7
    try clear f7
    have c7 := B7.cell; have l7 := B7.lt
    clear hb U
    have f6 := B6.free
    have f7 := B7.free
    go_wp2
    have c := ((B6.far4 (g' := w1.heap.size) n6_7 (.int .u64 (lim (r) 0)) (.int .u64 (lim (r) 1)) (.int .u64 (lim (r) 2)) (.int .u64 (lim (r) 3))).set4 (.int .u64 (lim (r) 0)) (.int .u64 (lim (r) 1)) (.int .u64 (lim (r) 2)) (.int .u64 (lim (r) 3))).cell
    exact bodyPost_ret (v := u r) (by simp [results, Tryz.results101, go_sem, c]) rfl ⟨rfl, (new_set4 (new_set4 N (g := w1.heap.size) (unhide m7) (.int .u64 (lim (r) 0)) (.int .u64 (lim (r) 1)) (.int .u64 (lim (r) 2)) (.int .u64 (lim (r) 3))) (g := g6) (by have := unhide hL; omega) (.int .u64 (lim (r) 0)) (.int .u64 (lim (r) 1)) (.int .u64 (lim (r) 2)) (.int .u64 (lim (r) 3)))⟩
  · go_enter Tryz.func101, Tryz.ntmps101
    go_wp2_with fail
    generalize hW : World.alloc _ _ = W
    obtain ⟨N, B3, B4, B5, B6⟩ := boxes4 hW
    clear hW
    generalize q6 : w.heap.size + 1 + 1 + 1 = g6 at *
    generalize q5 : w.heap.size + 1 + 1 = g5 at *
    generalize q4 : w.heap.size + 1 = g4 at *
    have hL : Hid (w.heap.size < g4 ∧ g4 < g5 ∧ g5 < g6) := hide (by omega)
    clear q4 q5 q6
    try clear c3
    try clear l3
    try clear f3
    have c3 := B3.cell; have l3 := B3.lt
    try clear c4
    try clear l4
    try clear f4
    have c4 := B4.cell; have l4 := B4.lt
    try clear c5
    try clear l5
    try clear f5
    have c5 := B5.cell; have l5 := B5.lt
    try clear c6
    try clear l6
    try clear f6
    have c6 := B6.cell; have l6 := B6.lt
    refine (add_is a b s false (unhide ha) (unhide hb) (unhide e1) (unhide e2) _).mono ?_
    rintro e w1 ⟨rfl, hb⟩
    have U : New W w1 := new_trans (by (repeat' (first | with_reducible exact new_refl _ | with_reducible assumption | with_reducible refine new_drewN ?_ _ | with_reducible refine new_drew ?_ | with_reducible refine new_alloc ?_ _ | with_reducible refine new_set ?_ ?_ _ | with_reducible refine new_freeze ?_ ?_ _ | with_reducible refine new_trans ?_ (by assumption) | (simp; done) | (simp; omega)))) hb
    have N : New w w1 := new_trans (by (repeat' (first | with_reducible exact new_refl _ | with_reducible assumption | with_reducible refine new_drewN ?_ _ | with_reducible refine new_drew ?_ | with_reducible refine new_alloc ?_ _ | with_reducible refine new_set ?_ ?_ _ | with_reducible refine new_freeze ?_ ?_ _ | with_reducible refine new_trans ?_ (by assumption) | (simp; done) | (simp; omega)))) hb
    have B3 := B3.up U
    have B4 := B4.up U
    have B5 := B5.up U
    have B6 := B6.up U
    try clear c3
    try clear l3
    try clear f3
    have c3 := B3.cell; have l3 := B3.lt
    try clear c4
    try clear l4
    try clear f4
    have c4 := B4.cell; have l4 := B4.lt
    try clear c5
    try clear l5
    try clear f5
    have c5 := B5.cell; have l5 := B5.lt
    try clear c6
    try clear l6
    try clear f6
    have c6 := B6.cell; have l6 := B6.lt
    clear hb U
    go_wp2_with fail
    have m7 := hide (Nat.le_trans N.size (Nat.le_add_right _ 0) : w.heap.size ≤ w1.heap.size)
    have n6_7 := Nat.ne_of_lt (Nat.lt_of_lt_of_le B6.lt (Nat.le_add_right _ 0) : _ < w1.heap.size)
    refine (cmp_is s m c (unhide hs) (unhide hm) (unhide e3) _).mono ?_
    rintro e w2 ⟨rfl, hb⟩
    have U : New w1 w2 := new_trans (by (repeat' (first | with_reducible exact new_refl _ | with_reducible assumption | with_reducible refine new_drewN ?_ _ | with_reducible refine new_drew ?_ | with_reducible refine new_alloc ?_ _ | with_reducible refine new_set ?_ ?_ _ | with_reducible refine new_freeze ?_ ?_ _ | with_reducible refine new_trans ?_ (by assumption) | (simp; done) | (simp; omega)))) hb
    have N : New w w2 := new_trans (by (repeat' (first | with_reducible exact new_refl _ | with_reducible assumption | with_reducible refine new_drewN ?_ _ | with_reducible refine new_drew ?_ | with_reducible refine new_alloc ?_ _ | with_reducible refine new_set ?_ ?_ _ | with_reducible refine new_freeze ?_ ?_ _ | with_reducible refine new_trans ?_ (by assumption) | (simp; done) | (simp; omega)))) hb
    have B3 := B3.up U
    have B4 := B4.up U
    have B5 := B5.up U
    have B6 := B6.up U
    have B7 := (Blk.new_ w1 27 (uc s)).up hb
    try clear c3
    try clear l3
    try clear f3
    have c3 := B3.cell; have l3 := B3.lt
    try clear c4
    try clear l4
    try clear f4
    have c4 := B4.cell; have l4 := B4.lt
    try clear c5
    try clear l5
    try clear f5
    have c5 := B5.cell; have l5 := B5.lt
    try clear c6
    try clear l6
    try clear f6
    have c6 := B6.cell; have l6 := B6.lt
    try clear c7
    try clear l7
    try clear f7
    have c7 := B7.cell; have l7 := B7.lt
    clear hb U
    go_wp2_with fail
    refine (sub_is s m r o' (unhide hs) (unhide hm) (unhide e4) (unhide e5) _).mono ?_
    rintro e w3 ⟨rfl, hb⟩
    have U : New w2 w3 := new_trans (by (repeat' (first | with_reducible exact new_refl _ | with_reducible assumption | with_reducible refine new_drewN ?_ _ | with_reducible refine new_drew ?_ | with_reducible refine new_alloc ?_ _ | with_reducible refine new_set ?_ ?_ _ | with_reducible refine new_freeze ?_ ?_ _ | with_reducible refine new_trans ?_ (by assumption) | (simp; done) | (simp; omega)))) hb
    have N : New w w3 := new_trans (by (repeat' (first | with_reducible exact new_refl _ | with_reducible assumption | with_reducible refine new_drewN ?_ _ | with_reducible refine new_drew ?_ | with_reducible refine new_alloc ?_ _ | with_reducible refine new_set ?_ ?_ _ | with_reducible refine new_freeze ?_ ?_ _ | with_reducible refine new_trans ?_ (by assumption) | (simp; done) | (simp; omega)))) hb
    have B3 := B3.up U
    have B4 := B4.up U
    have B5 := B5.up U
    have B6 := B6.up U
    have B7 := B7.up U
    try clear c3
    try clear l3
    try clear f3
    have c3 := B3.cell; have l3 := B3.lt
    try clear c4
    try clear l4
    try clear f4
    have c4 := B4.cell; have l4 := B4.lt
    try clear c5
    try clear l5
    try clear f5
    have c5 := B5.cell; have l5 := B5.lt
    try clear c6
    try clear l6
    try clear f6
    have c6 := B6.cell; have l6 := B6.lt
    try clear c7
    try clear l7
    try clear f7
    have c7 := B7.cell; have l7 := B7.lt
    clear hb U
    have f6 := B6.free
    have f7 := B7.free
    go_wp2
    have c := ((B6.far4 (g' := w1.heap.size) n6_7 (.int .u64 (lim (r) 0)) (.int .u64 (lim (r) 1)) (.int .u64 (lim (r) 2)) (.int .u64 (lim (r) 3))).set4 (.int .u64 (lim (r) 0)) (.int .u64 (lim (r) 1)) (.int .u64 (lim (r) 2)) (.int .u64 (lim (r) 3))).cell
    exact bodyPost_ret (v := u r) (by simp [results, Tryz.results101, go_sem, c]) rfl ⟨rfl, (new_set4 (new_set4 N (g := w1.heap.size) (unhide m7) (.int .u64 (lim (r) 0)) (.int .u64 (lim (r) 1)) (.int .u64 (lim (r) 2)) (.int .u64 (lim (r) 3))) (g := g6) (by have := unhide hL; omega) (.int .u64 (lim (r) 0)) (.int .u64 (lim (r) 1)) (.int .u64 (lim (r) 2)) (.int .u64 (lim (r) 3)))⟩
  · go_enter Tryz.func101, Tryz.ntmps101
    go_wp2_with fail
    generalize hW : World.alloc _ _ = W
    obtain ⟨N, B3, B4, B5, B6⟩ := boxes4 hW
    clear hW
    generalize q6 : w.heap.size + 1 + 1 + 1 = g6 at *
    generalize q5 : w.heap.size + 1 + 1 = g5 at *
    generalize q4 : w.heap.size + 1 = g4 at *
    have hL : Hid (w.heap.size < g4 ∧ g4 < g5 ∧ g5 < g6) := hide (by omega)
    clear q4 q5 q6
    try clear c3
    try clear l3
    try clear f3
    have c3 := B3.cell; have l3 := B3.lt
    try clear c4
    try clear l4
    try clear f4
    have c4 := B4.cell; have l4 := B4.lt
    try clear c5
    try clear l5
    try clear f5
    have c5 := B5.cell; have l5 := B5.lt
    try clear c6
    try clear l6
    try clear f6
    have c6 := B6.cell; have l6 := B6.lt
    refine (add_is a b r false (unhide ha) (unhide hb) (unhide e1) (unhide e2) _).mono ?_
    rintro e w1 ⟨rfl, hb⟩
    have U : New W w1 := new_trans (by (repeat' (first | with_reducible exact new_refl _ | with_reducible assumption | with_reducible refine new_drewN ?_ _ | with_reducible refine new_drew ?_ | with_reducible refine new_alloc ?_ _ | with_reducible refine new_set ?_ ?_ _ | with_reducible refine new_freeze ?_ ?_ _ | with_reducible refine new_trans ?_ (by assumption) | (simp; done) | (simp; omega)))) hb
    have N : New w w1 := new_trans (by (repeat' (first | with_reducible exact new_refl _ | with_reducible assumption | with_reducible refine new_drewN ?_ _ | with_reducible refine new_drew ?_ | with_reducible refine new_alloc ?_ _ | with_reducible refine new_set ?_ ?_ _ | with_reducible refine new_freeze ?_ ?_ _ | with_reducible refine new_trans ?_ (by assumption) | (simp; done) | (simp; omega)))) hb
    have B3 := B3.up U
    have B4 := B4.up U
    have B5 := B5.up U
    have B6 := B6.up U
    try clear c3
    try clear l3
    try clear f3
    have c3 := B3.cell; have l3 := B3.lt
    try clear c4
    try clear l4
    try clear f4
    have c4 := B4.cell; have l4 := B4.lt
    try clear c5
    try clear l5
    try clear f5
    have c5 := B5.cell; have l5 := B5.lt
    try clear c6
    try clear l6
    try clear f6
    have c6 := B6.cell; have l6 := B6.lt
    clear hb U
    go_wp2_with fail
    have m7 := hide (Nat.le_trans N.size (Nat.le_add_right _ 0) : w.heap.size ≤ w1.heap.size)
    have n6_7 := Nat.ne_of_lt (Nat.lt_of_lt_of_le B6.lt (Nat.le_add_right _ 0) : _ < w1.heap.size)
    refine (cmp_is r m c (unhide hs) (unhide hm) (unhide e3) _).mono ?_
    rintro e w2 ⟨rfl, hb⟩
    have U : New w1 w2 := new_trans (by (repeat' (first | with_reducible exact new_refl _ | with_reducible assumption | with_reducible refine new_drewN ?_ _ | with_reducible refine new_drew ?_ | with_reducible refine new_alloc ?_ _ | with_reducible refine new_set ?_ ?_ _ | with_reducible refine new_freeze ?_ ?_ _ | with_reducible refine new_trans ?_ (by assumption) | (simp; done) | (simp; omega)))) hb
    have N : New w w2 := new_trans (by (repeat' (first | with_reducible exact new_refl _ | with_reducible assumption | with_reducible refine new_drewN ?_ _ | with_reducible refine new_drew ?_ | with_reducible refine new_alloc ?_ _ | with_reducible refine new_set ?_ ?_ _ | with_reducible refine new_freeze ?_ ?_ _ | with_reducible refine new_trans ?_ (by assumption) | (simp; done) | (simp; omega)))) hb
    have B3 := B3.up U
    have B4 := B4.up U
    have B5 := B5.up U
    have B6 := B6.up U
    have B7 := (Blk.new_ w1 27 (uc r)).up hb
    try clear c3
    try clear l3
    try clear f3
    have c3 := B3.cell; have l3 := B3.lt
    try clear c4
    try clear l4
    try clear f4
    have c4 := B4.cell; have l4 := B4.lt
    try clear c5
    try clear l5
    try clear f5
    have c5 := B5.cell; have l5 := B5.lt
    try clear c6
    try clear l6
    try clear f6
    have c6 := B6.cell; have l6 := B6.lt
    try clear c7
    try clear l7
    try clear f7
    have c7 := B7.cell; have l7 := B7.lt
    clear hb U
    have f6 := B6.free
    have f7 := B7.free
    go_wp2
    have c := (B6.set4 (.int .u64 (lim (r) 0)) (.int .u64 (lim (r) 1)) (.int .u64 (lim (r) 2)) (.int .u64 (lim (r) 3))).cell
    exact bodyPost_ret (v := u r) (by simp [results, Tryz.results101, go_sem, c]) rfl ⟨rfl, (new_set4 N (g := g6) (by have := unhide hL; omega) (.int .u64 (lim (r) 0)) (.int .u64 (lim (r) 1)) (.int .u64 (lim (r) 2)) (.int .u64 (lim (r) 3)))⟩
theorem fadd_any (a b m : Nat) (hm : m < M256) (ha : a < m) (hb : b < m) (w : World) :
    Calls Tryz.prog 101 #[u a, u b, u m] w fun e w' => e = .returned (u ((a + b) % m)) ∧ New w w' := by
  refine fadd_walk a b m _ _ ((a + b) % m) _ _ _ (by omega) (by omega) hm (Nat.mod_lt _ (by decide)) rfl rfl rfl rfl rfl ?_ w
  have e : (a + b) % m = if a + b < m then a + b else a + b - m := by
    split
    · exact Nat.mod_eq_of_lt (by assumption)
    · rw [Nat.mod_eq_sub_mod (by omega)]; exact Nat.mod_eq_of_lt (by omega)
  rw [e]
  unfold cmpI M256 at *
  by_cases h1 : 115792089237316195423570985008687907853269984665640564039457584007913129639936 ≤ a + b
  · left
    refine ⟨by simp [h1], ?_⟩
    rw [if_neg (by omega)]; omega
  · have e2 : (a + b) % 115792089237316195423570985008687907853269984665640564039457584007913129639936 = a + b := Nat.mod_eq_of_lt (by omega)
    rw [e2]
    by_cases h2 : a + b < m
    · right; right
      refine ⟨by simp; omega, ?_, ?_⟩
      · rw [if_pos h2]; decide
      · rw [if_pos h2]
    · right; left
      refine ⟨by simp; omega, ?_, ?_⟩
      · rw [if_neg h2]; split <;> decide
      · rw [if_neg h2]; omega
theorem fsub_walk (a b m d t r : Nat) (o o' : Bool) (ha : a < M256) (hb : b < M256) (hm : m < M256) (hd : d < M256)
    (e1 : (a + M256 - b) % M256 = d) (e2 : decide (a < b) = o) (e4 : (d + m) % M256 = t) (e5 : decide (M256 ≤ d + m) = o')
    (hr : (o = true ∧ r = t) ∨ (o = false ∧ r = d)) (w : World) :
    Calls Tryz.prog 71 #[u a, u b, u m] w fun e w' => e = .returned (u r) ∧ New w w' := by
  have e1 := hide e1; have e2 := hide e2; have e4 := hide e4; have e5 := hide e5; have ha := hide ha; have hb := hide hb; have hm := hide hm; have hd := hide hd
  rcases hr with ⟨rfl, rfl⟩ | ⟨rfl, rfl⟩
  · go_enter Tryz.func71, Tryz.ntmps71
    go_wp2_with fail
    generalize hW : World.alloc _ _ = W
    obtain ⟨N, B3, B4, B5, B6⟩ := boxes4 hW
    clear hW
    generalize q6 : w.heap.size + 1 + 1 + 1 = g6 at *
    generalize q5 : w.heap.size + 1 + 1 = g5 at *
    generalize q4 : w.heap.size + 1 = g4 at *
    have hL : Hid (w.heap.size < g4 ∧ g4 < g5 ∧ g5 < g6) := hide (by omega)
    clear q4 q5 q6
    try clear c3
    try clear l3
    try clear f3
    have c3 := B3.cell; have l3 := B3.lt
    try clear c4
    try clear l4
    try clear f4
    have c4 := B4.cell; have l4 := B4.lt
    try clear c5
    try clear l5
    try clear f5
    have c5 := B5.cell; have l5 := B5.lt
    try clear c6
    try clear l6
    try clear f6
    have c6 := B6.cell; have l6 := B6.lt
    refine (sub_is a b d true (unhide ha) (unhide hb) (unhide e1) (unhide e2) _).mono ?_
    rintro e w1 ⟨rfl, hb⟩
    have U : New W w1 := new_trans (by (repeat' (first | with_reducible exact new_refl _ | with_reducible assumption | with_reducible refine new_drewN ?_ _ | with_reducible refine new_drew ?_ | with_reducible refine new_alloc ?_ _ | with_reducible refine new_set ?_ ?_ _ | with_reducible refine new_freeze ?_ ?_ _ | with_reducible refine new_trans ?_ (by assumption) | (simp; done) | (simp; omega)))) hb
    have N : New w w1 := new_trans (by (repeat' (first | with_reducible exact new_refl _ | with_reducible assumption | with_reducible refine new_drewN ?_ _ | with_reducible refine new_drew ?_ | with_reducible refine new_alloc ?_ _ | with_reducible refine new_set ?_ ?_ _ | with_reducible refine new_freeze ?_ ?_ _ | with_reducible refine new_trans ?_ (by assumption) | (simp; done) | (simp; omega)))) hb
    have B3 := B3.up U
    have B4 := B4.up U
    have B5 := B5.up U
    have B6 := B6.up U
    try clear c3
    try clear l3
    try clear f3
    have c3 := B3.cell; have l3 := B3.lt
    try clear c4
    try clear l4
    try clear f4
    have c4 := B4.cell; have l4 := B4.lt
    try clear c5
    try clear l5
    try clear f5
    have c5 := B5.cell; have l5 := B5.lt
    try clear c6
    try clear l6
    try clear f6
    have c6 := B6.cell; have l6 := B6.lt
    clear hb U
    go_wp2_with fail
    have m7 := hide (Nat.le_trans N.size (Nat.le_add_right _ 0) : w.heap.size ≤ w1.heap.size)
    have n6_7 := Nat.ne_of_lt (Nat.lt_of_lt_of_le B6.lt (Nat.le_add_right _ 0) : _ < w1.heap.size)
    refine (add_is d m r o' (unhide hd) (unhide hm) (unhide e4) (unhide e5) _).mono ?_
    rintro e w2 ⟨rfl, hb⟩
    have U : New w1 w2 := new_trans (by (repeat' (first | with_reducible exact new_refl _ | with_reducible assumption | with_reducible refine new_drewN ?_ _ | with_reducible refine new_drew ?_ | with_reducible refine new_alloc ?_ _ | with_reducible refine new_set ?_ ?_ _ | with_reducible refine new_freeze ?_ ?_ _ | with_reducible refine new_trans ?_ (by assumption) | (simp; done) | (simp; omega)))) hb
    have N : New w w2 := new_trans (by (repeat' (first | with_reducible exact new_refl _ | with_reducible assumption | with_reducible refine new_drewN ?_ _ | with_reducible refine new_drew ?_ | with_reducible refine new_alloc ?_ _ | with_reducible refine new_set ?_ ?_ _ | with_reducible refine new_freeze ?_ ?_ _ | with_reducible refine new_trans ?_ (by assumption) | (simp; done) | (simp; omega)))) hb
    have B3 := B3.up U
    have B4 := B4.up U
    have B5 := B5.up U
    have B6 := B6.up U
    have B7 := (Blk.new_ w1 27 (uc d)).up hb
    try clear c3
    try clear l3
    try clear f3
    have c3 := B3.cell; have l3 := B3.lt
    try clear c4
    try clear l4
    try clear f4
    have c4 := B4.cell; have l4 := B4.lt
    try clear c5
    try clear l5
    try clear f5
    have c5 := B5.cell; have l5 := B5.lt
    try clear c6
    try clear l6
    try clear f6
    have c6 := B6.cell; have l6 := B6.lt
    try clear c7
    try clear l7
    try clear f7
    have c7 := B7.cell; have l7 := B7.lt
    clear hb U
    have f6 := B6.free
    have f7 := B7.free
    go_wp2
    have c := ((B6.far4 (g' := w1.heap.size) n6_7 (.int .u64 (lim (r) 0)) (.int .u64 (lim (r) 1)) (.int .u64 (lim (r) 2)) (.int .u64 (lim (r) 3))).set4 (.int .u64 (lim (r) 0)) (.int .u64 (lim (r) 1)) (.int .u64 (lim (r) 2)) (.int .u64 (lim (r) 3))).cell
    exact bodyPost_ret (v := u r) (by simp [results, Tryz.results71, go_sem, c]) rfl ⟨rfl, (new_set4 (new_set4 N (g := w1.heap.size) (unhide m7) (.int .u64 (lim (r) 0)) (.int .u64 (lim (r) 1)) (.int .u64 (lim (r) 2)) (.int .u64 (lim (r) 3))) (g := g6) (by have := unhide hL; omega) (.int .u64 (lim (r) 0)) (.int .u64 (lim (r) 1)) (.int .u64 (lim (r) 2)) (.int .u64 (lim (r) 3)))⟩
  · go_enter Tryz.func71, Tryz.ntmps71
    go_wp2_with fail
    generalize hW : World.alloc _ _ = W
    obtain ⟨N, B3, B4, B5, B6⟩ := boxes4 hW
    clear hW
    generalize q6 : w.heap.size + 1 + 1 + 1 = g6 at *
    generalize q5 : w.heap.size + 1 + 1 = g5 at *
    generalize q4 : w.heap.size + 1 = g4 at *
    have hL : Hid (w.heap.size < g4 ∧ g4 < g5 ∧ g5 < g6) := hide (by omega)
    clear q4 q5 q6
    try clear c3
    try clear l3
    try clear f3
    have c3 := B3.cell; have l3 := B3.lt
    try clear c4
    try clear l4
    try clear f4
    have c4 := B4.cell; have l4 := B4.lt
    try clear c5
    try clear l5
    try clear f5
    have c5 := B5.cell; have l5 := B5.lt
    try clear c6
    try clear l6
    try clear f6
    have c6 := B6.cell; have l6 := B6.lt
    refine (sub_is a b r false (unhide ha) (unhide hb) (unhide e1) (unhide e2) _).mono ?_
    rintro e w1 ⟨rfl, hb⟩
    have U : New W w1 := new_trans (by (repeat' (first | with_reducible exact new_refl _ | with_reducible assumption | with_reducible refine new_drewN ?_ _ | with_reducible refine new_drew ?_ | with_reducible refine new_alloc ?_ _ | with_reducible refine new_set ?_ ?_ _ | with_reducible refine new_freeze ?_ ?_ _ | with_reducible refine new_trans ?_ (by assumption) | (simp; done) | (simp; omega)))) hb
    have N : New w w1 := new_trans (by (repeat' (first | with_reducible exact new_refl _ | with_reducible assumption | with_reducible refine new_drewN ?_ _ | with_reducible refine new_drew ?_ | with_reducible refine new_alloc ?_ _ | with_reducible refine new_set ?_ ?_ _ | with_reducible refine new_freeze ?_ ?_ _ | with_reducible refine new_trans ?_ (by assumption) | (simp; done) | (simp; omega)))) hb
    have B3 := B3.up U
    have B4 := B4.up U
    have B5 := B5.up U
    have B6 := B6.up U
    try clear c3
    try clear l3
    try clear f3
    have c3 := B3.cell; have l3 := B3.lt
    try clear c4
    try clear l4
    try clear f4
    have c4 := B4.cell; have l4 := B4.lt
    try clear c5
    try clear l5
    try clear f5
    have c5 := B5.cell; have l5 := B5.lt
    try clear c6
    try clear l6
    try clear f6
    have c6 := B6.cell; have l6 := B6.lt
    clear hb U
    have f6 := B6.free
    go_wp2
    have c := ((B6.set4 (.int .u64 (lim (r) 0)) (.int .u64 (lim (r) 1)) (.int .u64 (lim (r) 2)) (.int .u64 (lim (r) 3))).al (.cells (uc r) 27)).cell
    exact bodyPost_ret (v := u r) (by simp [results, Tryz.results71, go_sem, c]) rfl ⟨rfl, (new_alloc (new_set4 N (g := g6) (by have := unhide hL; omega) (.int .u64 (lim (r) 0)) (.int .u64 (lim (r) 1)) (.int .u64 (lim (r) 2)) (.int .u64 (lim (r) 3))) (.cells (uc r) 27))⟩
theorem fsub_any (a b m : Nat) (hm : m < M256) (ha : a < m) (hb : b < m) (w : World) :
    Calls Tryz.prog 71 #[u a, u b, u m] w fun e w' => e = .returned (u ((a + m - b) % m)) ∧ New w w' := by
  refine fsub_walk a b m _ _ ((a + m - b) % m) _ _ (by omega) (by omega) hm (Nat.mod_lt _ (by decide)) rfl rfl rfl rfl ?_ w
  have e : (a + m - b) % m = if a < b then a + m - b else a - b := by
    split
    · exact Nat.mod_eq_of_lt (by omega)
    · rw [Nat.mod_eq_sub_mod (by omega)]; rw [show a + m - b - m = a - b from by omega]; exact Nat.mod_eq_of_lt (by omega)
  rw [e]
  unfold M256 at *
  by_cases h : a < b
  · left; refine ⟨by simp [h], ?_⟩
    rw [if_pos h]; omega
  · right; refine ⟨by simp; omega, ?_⟩
    rw [if_neg h]; omega
end Go.Proofs.YtcfefmbbbfdppaaGreatDoor
