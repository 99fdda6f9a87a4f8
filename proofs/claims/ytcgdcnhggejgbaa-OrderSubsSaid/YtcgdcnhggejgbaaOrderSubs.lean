/- OrderSubs: one is smaller than another just if taking that away goes under: for every two raw things the call returns true, and they read as before. No conditions. -/
import Derived.Test.YtcgdcnhggejgbaaRow
import Derived.Test.YtcgdcnhggejgbaaLaw
namespace Go.Proofs.Ytcgdcnhggejgbaa.orderSubs
open Go.ChangeShapes Go.WideShapes Go.RowKit

theorem cmp_one (w : World) : Calls Try.prog 20 #[.agg #[.int .u64 1, .int .u64 0, .int .u64 0, .int .u64 0], .agg #[.int .u64 0, .int .u64 0, .int .u64 0, .int .u64 0]] w fun e w' => e = .returned (.int .i64 1) ∧ New w w' := cmp_lit 1 1 0 (by decide) (by decide) (by decide) w

theorem zero_iff (n : Nat) (h : n < M256) : (lim n 0 == 0 && (lim n 1 == 0 && (lim n 2 == 0 && lim n 3 == 0))) = decide (n = 0) := by
  have := same_iff n 0 h (by decide)
  have z0 : lim 0 0 = 0 := by decide
  have z1 : lim 0 1 = 0 := by decide
  have z2 : lim 0 2 = 0 := by decide
  have z3 : lim 0 3 = 0 := by decide
  rw [z0, z1, z2, z3] at this
  exact this

theorem walk_lt (k1 a1 b1 k2 a2 b2 : Int) (s1 s2 : ByteArray) (hrel : num k1 a1 b1 < num k2 a2 b2) (w : World) :
    Calls Try.prog 5 #[.agg (raw k1 a1 b1 s1), .agg (raw k2 a2 b2 s2)] w fun e w' => e = .returned (.bool true) ∧ New w w' := by
  go_enter Try.func5, Try.ntmps5
  go_wp2
  obtain ⟨W, g1, g2, eW, e1, e2, hN, B1, B2⟩ := box2 w (raw k1 a1 b1 s1) (raw k2 a2 b2 s2) 23 23
  rw [← eW, ← e2, ← e1]
  clear eW e1 e2
  refine region_ok (by kernel_rfl) [.inl (.agg (raw k1 a1 b1 s1)), .inl (u (num k1 a1 b1)), .inl (.agg (raw k2 a2 b2 s2)), .inl (u (num k2 a2 b2)), .inr (.inl (26, z4)), .inr (.inl (26, z4)), .inr (.inr (4, uc (num k1 a1 b1))), .inr (.inr (5, uc (num k2 a2 b2)))] rfl (by kernel_rfl) rfl ?_ ?_
  · refine ⟨?_, ?_, ?_, ?_, ?_, ?_, ?_, ?_, trivial⟩
    · exact ok_load 23 2 g1 _ _ (0, 0) _ rfl (by decide) rfl B1 Try.underlying23 rfl size_raw
    · exact ok_call 16 _ _ _ _ _ rfl Try.func16 (by kernel_rfl) (by kernel_rfl) (fun a _ hp => by have h := hp 0 _ _ rfl rfl rfl; simp [h]) (number_any k1 a1 b1 s1)
    · exact ok_load 23 3 g2 _ _ (0, 0) _ rfl (by decide) rfl B2 Try.underlying23 rfl size_raw
    · exact ok_call 16 _ _ _ _ _ rfl Try.func16 (by kernel_rfl) (by kernel_rfl) (fun a _ hp => by have h := hp 2 _ _ rfl rfl rfl; simp [h]) (number_any k2 a2 b2 s2)
    · exact ok_alloc _ _ rfl zero_u
    · exact ok_alloc _ _ rfl zero_u
    · exact ok_store _ 4 5 _ 1 _ _ rfl rfl rfl rfl rfl rfl rfl rfl size_u rfl (by simp [Value.oneCell'])
    · exact ok_store _ 5 6 _ 3 _ _ rfl rfl rfl rfl rfl rfl rfl rfl size_u rfl (by simp [Value.oneCell'])
  intro g w1 hN1 hB hD
  simp [frame, gives, Act.put]
  have B1 : Blk w1 (g 4) _ _ := (hB 4 _ _ 6 _ rfl rfl).2
  have B2 : Blk w1 (g 5) _ _ := (hB 5 _ _ 7 _ rfl rfl).2
  generalize g 4 = p1 at *
  generalize g 5 = p2 at *
  have N := new_trans hN hN1
  clear hB hD g hN hN1
  have hx1 := num_lt k1 a1 b1; generalize num k1 a1 b1 = x1 at *
  have hx2 := num_lt k2 a2 b2; generalize num k2 a2 b2 = x2 at *
  try clear c1 l1
  have c1 := B1.cell; have l1 := B1.lt
  try clear c2 l2
  have c2 := B2.cell; have l2 := B2.lt
  obtain ⟨d, e1⟩ : ∃ s, (x1 + M256 - x2) % M256 = s := ⟨_, rfl⟩
  have hd : d < M256 := e1 ▸ mod_lt _
  have e2 : decide (x1 < x2) = true := by simp; omega
  have e3 : cmpI x1 x2 = -1 := by unfold cmpI; rw [if_pos hrel]
  have e4 : cmpI x2 x1 = 1 := by unfold cmpI; rw [if_neg (by omega), if_pos hrel]
  have ez := zero_iff d hd
  have e5 : d ≠ 0 := by unfold M256 at *; omega
  rw [decide_eq_false e5] at ez
  clear e5 hrel
  have e1 := hide e1; have e2 := hide e2; have e3 := hide e3; have e4 := hide e4
  go_wp2_with fail
  refine (sub_is x1 x2 d true hx1 hx2 (unhide e1) (unhide e2) _).mono ?_
  rintro e w2 ⟨rfl, hb⟩
  have U : New w1 w2 := new_trans (by (repeat' (first | with_reducible exact new_refl _ | with_reducible assumption | with_reducible refine new_drewN ?_ _ | with_reducible refine new_drew ?_ | with_reducible refine new_alloc ?_ _ | with_reducible refine new_set ?_ ?_ _ | with_reducible refine new_freeze ?_ ?_ _ | with_reducible refine new_trans ?_ (by assumption) | (simp; done) | (simp; omega)))) hb
  have N : New w w2 := new_trans (by (repeat' (first | with_reducible exact new_refl _ | with_reducible assumption | with_reducible refine new_drewN ?_ _ | with_reducible refine new_drew ?_ | with_reducible refine new_alloc ?_ _ | with_reducible refine new_set ?_ ?_ _ | with_reducible refine new_freeze ?_ ?_ _ | with_reducible refine new_trans ?_ (by assumption) | (simp; done) | (simp; omega)))) hb
  have B1 := B1.up U
  have B2 := B2.up U
  try clear c1 l1
  have c1 := B1.cell; have l1 := B1.lt
  try clear c2 l2
  have c2 := B2.cell; have l2 := B2.lt
  clear hb U
  go_wp2_with fail
  refine (cmp_is x1 x2 (-1) hx1 hx2 (unhide e3) _).mono ?_
  rintro e w3 ⟨rfl, hb⟩
  have U : New w2 w3 := new_trans (by (repeat' (first | with_reducible exact new_refl _ | with_reducible assumption | with_reducible refine new_drewN ?_ _ | with_reducible refine new_drew ?_ | with_reducible refine new_alloc ?_ _ | with_reducible refine new_set ?_ ?_ _ | with_reducible refine new_freeze ?_ ?_ _ | with_reducible refine new_trans ?_ (by assumption) | (simp; done) | (simp; omega)))) hb
  have N : New w w3 := new_trans (by (repeat' (first | with_reducible exact new_refl _ | with_reducible assumption | with_reducible refine new_drewN ?_ _ | with_reducible refine new_drew ?_ | with_reducible refine new_alloc ?_ _ | with_reducible refine new_set ?_ ?_ _ | with_reducible refine new_freeze ?_ ?_ _ | with_reducible refine new_trans ?_ (by assumption) | (simp; done) | (simp; omega)))) hb
  have B1 := B1.up U
  have B2 := B2.up U
  have B3 := (Blk.new_ w2 26 (uc d)).up hb
  try clear c1 l1
  have c1 := B1.cell; have l1 := B1.lt
  try clear c2 l2
  have c2 := B2.cell; have l2 := B2.lt
  try clear c3 l3
  have c3 := B3.cell; have l3 := B3.lt
  clear hb U
  go_wp2_with fail
  refine (tells_any _).mono ?_
  rintro e w4 ⟨rfl, hb⟩
  have U : New w3 w4 := new_trans (by (repeat' (first | with_reducible exact new_refl _ | with_reducible assumption | with_reducible refine new_drewN ?_ _ | with_reducible refine new_drew ?_ | with_reducible refine new_alloc ?_ _ | with_reducible refine new_set ?_ ?_ _ | with_reducible refine new_freeze ?_ ?_ _ | with_reducible refine new_trans ?_ (by assumption) | (simp; done) | (simp; omega)))) hb
  have N : New w w4 := new_trans (by (repeat' (first | with_reducible exact new_refl _ | with_reducible assumption | with_reducible refine new_drewN ?_ _ | with_reducible refine new_drew ?_ | with_reducible refine new_alloc ?_ _ | with_reducible refine new_set ?_ ?_ _ | with_reducible refine new_freeze ?_ ?_ _ | with_reducible refine new_trans ?_ (by assumption) | (simp; done) | (simp; omega)))) hb
  have B1 := B1.up U
  have B2 := B2.up U
  have B3 := B3.up U
  try clear c1 l1
  have c1 := B1.cell; have l1 := B1.lt
  try clear c2 l2
  have c2 := B2.cell; have l2 := B2.lt
  try clear c3 l3
  have c3 := B3.cell; have l3 := B3.lt
  clear hb U
  go_wp2_with fail
  refine (cmp_is x2 x1 1 hx2 hx1 (unhide e4) _).mono ?_
  rintro e w5 ⟨rfl, hb⟩
  have U : New w4 w5 := new_trans (by (repeat' (first | with_reducible exact new_refl _ | with_reducible assumption | with_reducible refine new_drewN ?_ _ | with_reducible refine new_drew ?_ | with_reducible refine new_alloc ?_ _ | with_reducible refine new_set ?_ ?_ _ | with_reducible refine new_freeze ?_ ?_ _ | with_reducible refine new_trans ?_ (by assumption) | (simp; done) | (simp; omega)))) hb
  have N : New w w5 := new_trans (by (repeat' (first | with_reducible exact new_refl _ | with_reducible assumption | with_reducible refine new_drewN ?_ _ | with_reducible refine new_drew ?_ | with_reducible refine new_alloc ?_ _ | with_reducible refine new_set ?_ ?_ _ | with_reducible refine new_freeze ?_ ?_ _ | with_reducible refine new_trans ?_ (by assumption) | (simp; done) | (simp; omega)))) hb
  have B1 := B1.up U
  have B2 := B2.up U
  have B3 := B3.up U
  try clear c1 l1
  have c1 := B1.cell; have l1 := B1.lt
  try clear c2 l2
  have c2 := B2.cell; have l2 := B2.lt
  try clear c3 l3
  have c3 := B3.cell; have l3 := B3.lt
  clear hb U
  go_wp2_with fail
  refine (cmp_one _).mono ?_
  rintro e w6 ⟨rfl, hb⟩
  have U : New w5 w6 := new_trans (by (repeat' (first | with_reducible exact new_refl _ | with_reducible assumption | with_reducible refine new_drewN ?_ _ | with_reducible refine new_drew ?_ | with_reducible refine new_alloc ?_ _ | with_reducible refine new_set ?_ ?_ _ | with_reducible refine new_freeze ?_ ?_ _ | with_reducible refine new_trans ?_ (by assumption) | (simp; done) | (simp; omega)))) hb
  have N : New w w6 := new_trans (by (repeat' (first | with_reducible exact new_refl _ | with_reducible assumption | with_reducible refine new_drewN ?_ _ | with_reducible refine new_drew ?_ | with_reducible refine new_alloc ?_ _ | with_reducible refine new_set ?_ ?_ _ | with_reducible refine new_freeze ?_ ?_ _ | with_reducible refine new_trans ?_ (by assumption) | (simp; done) | (simp; omega)))) hb
  have B1 := B1.up U
  have B2 := B2.up U
  have B3 := B3.up U
  try clear c1 l1
  have c1 := B1.cell; have l1 := B1.lt
  try clear c2 l2
  have c2 := B2.cell; have l2 := B2.lt
  try clear c3 l3
  have c3 := B3.cell; have l3 := B3.lt
  clear hb U
  go_wp2
  all_goals go_ret
  all_goals exact ⟨by simp, N⟩

theorem walk_eq (k1 a1 b1 k2 a2 b2 : Int) (s1 s2 : ByteArray) (hrel : num k1 a1 b1 = num k2 a2 b2) (w : World) :
    Calls Try.prog 5 #[.agg (raw k1 a1 b1 s1), .agg (raw k2 a2 b2 s2)] w fun e w' => e = .returned (.bool true) ∧ New w w' := by
  go_enter Try.func5, Try.ntmps5
  go_wp2
  obtain ⟨W, g1, g2, eW, e1, e2, hN, B1, B2⟩ := box2 w (raw k1 a1 b1 s1) (raw k2 a2 b2 s2) 23 23
  rw [← eW, ← e2, ← e1]
  clear eW e1 e2
  refine region_ok (by kernel_rfl) [.inl (.agg (raw k1 a1 b1 s1)), .inl (u (num k1 a1 b1)), .inl (.agg (raw k2 a2 b2 s2)), .inl (u (num k2 a2 b2)), .inr (.inl (26, z4)), .inr (.inl (26, z4)), .inr (.inr (4, uc (num k1 a1 b1))), .inr (.inr (5, uc (num k2 a2 b2)))] rfl (by kernel_rfl) rfl ?_ ?_
  · refine ⟨?_, ?_, ?_, ?_, ?_, ?_, ?_, ?_, trivial⟩
    · exact ok_load 23 2 g1 _ _ (0, 0) _ rfl (by decide) rfl B1 Try.underlying23 rfl size_raw
    · exact ok_call 16 _ _ _ _ _ rfl Try.func16 (by kernel_rfl) (by kernel_rfl) (fun a _ hp => by have h := hp 0 _ _ rfl rfl rfl; simp [h]) (number_any k1 a1 b1 s1)
    · exact ok_load 23 3 g2 _ _ (0, 0) _ rfl (by decide) rfl B2 Try.underlying23 rfl size_raw
    · exact ok_call 16 _ _ _ _ _ rfl Try.func16 (by kernel_rfl) (by kernel_rfl) (fun a _ hp => by have h := hp 2 _ _ rfl rfl rfl; simp [h]) (number_any k2 a2 b2 s2)
    · exact ok_alloc _ _ rfl zero_u
    · exact ok_alloc _ _ rfl zero_u
    · exact ok_store _ 4 5 _ 1 _ _ rfl rfl rfl rfl rfl rfl rfl rfl size_u rfl (by simp [Value.oneCell'])
    · exact ok_store _ 5 6 _ 3 _ _ rfl rfl rfl rfl rfl rfl rfl rfl size_u rfl (by simp [Value.oneCell'])
  intro g w1 hN1 hB hD
  simp [frame, gives, Act.put]
  have B1 : Blk w1 (g 4) _ _ := (hB 4 _ _ 6 _ rfl rfl).2
  have B2 : Blk w1 (g 5) _ _ := (hB 5 _ _ 7 _ rfl rfl).2
  generalize g 4 = p1 at *
  generalize g 5 = p2 at *
  have N := new_trans hN hN1
  clear hB hD g hN hN1
  have hx1 := num_lt k1 a1 b1; generalize num k1 a1 b1 = x1 at *
  have hx2 := num_lt k2 a2 b2; generalize num k2 a2 b2 = x2 at *
  try clear c1 l1
  have c1 := B1.cell; have l1 := B1.lt
  try clear c2 l2
  have c2 := B2.cell; have l2 := B2.lt
  obtain ⟨d, e1⟩ : ∃ s, (x1 + M256 - x2) % M256 = s := ⟨_, rfl⟩
  have hd : d < M256 := e1 ▸ mod_lt _
  have e2 : decide (x1 < x2) = false := by simp; omega
  have e3 : cmpI x1 x2 = 0 := by unfold cmpI; rw [if_neg (by omega), if_neg (by omega)]
  have e4 : cmpI x2 x1 = 0 := by unfold cmpI; rw [if_neg (by omega), if_neg (by omega)]
  have ez := zero_iff d hd
  have e5 : d = 0 := by unfold M256 at *; omega
  rw [decide_eq_true e5] at ez
  clear e5 hrel
  have e1 := hide e1; have e2 := hide e2; have e3 := hide e3; have e4 := hide e4
  go_wp2_with fail
  refine (sub_is x1 x2 d false hx1 hx2 (unhide e1) (unhide e2) _).mono ?_
  rintro e w2 ⟨rfl, hb⟩
  have U : New w1 w2 := new_trans (by (repeat' (first | with_reducible exact new_refl _ | with_reducible assumption | with_reducible refine new_drewN ?_ _ | with_reducible refine new_drew ?_ | with_reducible refine new_alloc ?_ _ | with_reducible refine new_set ?_ ?_ _ | with_reducible refine new_freeze ?_ ?_ _ | with_reducible refine new_trans ?_ (by assumption) | (simp; done) | (simp; omega)))) hb
  have N : New w w2 := new_trans (by (repeat' (first | with_reducible exact new_refl _ | with_reducible assumption | with_reducible refine new_drewN ?_ _ | with_reducible refine new_drew ?_ | with_reducible refine new_alloc ?_ _ | with_reducible refine new_set ?_ ?_ _ | with_reducible refine new_freeze ?_ ?_ _ | with_reducible refine new_trans ?_ (by assumption) | (simp; done) | (simp; omega)))) hb
  have B1 := B1.up U
  have B2 := B2.up U
  try clear c1 l1
  have c1 := B1.cell; have l1 := B1.lt
  try clear c2 l2
  have c2 := B2.cell; have l2 := B2.lt
  clear hb U
  go_wp2_with fail
  refine (cmp_is x1 x2 0 hx1 hx2 (unhide e3) _).mono ?_
  rintro e w3 ⟨rfl, hb⟩
  have U : New w2 w3 := new_trans (by (repeat' (first | with_reducible exact new_refl _ | with_reducible assumption | with_reducible refine new_drewN ?_ _ | with_reducible refine new_drew ?_ | with_reducible refine new_alloc ?_ _ | with_reducible refine new_set ?_ ?_ _ | with_reducible refine new_freeze ?_ ?_ _ | with_reducible refine new_trans ?_ (by assumption) | (simp; done) | (simp; omega)))) hb
  have N : New w w3 := new_trans (by (repeat' (first | with_reducible exact new_refl _ | with_reducible assumption | with_reducible refine new_drewN ?_ _ | with_reducible refine new_drew ?_ | with_reducible refine new_alloc ?_ _ | with_reducible refine new_set ?_ ?_ _ | with_reducible refine new_freeze ?_ ?_ _ | with_reducible refine new_trans ?_ (by assumption) | (simp; done) | (simp; omega)))) hb
  have B1 := B1.up U
  have B2 := B2.up U
  have B3 := (Blk.new_ w2 26 (uc d)).up hb
  try clear c1 l1
  have c1 := B1.cell; have l1 := B1.lt
  try clear c2 l2
  have c2 := B2.cell; have l2 := B2.lt
  try clear c3 l3
  have c3 := B3.cell; have l3 := B3.lt
  clear hb U
  go_wp2_with fail
  refine (tells_any _).mono ?_
  rintro e w4 ⟨rfl, hb⟩
  have U : New w3 w4 := new_trans (by (repeat' (first | with_reducible exact new_refl _ | with_reducible assumption | with_reducible refine new_drewN ?_ _ | with_reducible refine new_drew ?_ | with_reducible refine new_alloc ?_ _ | with_reducible refine new_set ?_ ?_ _ | with_reducible refine new_freeze ?_ ?_ _ | with_reducible refine new_trans ?_ (by assumption) | (simp; done) | (simp; omega)))) hb
  have N : New w w4 := new_trans (by (repeat' (first | with_reducible exact new_refl _ | with_reducible assumption | with_reducible refine new_drewN ?_ _ | with_reducible refine new_drew ?_ | with_reducible refine new_alloc ?_ _ | with_reducible refine new_set ?_ ?_ _ | with_reducible refine new_freeze ?_ ?_ _ | with_reducible refine new_trans ?_ (by assumption) | (simp; done) | (simp; omega)))) hb
  have B1 := B1.up U
  have B2 := B2.up U
  have B3 := B3.up U
  try clear c1 l1
  have c1 := B1.cell; have l1 := B1.lt
  try clear c2 l2
  have c2 := B2.cell; have l2 := B2.lt
  try clear c3 l3
  have c3 := B3.cell; have l3 := B3.lt
  clear hb U
  go_wp2_with fail
  refine (cmp_is x2 x1 0 hx2 hx1 (unhide e4) _).mono ?_
  rintro e w5 ⟨rfl, hb⟩
  have U : New w4 w5 := new_trans (by (repeat' (first | with_reducible exact new_refl _ | with_reducible assumption | with_reducible refine new_drewN ?_ _ | with_reducible refine new_drew ?_ | with_reducible refine new_alloc ?_ _ | with_reducible refine new_set ?_ ?_ _ | with_reducible refine new_freeze ?_ ?_ _ | with_reducible refine new_trans ?_ (by assumption) | (simp; done) | (simp; omega)))) hb
  have N : New w w5 := new_trans (by (repeat' (first | with_reducible exact new_refl _ | with_reducible assumption | with_reducible refine new_drewN ?_ _ | with_reducible refine new_drew ?_ | with_reducible refine new_alloc ?_ _ | with_reducible refine new_set ?_ ?_ _ | with_reducible refine new_freeze ?_ ?_ _ | with_reducible refine new_trans ?_ (by assumption) | (simp; done) | (simp; omega)))) hb
  have B1 := B1.up U
  have B2 := B2.up U
  have B3 := B3.up U
  try clear c1 l1
  have c1 := B1.cell; have l1 := B1.lt
  try clear c2 l2
  have c2 := B2.cell; have l2 := B2.lt
  try clear c3 l3
  have c3 := B3.cell; have l3 := B3.lt
  clear hb U
  go_wp2_with fail
  refine (cmp_one _).mono ?_
  rintro e w6 ⟨rfl, hb⟩
  have U : New w5 w6 := new_trans (by (repeat' (first | with_reducible exact new_refl _ | with_reducible assumption | with_reducible refine new_drewN ?_ _ | with_reducible refine new_drew ?_ | with_reducible refine new_alloc ?_ _ | with_reducible refine new_set ?_ ?_ _ | with_reducible refine new_freeze ?_ ?_ _ | with_reducible refine new_trans ?_ (by assumption) | (simp; done) | (simp; omega)))) hb
  have N : New w w6 := new_trans (by (repeat' (first | with_reducible exact new_refl _ | with_reducible assumption | with_reducible refine new_drewN ?_ _ | with_reducible refine new_drew ?_ | with_reducible refine new_alloc ?_ _ | with_reducible refine new_set ?_ ?_ _ | with_reducible refine new_freeze ?_ ?_ _ | with_reducible refine new_trans ?_ (by assumption) | (simp; done) | (simp; omega)))) hb
  have B1 := B1.up U
  have B2 := B2.up U
  have B3 := B3.up U
  try clear c1 l1
  have c1 := B1.cell; have l1 := B1.lt
  try clear c2 l2
  have c2 := B2.cell; have l2 := B2.lt
  try clear c3 l3
  have c3 := B3.cell; have l3 := B3.lt
  clear hb U
  go_wp2
  all_goals go_ret
  all_goals exact ⟨by simp, N⟩

theorem walk_gt (k1 a1 b1 k2 a2 b2 : Int) (s1 s2 : ByteArray) (hrel : num k2 a2 b2 < num k1 a1 b1) (w : World) :
    Calls Try.prog 5 #[.agg (raw k1 a1 b1 s1), .agg (raw k2 a2 b2 s2)] w fun e w' => e = .returned (.bool true) ∧ New w w' := by
  go_enter Try.func5, Try.ntmps5
  go_wp2
  obtain ⟨W, g1, g2, eW, e1, e2, hN, B1, B2⟩ := box2 w (raw k1 a1 b1 s1) (raw k2 a2 b2 s2) 23 23
  rw [← eW, ← e2, ← e1]
  clear eW e1 e2
  refine region_ok (by kernel_rfl) [.inl (.agg (raw k1 a1 b1 s1)), .inl (u (num k1 a1 b1)), .inl (.agg (raw k2 a2 b2 s2)), .inl (u (num k2 a2 b2)), .inr (.inl (26, z4)), .inr (.inl (26, z4)), .inr (.inr (4, uc (num k1 a1 b1))), .inr (.inr (5, uc (num k2 a2 b2)))] rfl (by kernel_rfl) rfl ?_ ?_
  · refine ⟨?_, ?_, ?_, ?_, ?_, ?_, ?_, ?_, trivial⟩
    · exact ok_load 23 2 g1 _ _ (0, 0) _ rfl (by decide) rfl B1 Try.underlying23 rfl size_raw
    · exact ok_call 16 _ _ _ _ _ rfl Try.func16 (by kernel_rfl) (by kernel_rfl) (fun a _ hp => by have h := hp 0 _ _ rfl rfl rfl; simp [h]) (number_any k1 a1 b1 s1)
    · exact ok_load 23 3 g2 _ _ (0, 0) _ rfl (by decide) rfl B2 Try.underlying23 rfl size_raw
    · exact ok_call 16 _ _ _ _ _ rfl Try.func16 (by kernel_rfl) (by kernel_rfl) (fun a _ hp => by have h := hp 2 _ _ rfl rfl rfl; simp [h]) (number_any k2 a2 b2 s2)
    · exact ok_alloc _ _ rfl zero_u
    · exact ok_alloc _ _ rfl zero_u
    · exact ok_store _ 4 5 _ 1 _ _ rfl rfl rfl rfl rfl rfl rfl rfl size_u rfl (by simp [Value.oneCell'])
    · exact ok_store _ 5 6 _ 3 _ _ rfl rfl rfl rfl rfl rfl rfl rfl size_u rfl (by simp [Value.oneCell'])
  intro g w1 hN1 hB hD
  simp [frame, gives, Act.put]
  have B1 : Blk w1 (g 4) _ _ := (hB 4 _ _ 6 _ rfl rfl).2
  have B2 : Blk w1 (g 5) _ _ := (hB 5 _ _ 7 _ rfl rfl).2
  generalize g 4 = p1 at *
  generalize g 5 = p2 at *
  have N := new_trans hN hN1
  clear hB hD g hN hN1
  have hx1 := num_lt k1 a1 b1; generalize num k1 a1 b1 = x1 at *
  have hx2 := num_lt k2 a2 b2; generalize num k2 a2 b2 = x2 at *
  try clear c1 l1
  have c1 := B1.cell; have l1 := B1.lt
  try clear c2 l2
  have c2 := B2.cell; have l2 := B2.lt
  obtain ⟨d, e1⟩ : ∃ s, (x1 + M256 - x2) % M256 = s := ⟨_, rfl⟩
  have hd : d < M256 := e1 ▸ mod_lt _
  have e2 : decide (x1 < x2) = false := by simp; omega
  have e3 : cmpI x1 x2 = 1 := by unfold cmpI; rw [if_neg (by omega), if_pos hrel]
  have e4 : cmpI x2 x1 = -1 := by unfold cmpI; rw [if_pos hrel]
  have ez := zero_iff d hd
  have e5 : d ≠ 0 := by unfold M256 at *; omega
  rw [decide_eq_false e5] at ez
  clear e5 hrel
  have e1 := hide e1; have e2 := hide e2; have e3 := hide e3; have e4 := hide e4
  go_wp2_with fail
  refine (sub_is x1 x2 d false hx1 hx2 (unhide e1) (unhide e2) _).mono ?_
  rintro e w2 ⟨rfl, hb⟩
  have U : New w1 w2 := new_trans (by (repeat' (first | with_reducible exact new_refl _ | with_reducible assumption | with_reducible refine new_drewN ?_ _ | with_reducible refine new_drew ?_ | with_reducible refine new_alloc ?_ _ | with_reducible refine new_set ?_ ?_ _ | with_reducible refine new_freeze ?_ ?_ _ | with_reducible refine new_trans ?_ (by assumption) | (simp; done) | (simp; omega)))) hb
  have N : New w w2 := new_trans (by (repeat' (first | with_reducible exact new_refl _ | with_reducible assumption | with_reducible refine new_drewN ?_ _ | with_reducible refine new_drew ?_ | with_reducible refine new_alloc ?_ _ | with_reducible refine new_set ?_ ?_ _ | with_reducible refine new_freeze ?_ ?_ _ | with_reducible refine new_trans ?_ (by assumption) | (simp; done) | (simp; omega)))) hb
  have B1 := B1.up U
  have B2 := B2.up U
  try clear c1 l1
  have c1 := B1.cell; have l1 := B1.lt
  try clear c2 l2
  have c2 := B2.cell; have l2 := B2.lt
  clear hb U
  go_wp2_with fail
  refine (cmp_is x1 x2 1 hx1 hx2 (unhide e3) _).mono ?_
  rintro e w3 ⟨rfl, hb⟩
  have U : New w2 w3 := new_trans (by (repeat' (first | with_reducible exact new_refl _ | with_reducible assumption | with_reducible refine new_drewN ?_ _ | with_reducible refine new_drew ?_ | with_reducible refine new_alloc ?_ _ | with_reducible refine new_set ?_ ?_ _ | with_reducible refine new_freeze ?_ ?_ _ | with_reducible refine new_trans ?_ (by assumption) | (simp; done) | (simp; omega)))) hb
  have N : New w w3 := new_trans (by (repeat' (first | with_reducible exact new_refl _ | with_reducible assumption | with_reducible refine new_drewN ?_ _ | with_reducible refine new_drew ?_ | with_reducible refine new_alloc ?_ _ | with_reducible refine new_set ?_ ?_ _ | with_reducible refine new_freeze ?_ ?_ _ | with_reducible refine new_trans ?_ (by assumption) | (simp; done) | (simp; omega)))) hb
  have B1 := B1.up U
  have B2 := B2.up U
  have B3 := (Blk.new_ w2 26 (uc d)).up hb
  try clear c1 l1
  have c1 := B1.cell; have l1 := B1.lt
  try clear c2 l2
  have c2 := B2.cell; have l2 := B2.lt
  try clear c3 l3
  have c3 := B3.cell; have l3 := B3.lt
  clear hb U
  go_wp2_with fail
  refine (tells_any _).mono ?_
  rintro e w4 ⟨rfl, hb⟩
  have U : New w3 w4 := new_trans (by (repeat' (first | with_reducible exact new_refl _ | with_reducible assumption | with_reducible refine new_drewN ?_ _ | with_reducible refine new_drew ?_ | with_reducible refine new_alloc ?_ _ | with_reducible refine new_set ?_ ?_ _ | with_reducible refine new_freeze ?_ ?_ _ | with_reducible refine new_trans ?_ (by assumption) | (simp; done) | (simp; omega)))) hb
  have N : New w w4 := new_trans (by (repeat' (first | with_reducible exact new_refl _ | with_reducible assumption | with_reducible refine new_drewN ?_ _ | with_reducible refine new_drew ?_ | with_reducible refine new_alloc ?_ _ | with_reducible refine new_set ?_ ?_ _ | with_reducible refine new_freeze ?_ ?_ _ | with_reducible refine new_trans ?_ (by assumption) | (simp; done) | (simp; omega)))) hb
  have B1 := B1.up U
  have B2 := B2.up U
  have B3 := B3.up U
  try clear c1 l1
  have c1 := B1.cell; have l1 := B1.lt
  try clear c2 l2
  have c2 := B2.cell; have l2 := B2.lt
  try clear c3 l3
  have c3 := B3.cell; have l3 := B3.lt
  clear hb U
  go_wp2_with fail
  refine (cmp_is x2 x1 (-1) hx2 hx1 (unhide e4) _).mono ?_
  rintro e w5 ⟨rfl, hb⟩
  have U : New w4 w5 := new_trans (by (repeat' (first | with_reducible exact new_refl _ | with_reducible assumption | with_reducible refine new_drewN ?_ _ | with_reducible refine new_drew ?_ | with_reducible refine new_alloc ?_ _ | with_reducible refine new_set ?_ ?_ _ | with_reducible refine new_freeze ?_ ?_ _ | with_reducible refine new_trans ?_ (by assumption) | (simp; done) | (simp; omega)))) hb
  have N : New w w5 := new_trans (by (repeat' (first | with_reducible exact new_refl _ | with_reducible assumption | with_reducible refine new_drewN ?_ _ | with_reducible refine new_drew ?_ | with_reducible refine new_alloc ?_ _ | with_reducible refine new_set ?_ ?_ _ | with_reducible refine new_freeze ?_ ?_ _ | with_reducible refine new_trans ?_ (by assumption) | (simp; done) | (simp; omega)))) hb
  have B1 := B1.up U
  have B2 := B2.up U
  have B3 := B3.up U
  try clear c1 l1
  have c1 := B1.cell; have l1 := B1.lt
  try clear c2 l2
  have c2 := B2.cell; have l2 := B2.lt
  try clear c3 l3
  have c3 := B3.cell; have l3 := B3.lt
  clear hb U
  go_wp2_with fail
  refine (cmp_one _).mono ?_
  rintro e w6 ⟨rfl, hb⟩
  have U : New w5 w6 := new_trans (by (repeat' (first | with_reducible exact new_refl _ | with_reducible assumption | with_reducible refine new_drewN ?_ _ | with_reducible refine new_drew ?_ | with_reducible refine new_alloc ?_ _ | with_reducible refine new_set ?_ ?_ _ | with_reducible refine new_freeze ?_ ?_ _ | with_reducible refine new_trans ?_ (by assumption) | (simp; done) | (simp; omega)))) hb
  have N : New w w6 := new_trans (by (repeat' (first | with_reducible exact new_refl _ | with_reducible assumption | with_reducible refine new_drewN ?_ _ | with_reducible refine new_drew ?_ | with_reducible refine new_alloc ?_ _ | with_reducible refine new_set ?_ ?_ _ | with_reducible refine new_freeze ?_ ?_ _ | with_reducible refine new_trans ?_ (by assumption) | (simp; done) | (simp; omega)))) hb
  have B1 := B1.up U
  have B2 := B2.up U
  have B3 := B3.up U
  try clear c1 l1
  have c1 := B1.cell; have l1 := B1.lt
  try clear c2 l2
  have c2 := B2.cell; have l2 := B2.lt
  try clear c3 l3
  have c3 := B3.cell; have l3 := B3.lt
  clear hb U
  go_wp2
  all_goals go_ret
  all_goals exact ⟨by simp, N⟩

theorem walk (k1 a1 b1 k2 a2 b2 : Int) (s1 s2 : ByteArray) (w : World) :
    Calls Try.prog 5 #[.agg (raw k1 a1 b1 s1), .agg (raw k2 a2 b2 s2)] w fun e w' => e = .returned (.bool true) ∧ New w w' := by
  rcases Nat.lt_trichotomy (num k1 a1 b1) (num k2 a2 b2) with h | h | h
  · exact walk_lt k1 a1 b1 k2 a2 b2 s1 s2 h w
  · exact walk_eq k1 a1 b1 k2 a2 b2 s1 s2 h w
  · exact walk_gt k1 a1 b1 k2 a2 b2 s1 s2 h w

set_option maxRecDepth 100000 in
theorem lifted (os : Os) (started : os.Started) (H : Type) (enc : TypeId × Value → H) :
    ReturnsInHanded {} Try.checked os 5 .any (Rows.orderSubsSpec.pre6 enc Try.prog Try.f5 Rows.orderSubsRow.domain false) (Rows.orderSubsSpec.post enc Try.prog Try.f5 false true false false) := by
  refine returnsInHanded_of_change (C := Try.checked) own started (by kernel_rfl) Try.func5
    (ChangeSpec.witness6 (enc := enc) (C := Try.checked) false ⟨#[], #[.agg #[.int .i64 0, .int .i64 0, .int .i64 0, .string ⟨#[]⟩], .agg #[.int .i64 0, .int .i64 0, .int .i64 0, .string ⟨#[]⟩]], []⟩ 8 (by kernel_rfl) (by kernel_rfl) (by kernel_rfl) (by kernel_rfl)) ?_
  intro W base args ds gs before hval0 hW hcnd _
  have hval : ∀ (j : Nat) t v, Try.f5.params[j]? = some t → args[j]? = some v → Value.okWide Try.prog W .any base t v := hval0
  have hW' := hW
  obtain ⟨p, q, hA0, hV, rfl, hfz, hnd⟩ := hW
  have hA : DataW.TrodAll enc Try.prog W 0 (fun _ => true) true Try.f5.params.toList args.toList ds p := hA0
  rw [Try.params5] at hA hval
  obtain ⟨v0, vs0, d0, ds0, p0, q0, hargs, rfl, rfl, h0, r0⟩ := trodAll_cons hA
  obtain ⟨v1, vs1, d1, ds1, p1, q1, rfl, rfl, rfl, h1, r1⟩ := trodAll_cons r0
  obtain ⟨rfl, rfl, rfl⟩ := trodAll_nil r1
  obtain rfl : args = #[v0, v1] := by cases args; simp_all
  obtain ⟨rfl, rfl⟩ := trodVars_none hV
  obtain ⟨k1, a1, b1, s1, rfl, wk1, wa1, wb1, ws1⟩ := open_raw (hval 0 23 v0 rfl rfl) h0
  obtain ⟨k2, a2, b2, s2, rfl, wk2, wa2, wb2, ws2⟩ := open_raw (hval 1 23 v1 rfl rfl) h1
  refine (walk k1 a1 b1 k2 a2 b2 s1 s2 W).mono fun e W' ⟨he, hN⟩ => ?_
  subst he
  exact ⟨_, rfl, law_post laidOut (by kernel_rfl) (by kernel_rfl) Try.underlying4 rfl hW' rfl hN⟩

theorem holds : Rows.OrderSubsSaid :=
  OpenClaim.holds_of_wide 5 Try.f5 rfl rfl rfl rfl rfl rfl rfl ⟨rfl, rfl, rfl, rfl, rfl⟩ rfl rfl rfl rfl rfl (by kernel_rfl) Try.func5 (by kernel_rfl)
    (of_decide_eq_true (by kernel_rfl)) (by unfold Func.isWrapper; first | (rw [if_pos (by decide +kernel)]; kernel_rfl) | (rw [if_neg (by decide +kernel)]; exact ⟨rfl, rfl⟩))
    (fun os started H enc _ => lifted os started H enc)

#print axioms holds
end Go.Proofs.Ytcgdcnhggejgbaa.orderSubs
