/- DivBack: a quotient times what it was taken by, and what is left, is the whole again: for every two raw things the call returns true, and they read as before. No conditions. -/
import Derived.Test.YtcgdcnhggejgbaaRow
import Derived.Test.YtcgdcnhggejgbaaLaw
import Derived.Test.YtcgdcnhggejgbaaDiv
namespace Go.Proofs.Ytcgdcnhggejgbaa.divBack
open Go.ChangeShapes Go.WideShapes Go.RowKit
set_option linter.unusedVariables false

theorem div_nought (a b : Nat) (hb : b = 0) (w : World) :
    Calls Try.prog 27 #[u a, u b] w fun e w' => e = .returned (.tuple #[.agg #[.int .u64 0, .int .u64 0, .int .u64 0, .int .u64 0], .agg #[.int .u64 0, .int .u64 0, .int .u64 0, .int .u64 0], .int .i64 7]) ∧ New w w' := by
  subst hb; rw [u_zero]; exact divmod_zero a w

theorem div_is (a b q r : Nat) (ha : a < M256) (hb : b < M256) (hb0 : 0 < b) (hq : a / b = q) (hr : a % b = r) (w : World) :
    Calls Try.prog 27 #[u a, u b] w fun e w' => e = .returned (.tuple #[u q, u r, .int .i64 0]) ∧ New w w' := hq ▸ hr ▸ divmod_any a b ha hb hb0 w

theorem mul_low (q b l : Nat) (hq : q < M256) (hb : b < M256) (hl : q * b % M256 = l) (hh : q * b < M256) (w : World) :
    Calls Try.prog 24 #[u q, u b] w fun e w' => e = .returned (.tuple #[u l, .agg #[.int .u64 0, .int .u64 0, .int .u64 0, .int .u64 0]]) ∧ New w w' := by
  have h := mul_is q b l 0 hq hb hl (Nat.div_eq_of_lt hh) w
  rw [u_zero] at h
  exact h

set_option maxHeartbeats 1000000 in
theorem walk_0 (k1 a1 b1 k2 a2 b2 : Int) (s1 s2 : ByteArray) (h0 : num k2 a2 b2 = 0) (w : World) :
    Calls Try.prog 11 #[.agg (raw k1 a1 b1 s1), .agg (raw k2 a2 b2 s2)] w fun e w' => e = .returned (.bool true) ∧ New w w' := by
  have h0 := hide h0
  go_enter Try.func11, Try.ntmps11
  go_wp2
  obtain ⟨W, g1, g2, eW, e1, e2, hN, B1, B2⟩ := box2 w (raw k1 a1 b1 s1) (raw k2 a2 b2 s2) 23 23
  rw [← eW, ← e2, ← e1]
  clear eW e1 e2
  refine region_ok (by kernel_rfl) [.inl (.agg (raw k1 a1 b1 s1)), .inl (u (num k1 a1 b1)), .inl (.agg (raw k2 a2 b2 s2)), .inl (u (num k2 a2 b2)), .inr (.inl (26, z4)), .inr (.inl (26, z4)), .inr (.inr (4, uc (num k1 a1 b1))), .inr (.inr (5, uc (num k2 a2 b2)))] rfl (by kernel_rfl) rfl ?_ ?_
  · refine ⟨?_, ?_, ?_, ?_, ?_, ?_, ?_, ?_, trivial⟩
    · exact ok_load 23 2 g1 _ _ (0, 0) _ rfl (by decide) rfl B1 Try.underlying23 rfl size_raw
    · exact ok_call 16 _ _ _ _ _ rfl Try.func16 (by kernel_rfl) (by kernel_rfl) (fun a _ hp => by have h := hp 0 _ _ rfl rfl rfl; simp [h]) (number_any k1 a1 b1 s1)
    · exact ok_load 23 3 g2 _ _ (0, 0) _ rfl (by decide) rfl B2 Try.underlying23 rfl size_raw
    · exact ok_call 16 _ _ _ _ _ rfl Try.func16 (by kernel_rfl) (by kernel_rfl) (fun a _ hp => by have h := hp 2 _ _ rfl rfl rfl; simp [h]) (number_any k2 a2 b2 s2)
    · exact ok_alloc _ _ rfl zero_u
    · exact ok_alloc _ _ rfl zero_u
    · exact ok_store _ 4 5 _ 1 _ _ rfl rfl rfl rfl rfl rfl rfl rfl size_u rfl (by simp [Value.oneCell'])
    · exact ok_store _ 5 6 _ 3 _ _ rfl rfl rfl rfl rfl rfl rfl rfl size_u rfl (by simp [Value.oneCell'])
  intro g w1 hN1 hB hD
  simp [frame, gives, Act.put]
  have B1 : Blk w1 (g 4) _ _ := (hB 4 _ _ 6 _ rfl rfl).2
  have B2 : Blk w1 (g 5) _ _ := (hB 5 _ _ 7 _ rfl rfl).2
  generalize g 4 = p1 at *
  generalize g 5 = p2 at *
  have N := new_trans hN hN1
  clear hB hD g hN hN1
  have hx1 := num_lt k1 a1 b1; generalize num k1 a1 b1 = x1 at *
  have hx2 := num_lt k2 a2 b2; generalize num k2 a2 b2 = x2 at *
  try clear c1 l1
  have c1 := B1.cell; have l1 := B1.lt
  try clear c2 l2
  have c2 := B2.cell; have l2 := B2.lt
  have h0 := unhide h0
  subst h0
  rw [uc_zero] at B2
  clear c2
  have c2 := B2.cell
  go_wp2_with fail
  refine (divmod_zero x1 _).mono ?_
  rintro e w2 ⟨rfl, hb⟩
  have U : New w1 w2 := new_trans (by (repeat' (first | with_reducible exact new_refl _ | with_reducible assumption | with_reducible refine new_drewN ?_ _ | with_reducible refine new_drew ?_ | with_reducible refine new_alloc ?_ _ | with_reducible refine new_set ?_ ?_ _ | with_reducible refine new_freeze ?_ ?_ _ | with_reducible refine new_trans ?_ (by assumption) | (simp; done) | (simp; omega)))) hb
  have N : New w w2 := new_trans (by (repeat' (first | with_reducible exact new_refl _ | with_reducible assumption | with_reducible refine new_drewN ?_ _ | with_reducible refine new_drew ?_ | with_reducible refine new_alloc ?_ _ | with_reducible refine new_set ?_ ?_ _ | with_reducible refine new_freeze ?_ ?_ _ | with_reducible refine new_trans ?_ (by assumption) | (simp; done) | (simp; omega)))) hb
  have B1 := B1.up U
  have B2 := B2.up U
  try clear c1 l1
  have c1 := B1.cell; have l1 := B1.lt
  try clear c2 l2
  have c2 := B2.cell; have l2 := B2.lt
  clear hb U
  go_wp2
  go_ret
  exact ⟨by simp, by (repeat' (first | with_reducible exact new_refl _ | with_reducible assumption | with_reducible refine new_drewN ?_ _ | with_reducible refine new_drew ?_ | with_reducible refine new_alloc ?_ _ | with_reducible refine new_set ?_ ?_ _ | with_reducible refine new_freeze ?_ ?_ _ | with_reducible refine new_trans ?_ (by assumption) | (simp; done) | (simp; omega)))⟩

set_option maxHeartbeats 1000000 in
theorem walk_1 (k1 a1 b1 k2 a2 b2 : Int) (s1 s2 : ByteArray) (h0 : num k2 a2 b2 ≠ 0) (w : World) :
    Calls Try.prog 11 #[.agg (raw k1 a1 b1 s1), .agg (raw k2 a2 b2 s2)] w fun e w' => e = .returned (.bool true) ∧ New w w' := by
  have h0 := hide h0
  go_enter Try.func11, Try.ntmps11
  go_wp2
  obtain ⟨W, g1, g2, eW, e1, e2, hN, B1, B2⟩ := box2 w (raw k1 a1 b1 s1) (raw k2 a2 b2 s2) 23 23
  rw [← eW, ← e2, ← e1]
  clear eW e1 e2
  refine region_ok (by kernel_rfl) [.inl (.agg (raw k1 a1 b1 s1)), .inl (u (num k1 a1 b1)), .inl (.agg (raw k2 a2 b2 s2)), .inl (u (num k2 a2 b2)), .inr (.inl (26, z4)), .inr (.inl (26, z4)), .inr (.inr (4, uc (num k1 a1 b1))), .inr (.inr (5, uc (num k2 a2 b2)))] rfl (by kernel_rfl) rfl ?_ ?_
  · refine ⟨?_, ?_, ?_, ?_, ?_, ?_, ?_, ?_, trivial⟩
    · exact ok_load 23 2 g1 _ _ (0, 0) _ rfl (by decide) rfl B1 Try.underlying23 rfl size_raw
    · exact ok_call 16 _ _ _ _ _ rfl Try.func16 (by kernel_rfl) (by kernel_rfl) (fun a _ hp => by have h := hp 0 _ _ rfl rfl rfl; simp [h]) (number_any k1 a1 b1 s1)
    · exact ok_load 23 3 g2 _ _ (0, 0) _ rfl (by decide) rfl B2 Try.underlying23 rfl size_raw
    · exact ok_call 16 _ _ _ _ _ rfl Try.func16 (by kernel_rfl) (by kernel_rfl) (fun a _ hp => by have h := hp 2 _ _ rfl rfl rfl; simp [h]) (number_any k2 a2 b2 s2)
    · exact ok_alloc _ _ rfl zero_u
    · exact ok_alloc _ _ rfl zero_u
    · exact ok_store _ 4 5 _ 1 _ _ rfl rfl rfl rfl rfl rfl rfl rfl size_u rfl (by simp [Value.oneCell'])
    · exact ok_store _ 5 6 _ 3 _ _ rfl rfl rfl rfl rfl rfl rfl rfl size_u rfl (by simp [Value.oneCell'])
  intro g w1 hN1 hB hD
  simp [frame, gives, Act.put]
  have B1 : Blk w1 (g 4) _ _ := (hB 4 _ _ 6 _ rfl rfl).2
  have B2 : Blk w1 (g 5) _ _ := (hB 5 _ _ 7 _ rfl rfl).2
  generalize g 4 = p1 at *
  generalize g 5 = p2 at *
  have N := new_trans hN hN1
  clear hB hD g hN hN1
  have hx1 := num_lt k1 a1 b1; generalize num k1 a1 b1 = x1 at *
  have hx2 := num_lt k2 a2 b2; generalize num k2 a2 b2 = x2 at *
  try clear c1 l1
  have c1 := B1.cell; have l1 := B1.lt
  try clear c2 l2
  have c2 := B2.cell; have l2 := B2.lt
  have h0 := unhide h0
  have ez := zero_iff x2 hx2
  rw [decide_eq_false h0] at ez
  obtain ⟨q, eq⟩ : ∃ q, x1 / x2 = q := ⟨_, rfl⟩
  obtain ⟨r, er⟩ : ∃ r, x1 % x2 = r := ⟨_, rfl⟩
  have hs := Nat.div_add_mod x1 x2
  have hr := Nat.mod_lt x1 (Nat.pos_of_ne_zero h0)
  rw [eq, er, Nat.mul_comm] at hs
  rw [er] at hr
  have hq : q < M256 := by rw [← eq]; exact Nat.lt_of_le_of_lt (Nat.div_le_self _ _) hx1
  have hp : q * x2 < M256 := by omega
  obtain ⟨l, el⟩ : ∃ l, q * x2 = l := ⟨_, rfl⟩
  have el' : q * x2 % M256 = l := by rw [Nat.mod_eq_of_lt hp, el]
  have hl : l < M256 := el ▸ hp
  have hr' : r < M256 := by omega
  have es : (l + r) % M256 = x1 := by rw [← el, hs]; exact Nat.mod_eq_of_lt hx1
  have eo : decide (M256 ≤ l + r) = false := by simp; omega
  have ec : cmpI r x2 = -1 := by unfold cmpI; rw [if_pos hr]
  have h0 := hide (Nat.pos_of_ne_zero h0)
  have eq := hide eq; have er := hide er; have hp := hide hp; have el := hide el; have el' := hide el'; have es := hide es; have eo := hide eo; have ec := hide ec
  clear hs hr
  go_wp2_with fail
  refine (div_is x1 x2 q r hx1 hx2 (unhide h0) (unhide eq) (unhide er) _).mono ?_
  rintro e w2 ⟨rfl, hb⟩
  have U : New w1 w2 := new_trans (by (repeat' (first | with_reducible exact new_refl _ | with_reducible assumption | with_reducible refine new_drewN ?_ _ | with_reducible refine new_drew ?_ | with_reducible refine new_alloc ?_ _ | with_reducible refine new_set ?_ ?_ _ | with_reducible refine new_freeze ?_ ?_ _ | with_reducible refine new_trans ?_ (by assumption) | (simp; done) | (simp; omega)))) hb
  have N : New w w2 := new_trans (by (repeat' (first | with_reducible exact new_refl _ | with_reducible assumption | with_reducible refine new_drewN ?_ _ | with_reducible refine new_drew ?_ | with_reducible refine new_alloc ?_ _ | with_reducible refine new_set ?_ ?_ _ | with_reducible refine new_freeze ?_ ?_ _ | with_reducible refine new_trans ?_ (by assumption) | (simp; done) | (simp; omega)))) hb
  have B1 := B1.up U
  have B2 := B2.up U
  try clear c1 l1
  have c1 := B1.cell; have l1 := B1.lt
  try clear c2 l2
  have c2 := B2.cell; have l2 := B2.lt
  clear hb U
  go_wp2_with fail
  refine (mul_low q x2 l hq hx2 (unhide el') (unhide hp) _).mono ?_
  rintro e w3 ⟨rfl, hb⟩
  have U : New w2 w3 := new_trans (by (repeat' (first | with_reducible exact new_refl _ | with_reducible assumption | with_reducible refine new_drewN ?_ _ | with_reducible refine new_drew ?_ | with_reducible refine new_alloc ?_ _ | with_reducible refine new_set ?_ ?_ _ | with_reducible refine new_freeze ?_ ?_ _ | with_reducible refine new_trans ?_ (by assumption) | (simp; done) | (simp; omega)))) hb
  have N : New w w3 := new_trans (by (repeat' (first | with_reducible exact new_refl _ | with_reducible assumption | with_reducible refine new_drewN ?_ _ | with_reducible refine new_drew ?_ | with_reducible refine new_alloc ?_ _ | with_reducible refine new_set ?_ ?_ _ | with_reducible refine new_freeze ?_ ?_ _ | with_reducible refine new_trans ?_ (by assumption) | (simp; done) | (simp; omega)))) hb
  have B1 := B1.up U
  have B2 := B2.up U
  have B3 := ((Blk.new_ w2 26 (uc q)).al _).up hb
  have B4 := (Blk.new1 w2 _ 26 (uc r)).up hb
  try clear c1 l1
  have c1 := B1.cell; have l1 := B1.lt
  try clear c2 l2
  have c2 := B2.cell; have l2 := B2.lt
  try clear c3 l3
  have c3 := B3.cell; have l3 := B3.lt
  try clear c4 l4
  have c4 := B4.cell; have l4 := B4.lt
  clear hb U
  go_wp2_with fail
  refine (add_is l r x1 false hl hr' (unhide es) (unhide eo) _).mono ?_
  rintro e w4 ⟨rfl, hb⟩
  have U : New w3 w4 := new_trans (by (repeat' (first | with_reducible exact new_refl _ | with_reducible assumption | with_reducible refine new_drewN ?_ _ | with_reducible refine new_drew ?_ | with_reducible refine new_alloc ?_ _ | with_reducible refine new_set ?_ ?_ _ | with_reducible refine new_freeze ?_ ?_ _ | with_reducible refine new_trans ?_ (by assumption) | (simp; done) | (simp; omega)))) hb
  have N : New w w4 := new_trans (by (repeat' (first | with_reducible exact new_refl _ | with_reducible assumption | with_reducible refine new_drewN ?_ _ | with_reducible refine new_drew ?_ | with_reducible refine new_alloc ?_ _ | with_reducible refine new_set ?_ ?_ _ | with_reducible refine new_freeze ?_ ?_ _ | with_reducible refine new_trans ?_ (by assumption) | (simp; done) | (simp; omega)))) hb
  have B1 := B1.up U
  have B2 := B2.up U
  have B3 := B3.up U
  have B4 := B4.up U
  have B5 := ((Blk.new_ w3 26 (uc l)).al _).up hb
  have B6 := (Blk.new1 w3 _ 26 (z4)).up hb
  try clear c1 l1
  have c1 := B1.cell; have l1 := B1.lt
  try clear c2 l2
  have c2 := B2.cell; have l2 := B2.lt
  try clear c3 l3
  have c3 := B3.cell; have l3 := B3.lt
  try clear c4 l4
  have c4 := B4.cell; have l4 := B4.lt
  try clear c5 l5
  have c5 := B5.cell; have l5 := B5.lt
  try clear c6 l6
  have c6 := B6.cell; have l6 := B6.lt
  clear hb U
  go_wp2_with fail
  refine (tells_any _).mono ?_
  rintro e w5 ⟨rfl, hb⟩
  have U : New w4 w5 := new_trans (by (repeat' (first | with_reducible exact new_refl _ | with_reducible assumption | with_reducible refine new_drewN ?_ _ | with_reducible refine new_drew ?_ | with_reducible refine new_alloc ?_ _ | with_reducible refine new_set ?_ ?_ _ | with_reducible refine new_freeze ?_ ?_ _ | with_reducible refine new_trans ?_ (by assumption) | (simp; done) | (simp; omega)))) hb
  have N : New w w5 := new_trans (by (repeat' (first | with_reducible exact new_refl _ | with_reducible assumption | with_reducible refine new_drewN ?_ _ | with_reducible refine new_drew ?_ | with_reducible refine new_alloc ?_ _ | with_reducible refine new_set ?_ ?_ _ | with_reducible refine new_freeze ?_ ?_ _ | with_reducible refine new_trans ?_ (by assumption) | (simp; done) | (simp; omega)))) hb
  have B1 := B1.up U
  have B2 := B2.up U
  have B3 := B3.up U
  have B4 := B4.up U
  have B5 := B5.up U
  have B6 := B6.up U
  have B7 := (Blk.new_ w4 26 (uc x1)).up hb
  try clear c1 l1
  have c1 := B1.cell; have l1 := B1.lt
  try clear c2 l2
  have c2 := B2.cell; have l2 := B2.lt
  try clear c3 l3
  have c3 := B3.cell; have l3 := B3.lt
  try clear c4 l4
  have c4 := B4.cell; have l4 := B4.lt
  try clear c5 l5
  have c5 := B5.cell; have l5 := B5.lt
  try clear c6 l6
  have c6 := B6.cell; have l6 := B6.lt
  try clear c7 l7
  have c7 := B7.cell; have l7 := B7.lt
  clear hb U
  go_wp2_with fail
  refine (cmp_is r x2 (-1) hr' hx2 (unhide ec) _).mono ?_
  rintro e w6 ⟨rfl, hb⟩
  have U : New w5 w6 := new_trans (by (repeat' (first | with_reducible exact new_refl _ | with_reducible assumption | with_reducible refine new_drewN ?_ _ | with_reducible refine new_drew ?_ | with_reducible refine new_alloc ?_ _ | with_reducible refine new_set ?_ ?_ _ | with_reducible refine new_freeze ?_ ?_ _ | with_reducible refine new_trans ?_ (by assumption) | (simp; done) | (simp; omega)))) hb
  have N : New w w6 := new_trans (by (repeat' (first | with_reducible exact new_refl _ | with_reducible assumption | with_reducible refine new_drewN ?_ _ | with_reducible refine new_drew ?_ | with_reducible refine new_alloc ?_ _ | with_reducible refine new_set ?_ ?_ _ | with_reducible refine new_freeze ?_ ?_ _ | with_reducible refine new_trans ?_ (by assumption) | (simp; done) | (simp; omega)))) hb
  have B1 := B1.up U
  have B2 := B2.up U
  have B3 := B3.up U
  have B4 := B4.up U
  have B5 := B5.up U
  have B6 := B6.up U
  have B7 := B7.up U
  try clear c1 l1
  have c1 := B1.cell; have l1 := B1.lt
  try clear c2 l2
  have c2 := B2.cell; have l2 := B2.lt
  try clear c3 l3
  have c3 := B3.cell; have l3 := B3.lt
  try clear c4 l4
  have c4 := B4.cell; have l4 := B4.lt
  try clear c5 l5
  have c5 := B5.cell; have l5 := B5.lt
  try clear c6 l6
  have c6 := B6.cell; have l6 := B6.lt
  try clear c7 l7
  have c7 := B7.cell; have l7 := B7.lt
  clear hb U
  go_wp2
  go_ret
  exact ⟨by simp, N⟩

theorem walk (k1 a1 b1 k2 a2 b2 : Int) (s1 s2 : ByteArray) (w : World) :
    Calls Try.prog 11 #[.agg (raw k1 a1 b1 s1), .agg (raw k2 a2 b2 s2)] w fun e w' => e = .returned (.bool true) ∧ New w w' := by
  by_cases h : num k2 a2 b2 = 0
  · exact walk_0 k1 a1 b1 k2 a2 b2 s1 s2 h w
  · exact walk_1 k1 a1 b1 k2 a2 b2 s1 s2 h w

set_option maxRecDepth 100000 in
theorem lifted (os : Os) (started : os.Started) (H : Type) (enc : TypeId × Value → H) :
    ReturnsInHanded {} Try.checked os 11 .any (Rows.divBackSpec.pre6 enc Try.prog Try.f11 Rows.divBackRow.domain false) (Rows.divBackSpec.post enc Try.prog Try.f11 false true false false) := by
  refine returnsInHanded_of_change (C := Try.checked) own started (by kernel_rfl) Try.func11
    (ChangeSpec.witness6 (enc := enc) (C := Try.checked) false ⟨#[], #[.agg #[.int .i64 0, .int .i64 0, .int .i64 0, .string ⟨#[]⟩], .agg #[.int .i64 0, .int .i64 0, .int .i64 0, .string ⟨#[]⟩]], []⟩ 8 (by kernel_rfl) (by kernel_rfl) (by kernel_rfl) (by kernel_rfl)) ?_
  intro W base args ds gs before hval0 hW hcnd _
  have hval : ∀ (j : Nat) t v, Try.f11.params[j]? = some t → args[j]? = some v → Value.okWide Try.prog W .any base t v := hval0
  have hW' := hW
  obtain ⟨p, q, hA0, hV, rfl, hfz, hnd⟩ := hW
  have hA : DataW.TrodAll enc Try.prog W 0 (fun _ => true) true Try.f11.params.toList args.toList ds p := hA0
  rw [Try.params11] at hA hval
  obtain ⟨v0, vs0, d0, ds0, p0, q0, hargs, rfl, rfl, h0, r0⟩ := trodAll_cons hA
  obtain ⟨v1, vs1, d1, ds1, p1, q1, rfl, rfl, rfl, h1, r1⟩ := trodAll_cons r0
  obtain ⟨rfl, rfl, rfl⟩ := trodAll_nil r1
  obtain rfl : args = #[v0, v1] := by cases args; simp_all
  obtain ⟨rfl, rfl⟩ := trodVars_none hV
  obtain ⟨k1, a1, b1, s1, rfl, wk1, wa1, wb1, ws1⟩ := open_raw (hval 0 23 v0 rfl rfl) h0
  obtain ⟨k2, a2, b2, s2, rfl, wk2, wa2, wb2, ws2⟩ := open_raw (hval 1 23 v1 rfl rfl) h1
  refine (walk k1 a1 b1 k2 a2 b2 s1 s2 W).mono fun e W' ⟨he, hN⟩ => ?_
  subst he
  exact ⟨_, rfl, law_post laidOut (by kernel_rfl) (by kernel_rfl) Try.underlying4 rfl hW' rfl hN⟩

theorem holds : Rows.DivBackSaid :=
  OpenClaim.holds_of_wide 11 Try.f11 rfl rfl rfl rfl rfl rfl rfl ⟨rfl, rfl, rfl, rfl, rfl⟩ rfl rfl rfl rfl rfl (by kernel_rfl) Try.func11 (by kernel_rfl)
    (of_decide_eq_true (by kernel_rfl)) (by unfold Func.isWrapper; first | (rw [if_pos (by decide +kernel)]; kernel_rfl) | (rw [if_neg (by decide +kernel)]; exact ⟨rfl, rfl⟩))
    (fun os started H enc _ => lifted os started H enc)

#print axioms holds
end Go.Proofs.Ytcgdcnhggejgbaa.divBack
