/- MulGroups: three are taken in any way, as far as 256 bits go: for every three raw things the call returns true, and they read as before. No conditions. -/
import Derived.Test.YtcgdcnhggejgbaaRow
import Derived.Test.YtcgdcnhggejgbaaLaw
import Derived.Test.YtcgdcnhggejgbaaMul
namespace Go.Proofs.Ytcgdcnhggejgbaa.mulGroups
open Go.ChangeShapes Go.WideShapes Go.RowKit

theorem walk (k1 a1 b1 k2 a2 b2 k3 a3 b3 : Int) (s1 s2 s3 : ByteArray) (w : World) :
    Calls Try.prog 9 #[.agg (raw k1 a1 b1 s1), .agg (raw k2 a2 b2 s2), .agg (raw k3 a3 b3 s3)] w fun e w' => e = .returned (.bool true) ∧ New w w' := by
  go_enter Try.func9, Try.ntmps9
  go_wp2
  obtain ⟨W, g1, g2, g3, eW, e1, e2, e3, hN, B1, B2, B3⟩ := box3 w (raw k1 a1 b1 s1) (raw k2 a2 b2 s2) (raw k3 a3 b3 s3) 23 23 23
  rw [← eW, ← e3, ← e2, ← e1]
  clear eW e1 e2 e3
  refine region_ok (by kernel_rfl) [.inl (.agg (raw k1 a1 b1 s1)), .inl (u (num k1 a1 b1)), .inl (.agg (raw k2 a2 b2 s2)), .inl (u (num k2 a2 b2)), .inl (.agg (raw k3 a3 b3 s3)), .inl (u (num k3 a3 b3)), .inr (.inl (26, z4)), .inr (.inl (26, z4)), .inr (.inl (26, z4)), .inr (.inr (6, uc (num k1 a1 b1))), .inr (.inr (7, uc (num k2 a2 b2))), .inr (.inr (8, uc (num k3 a3 b3)))] rfl (by kernel_rfl) rfl ?_ ?_
  · refine ⟨?_, ?_, ?_, ?_, ?_, ?_, ?_, ?_, ?_, ?_, ?_, ?_, trivial⟩
    · exact ok_load 23 3 g1 _ _ (0, 0) _ rfl (by decide) rfl B1 Try.underlying23 rfl size_raw
    · exact ok_call 16 _ _ _ _ _ rfl Try.func16 (by kernel_rfl) (by kernel_rfl) (fun a _ hp => by have h := hp 0 _ _ rfl rfl rfl; simp [h]) (number_any k1 a1 b1 s1)
    · exact ok_load 23 4 g2 _ _ (0, 0) _ rfl (by decide) rfl B2 Try.underlying23 rfl size_raw
    · exact ok_call 16 _ _ _ _ _ rfl Try.func16 (by kernel_rfl) (by kernel_rfl) (fun a _ hp => by have h := hp 2 _ _ rfl rfl rfl; simp [h]) (number_any k2 a2 b2 s2)
    · exact ok_load 23 5 g3 _ _ (0, 0) _ rfl (by decide) rfl B3 Try.underlying23 rfl size_raw
    · exact ok_call 16 _ _ _ _ _ rfl Try.func16 (by kernel_rfl) (by kernel_rfl) (fun a _ hp => by have h := hp 4 _ _ rfl rfl rfl; simp [h]) (number_any k3 a3 b3 s3)
    · exact ok_alloc _ _ rfl zero_u
    · exact ok_alloc _ _ rfl zero_u
    · exact ok_alloc _ _ rfl zero_u
    · exact ok_store _ 6 7 _ 1 _ _ rfl rfl rfl rfl rfl rfl rfl rfl size_u rfl (by simp [Value.oneCell'])
    · exact ok_store _ 7 8 _ 3 _ _ rfl rfl rfl rfl rfl rfl rfl rfl size_u rfl (by simp [Value.oneCell'])
    · exact ok_store _ 8 9 _ 5 _ _ rfl rfl rfl rfl rfl rfl rfl rfl size_u rfl (by simp [Value.oneCell'])
  intro g w1 hN1 hB hD
  simp [frame, gives, Act.put]
  have B1 : Blk w1 (g 6) _ _ := (hB 6 _ _ 9 _ rfl rfl).2
  have B2 : Blk w1 (g 7) _ _ := (hB 7 _ _ 10 _ rfl rfl).2
  have B3 : Blk w1 (g 8) _ _ := (hB 8 _ _ 11 _ rfl rfl).2
  generalize g 6 = p1 at *
  generalize g 7 = p2 at *
  generalize g 8 = p3 at *
  have N := new_trans hN hN1
  clear hB hD g hN hN1
  have hx1 := num_lt k1 a1 b1; generalize num k1 a1 b1 = x1 at *
  have hx2 := num_lt k2 a2 b2; generalize num k2 a2 b2 = x2 at *
  have hx3 := num_lt k3 a3 b3; generalize num k3 a3 b3 = x3 at *
  try clear c1 l1
  have c1 := B1.cell; have l1 := B1.lt
  try clear c2 l2
  have c2 := B2.cell; have l2 := B2.lt
  try clear c3 l3
  have c3 := B3.cell; have l3 := B3.lt
  have H : (x1 * x2 % M256 * x3) % M256 = (x1 * (x2 * x3 % M256)) % M256 := by rw [Nat.mod_mul_mod, Nat.mul_mod_mod, Nat.mul_assoc]
  obtain ⟨l, e1⟩ : ∃ s, x1 * x2 % M256 = s := ⟨_, rfl⟩
  obtain ⟨h, e2⟩ : ∃ s, x1 * x2 / M256 = s := ⟨_, rfl⟩
  obtain ⟨m, e3⟩ : ∃ s, x2 * x3 % M256 = s := ⟨_, rfl⟩
  obtain ⟨i, e4⟩ : ∃ s, x2 * x3 / M256 = s := ⟨_, rfl⟩
  obtain ⟨p, e5⟩ : ∃ s, x1 * m % M256 = s := ⟨_, rfl⟩
  obtain ⟨j, e6⟩ : ∃ s, x1 * m / M256 = s := ⟨_, rfl⟩
  obtain ⟨q, e7⟩ : ∃ s, l * x3 / M256 = s := ⟨_, rfl⟩
  have e8 : l * x3 % M256 = p := by rw [← e1, H, e3, e5]
  have hl : l < M256 := e1 ▸ mod_lt _
  have hm : m < M256 := e3 ▸ mod_lt _
  clear H
  have e1 := hide e1; have e2 := hide e2; have e3 := hide e3; have e4 := hide e4; have e5 := hide e5; have e6 := hide e6; have e7 := hide e7; have e8 := hide e8
  go_wp2_with fail
  refine (mul_is x1 x2 l h hx1 hx2 (unhide e1) (unhide e2) _).mono ?_
  rintro e w2 ⟨rfl, hb⟩
  have U : New w1 w2 := new_trans (by (repeat' (first | with_reducible exact new_refl _ | with_reducible assumption | with_reducible refine new_drewN ?_ _ | with_reducible refine new_drew ?_ | with_reducible refine new_alloc ?_ _ | with_reducible refine new_set ?_ ?_ _ | with_reducible refine new_freeze ?_ ?_ _ | with_reducible refine new_trans ?_ (by assumption) | (simp; done) | (simp; omega)))) hb
  have N : New w w2 := new_trans (by (repeat' (first | with_reducible exact new_refl _ | with_reducible assumption | with_reducible refine new_drewN ?_ _ | with_reducible refine new_drew ?_ | with_reducible refine new_alloc ?_ _ | with_reducible refine new_set ?_ ?_ _ | with_reducible refine new_freeze ?_ ?_ _ | with_reducible refine new_trans ?_ (by assumption) | (simp; done) | (simp; omega)))) hb
  have B1 := B1.up U
  have B2 := B2.up U
  have B3 := B3.up U
  try clear c1 l1
  have c1 := B1.cell; have l1 := B1.lt
  try clear c2 l2
  have c2 := B2.cell; have l2 := B2.lt
  try clear c3 l3
  have c3 := B3.cell; have l3 := B3.lt
  clear hb U
  go_wp2_with fail
  refine (mul_is x2 x3 m i hx2 hx3 (unhide e3) (unhide e4) _).mono ?_
  rintro e w3 ⟨rfl, hb⟩
  have U : New w2 w3 := new_trans (by (repeat' (first | with_reducible exact new_refl _ | with_reducible assumption | with_reducible refine new_drewN ?_ _ | with_reducible refine new_drew ?_ | with_reducible refine new_alloc ?_ _ | with_reducible refine new_set ?_ ?_ _ | with_reducible refine new_freeze ?_ ?_ _ | with_reducible refine new_trans ?_ (by assumption) | (simp; done) | (simp; omega)))) hb
  have N : New w w3 := new_trans (by (repeat' (first | with_reducible exact new_refl _ | with_reducible assumption | with_reducible refine new_drewN ?_ _ | with_reducible refine new_drew ?_ | with_reducible refine new_alloc ?_ _ | with_reducible refine new_set ?_ ?_ _ | with_reducible refine new_freeze ?_ ?_ _ | with_reducible refine new_trans ?_ (by assumption) | (simp; done) | (simp; omega)))) hb
  have B1 := B1.up U
  have B2 := B2.up U
  have B3 := B3.up U
  have B4 := ((Blk.new_ w2 26 (uc l)).al _).up hb
  have B5 := (Blk.new1 w2 _ 26 (uc h)).up hb
  try clear c1 l1
  have c1 := B1.cell; have l1 := B1.lt
  try clear c2 l2
  have c2 := B2.cell; have l2 := B2.lt
  try clear c3 l3
  have c3 := B3.cell; have l3 := B3.lt
  try clear c4 l4
  have c4 := B4.cell; have l4 := B4.lt
  try clear c5 l5
  have c5 := B5.cell; have l5 := B5.lt
  clear hb U
  go_wp2_with fail
  refine (mul_is l x3 p q hl hx3 (unhide e8) (unhide e7) _).mono ?_
  rintro e w4 ⟨rfl, hb⟩
  have U : New w3 w4 := new_trans (by (repeat' (first | with_reducible exact new_refl _ | with_reducible assumption | with_reducible refine new_drewN ?_ _ | with_reducible refine new_drew ?_ | with_reducible refine new_alloc ?_ _ | with_reducible refine new_set ?_ ?_ _ | with_reducible refine new_freeze ?_ ?_ _ | with_reducible refine new_trans ?_ (by assumption) | (simp; done) | (simp; omega)))) hb
  have N : New w w4 := new_trans (by (repeat' (first | with_reducible exact new_refl _ | with_reducible assumption | with_reducible refine new_drewN ?_ _ | with_reducible refine new_drew ?_ | with_reducible refine new_alloc ?_ _ | with_reducible refine new_set ?_ ?_ _ | with_reducible refine new_freeze ?_ ?_ _ | with_reducible refine new_trans ?_ (by assumption) | (simp; done) | (simp; omega)))) hb
  have B1 := B1.up U
  have B2 := B2.up U
  have B3 := B3.up U
  have B4 := B4.up U
  have B6 := ((Blk.new_ w3 26 (uc m)).al _).up hb
  have B7 := (Blk.new1 w3 _ 26 (uc i)).up hb
  try clear c1 l1
  have c1 := B1.cell; have l1 := B1.lt
  try clear c2 l2
  have c2 := B2.cell; have l2 := B2.lt
  try clear c3 l3
  have c3 := B3.cell; have l3 := B3.lt
  try clear c4 l4
  have c4 := B4.cell; have l4 := B4.lt
  try clear c6 l6
  have c6 := B6.cell; have l6 := B6.lt
  try clear c7 l7
  have c7 := B7.cell; have l7 := B7.lt
  clear hb U
  go_wp2_with fail
  refine (mul_is x1 m p j hx1 hm (unhide e5) (unhide e6) _).mono ?_
  rintro e w5 ⟨rfl, hb⟩
  have U : New w4 w5 := new_trans (by (repeat' (first | with_reducible exact new_refl _ | with_reducible assumption | with_reducible refine new_drewN ?_ _ | with_reducible refine new_drew ?_ | with_reducible refine new_alloc ?_ _ | with_reducible refine new_set ?_ ?_ _ | with_reducible refine new_freeze ?_ ?_ _ | with_reducible refine new_trans ?_ (by assumption) | (simp; done) | (simp; omega)))) hb
  have N : New w w5 := new_trans (by (repeat' (first | with_reducible exact new_refl _ | with_reducible assumption | with_reducible refine new_drewN ?_ _ | with_reducible refine new_drew ?_ | with_reducible refine new_alloc ?_ _ | with_reducible refine new_set ?_ ?_ _ | with_reducible refine new_freeze ?_ ?_ _ | with_reducible refine new_trans ?_ (by assumption) | (simp; done) | (simp; omega)))) hb
  have B1 := B1.up U
  have B2 := B2.up U
  have B3 := B3.up U
  have B6 := B6.up U
  have B8 := ((Blk.new_ w4 26 (uc p)).al _).up hb
  have B9 := (Blk.new1 w4 _ 26 (uc q)).up hb
  try clear c1 l1
  have c1 := B1.cell; have l1 := B1.lt
  try clear c2 l2
  have c2 := B2.cell; have l2 := B2.lt
  try clear c3 l3
  have c3 := B3.cell; have l3 := B3.lt
  try clear c6 l6
  have c6 := B6.cell; have l6 := B6.lt
  try clear c8 l8
  have c8 := B8.cell; have l8 := B8.lt
  try clear c9 l9
  have c9 := B9.cell; have l9 := B9.lt
  clear hb U
  go_wp2_with fail
  refine (tells_any _).mono ?_
  rintro e w6 ⟨rfl, hb⟩
  have U : New w5 w6 := new_trans (by (repeat' (first | with_reducible exact new_refl _ | with_reducible assumption | with_reducible refine new_drewN ?_ _ | with_reducible refine new_drew ?_ | with_reducible refine new_alloc ?_ _ | with_reducible refine new_set ?_ ?_ _ | with_reducible refine new_freeze ?_ ?_ _ | with_reducible refine new_trans ?_ (by assumption) | (simp; done) | (simp; omega)))) hb
  have N : New w w6 := new_trans (by (repeat' (first | with_reducible exact new_refl _ | with_reducible assumption | with_reducible refine new_drewN ?_ _ | with_reducible refine new_drew ?_ | with_reducible refine new_alloc ?_ _ | with_reducible refine new_set ?_ ?_ _ | with_reducible refine new_freeze ?_ ?_ _ | with_reducible refine new_trans ?_ (by assumption) | (simp; done) | (simp; omega)))) hb
  have B8 := B8.up U
  have B10 := ((Blk.new_ w5 26 (uc p)).al _).up hb
  have B11 := (Blk.new1 w5 _ 26 (uc j)).up hb
  try clear c8 l8
  have c8 := B8.cell; have l8 := B8.lt
  try clear c10 l10
  have c10 := B10.cell; have l10 := B10.lt
  try clear c11 l11
  have c11 := B11.cell; have l11 := B11.lt
  clear hb U
  go_wp2
  go_ret
  exact ⟨by simp, N⟩

set_option maxRecDepth 100000 in
theorem lifted (os : Os) (started : os.Started) (H : Type) (enc : TypeId × Value → H) :
    ReturnsInHanded {} Try.checked os 9 .any (Rows.mulGroupsSpec.pre6 enc Try.prog Try.f9 Rows.mulGroupsRow.domain false) (Rows.mulGroupsSpec.post enc Try.prog Try.f9 false true false false) := by
  refine returnsInHanded_of_change (C := Try.checked) own started (by kernel_rfl) Try.func9
    (ChangeSpec.witness6 (enc := enc) (C := Try.checked) false ⟨#[], #[.agg #[.int .i64 0, .int .i64 0, .int .i64 0, .string ⟨#[]⟩], .agg #[.int .i64 0, .int .i64 0, .int .i64 0, .string ⟨#[]⟩], .agg #[.int .i64 0, .int .i64 0, .int .i64 0, .string ⟨#[]⟩]], []⟩ 8 (by kernel_rfl) (by kernel_rfl) (by kernel_rfl) (by kernel_rfl)) ?_
  intro W base args ds gs before hval0 hW hcnd _
  have hval : ∀ (j : Nat) t v, Try.f9.params[j]? = some t → args[j]? = some v → Value.okWide Try.prog W .any base t v := hval0
  have hW' := hW
  obtain ⟨p, q, hA0, hV, rfl, hfz, hnd⟩ := hW
  have hA : DataW.TrodAll enc Try.prog W 0 (fun _ => true) true Try.f9.params.toList args.toList ds p := hA0
  rw [Try.params9] at hA hval
  obtain ⟨v0, vs0, d0, ds0, p0, q0, hargs, rfl, rfl, h0, r0⟩ := trodAll_cons hA
  obtain ⟨v1, vs1, d1, ds1, p1, q1, rfl, rfl, rfl, h1, r1⟩ := trodAll_cons r0
  obtain ⟨v2, vs2, d2, ds2, p2, q2, rfl, rfl, rfl, h2, r2⟩ := trodAll_cons r1
  obtain ⟨rfl, rfl, rfl⟩ := trodAll_nil r2
  obtain rfl : args = #[v0, v1, v2] := by cases args; simp_all
  obtain ⟨rfl, rfl⟩ := trodVars_none hV
  obtain ⟨k1, a1, b1, s1, rfl, wk1, wa1, wb1, ws1⟩ := open_raw (hval 0 23 v0 rfl rfl) h0
  obtain ⟨k2, a2, b2, s2, rfl, wk2, wa2, wb2, ws2⟩ := open_raw (hval 1 23 v1 rfl rfl) h1
  obtain ⟨k3, a3, b3, s3, rfl, wk3, wa3, wb3, ws3⟩ := open_raw (hval 2 23 v2 rfl rfl) h2
  refine (walk k1 a1 b1 k2 a2 b2 k3 a3 b3 s1 s2 s3 W).mono fun e W' ⟨he, hN⟩ => ?_
  subst he
  exact ⟨_, rfl, law_post laidOut (by kernel_rfl) (by kernel_rfl) Try.underlying4 rfl hW' rfl hN⟩

theorem holds : Rows.MulGroupsSaid :=
  OpenClaim.holds_of_wide 9 Try.f9 rfl rfl rfl rfl rfl rfl rfl ⟨rfl, rfl, rfl, rfl, rfl⟩ rfl rfl rfl rfl rfl (by kernel_rfl) Try.func9 (by kernel_rfl)
    (of_decide_eq_true (by kernel_rfl)) (by unfold Func.isWrapper; first | (rw [if_pos (by decide +kernel)]; kernel_rfl) | (rw [if_neg (by decide +kernel)]; exact ⟨rfl, rfl⟩))
    (fun os started H enc _ => lifted os started H enc)

#print axioms holds
end Go.Proofs.Ytcgdcnhggejgbaa.mulGroups
