/- ScaleBack: coarser, finer again and what was left is the whole: for every raw thing and every int the call returns true. No conditions. -/
import Derived.Test.YtcgdcnhggejgbaaRow
import Derived.Test.YtcgdcnhggejgbaaLaw
import Derived.Test.YtcgdcnhggejgbaaScale
namespace Go.Proofs.Ytcgdcnhggejgbaa.scaleBack
open Go.ChangeShapes Go.WideShapes Go.RowKit
set_option linter.unusedVariables false

set_option maxHeartbeats 2000000 in
theorem walk (k1 a1 b1 : Int) (s1 : ByteArray) (n2 : Int) (w : World) :
    Calls Try.prog 14 #[.agg (raw k1 a1 b1 s1), .int .i64 n2] w fun e w' => e = .returned (.bool true) ∧ New w w' := by
  have h0 := Int.emod_nonneg n2 (by decide : (78 : Int) ≠ 0)
  have h1 := Int.emod_lt_of_pos n2 (by decide : (0 : Int) < 78)
  go_enter Try.func14, Try.ntmps14
  go_wp2_with fail
  refine (number_any k1 a1 b1 s1 _).mono ?_
  rintro e w1 ⟨rfl, hb⟩
  have N : New w w1 := new_trans (by (repeat' (first | with_reducible exact new_refl _ | with_reducible assumption | with_reducible refine new_drewN ?_ _ | with_reducible refine new_drew ?_ | with_reducible refine new_alloc ?_ _ | with_reducible refine new_set ?_ ?_ _ | with_reducible refine new_freeze ?_ ?_ _ | with_reducible refine new_trans ?_ (by assumption) | (simp; done) | (simp; omega)))) hb
  clear hb
  have hx := num_lt k1 a1 b1; generalize num k1 a1 b1 = x at *
  go_wp2_with fail
  refine (picked_any n2 78 (by decide) (by decide) _).mono ?_
  rintro e w' ⟨rfl, rfl⟩
  obtain ⟨m, em⟩ := Int.eq_ofNat_of_zero_le h0
  rw [em] at h0 h1 ⊢
  clear em
  have hm : m < 78 := by omega
  obtain ⟨f, ef⟩ : ∃ f, p10 (m - 8) = f := ⟨_, rfl⟩
  have hf0 : 0 < f := by rw [← ef]; exact Nat.pow_pos (by decide)
  have hf : f < M256 := by rw [← ef]; exact p10_lt _ (by omega)
  obtain ⟨q, eq⟩ : ∃ q, x / f = q := ⟨_, rfl⟩
  obtain ⟨r, er⟩ : ∃ r, x % f = r := ⟨_, rfl⟩
  have hs := Nat.div_add_mod x f
  have hr := Nat.mod_lt x hf0
  rw [eq, er, Nat.mul_comm] at hs
  rw [er] at hr
  have hq : q < M256 := by rw [← eq]; exact Nat.lt_of_le_of_lt (Nat.div_le_self _ _) hx
  obtain ⟨l, el⟩ : ∃ l, q * f = l := ⟨_, rfl⟩
  rw [el] at hs
  have hl : l < M256 := by omega
  have hr' : r < M256 := by omega
  have es : (l + r) % M256 = x := by rw [hs]; exact Nat.mod_eq_of_lt hx
  have eo : decide (M256 ≤ l + r) = false := by simp; omega
  have ec : cmpI r f = -1 := by unfold cmpI; rw [if_pos hr]
  rw [← ef] at eq er el
  have ez : m ≤ 8 → (lim r 0 == 0 && (lim r 1 == 0 && (lim r 2 == 0 && lim r 3 == 0))) = true := fun h => by
    rw [zero_iff r hr']
    have : f = 1 := by rw [← ef, show m - 8 = 0 from by omega]; rfl
    exact decide_eq_true (by omega)
  have ez := hide ez; have ef := hide ef; have eq := hide eq; have er := hide er; have el := hide el; have es := hide es; have eo := hide eo; have ec := hide ec
  clear hs hr hf0
  go_wp2_with fail
  refine (down_any x m q r hx hm (unhide eq) (unhide er) _).mono ?_
  rintro e w2 ⟨rfl, hb⟩
  have U : New w1 w2 := new_trans (by (repeat' (first | with_reducible exact new_refl _ | with_reducible assumption | with_reducible refine new_drewN ?_ _ | with_reducible refine new_drew ?_ | with_reducible refine new_alloc ?_ _ | with_reducible refine new_set ?_ ?_ _ | with_reducible refine new_freeze ?_ ?_ _ | with_reducible refine new_trans ?_ (by assumption) | (simp; done) | (simp; omega)))) hb
  have N : New w w2 := new_trans (by (repeat' (first | with_reducible exact new_refl _ | with_reducible assumption | with_reducible refine new_drewN ?_ _ | with_reducible refine new_drew ?_ | with_reducible refine new_alloc ?_ _ | with_reducible refine new_set ?_ ?_ _ | with_reducible refine new_freeze ?_ ?_ _ | with_reducible refine new_trans ?_ (by assumption) | (simp; done) | (simp; omega)))) hb
  have B1 := (Blk.new_ w1 26 (uc x)).up hb
  try clear c1 l1
  have c1 := B1.cell; have l1 := B1.lt
  clear hb U
  go_wp2_with fail
  refine (up_any q m l hq hm (unhide el) hl _).mono ?_
  rintro e w3 ⟨rfl, hb⟩
  have U : New w2 w3 := new_trans (by (repeat' (first | with_reducible exact new_refl _ | with_reducible assumption | with_reducible refine new_drewN ?_ _ | with_reducible refine new_drew ?_ | with_reducible refine new_alloc ?_ _ | with_reducible refine new_set ?_ ?_ _ | with_reducible refine new_freeze ?_ ?_ _ | with_reducible refine new_trans ?_ (by assumption) | (simp; done) | (simp; omega)))) hb
  have N : New w w3 := new_trans (by (repeat' (first | with_reducible exact new_refl _ | with_reducible assumption | with_reducible refine new_drewN ?_ _ | with_reducible refine new_drew ?_ | with_reducible refine new_alloc ?_ _ | with_reducible refine new_set ?_ ?_ _ | with_reducible refine new_freeze ?_ ?_ _ | with_reducible refine new_trans ?_ (by assumption) | (simp; done) | (simp; omega)))) hb
  have B1 := B1.up U
  have B2 := ((Blk.new_ w2 26 (uc q)).al _).up hb
  have B3 := (Blk.new1 w2 _ 26 (uc r)).up hb
  try clear c1 l1
  have c1 := B1.cell; have l1 := B1.lt
  try clear c2 l2
  have c2 := B2.cell; have l2 := B2.lt
  try clear c3 l3
  have c3 := B3.cell; have l3 := B3.lt
  clear hb U
  go_wp2_with fail
  refine (add_is l r x false hl hr' (unhide es) (unhide eo) _).mono ?_
  rintro e w4 ⟨rfl, hb⟩
  have U : New w3 w4 := new_trans (by (repeat' (first | with_reducible exact new_refl _ | with_reducible assumption | with_reducible refine new_drewN ?_ _ | with_reducible refine new_drew ?_ | with_reducible refine new_alloc ?_ _ | with_reducible refine new_set ?_ ?_ _ | with_reducible refine new_freeze ?_ ?_ _ | with_reducible refine new_trans ?_ (by assumption) | (simp; done) | (simp; omega)))) hb
  have N : New w w4 := new_trans (by (repeat' (first | with_reducible exact new_refl _ | with_reducible assumption | with_reducible refine new_drewN ?_ _ | with_reducible refine new_drew ?_ | with_reducible refine new_alloc ?_ _ | with_reducible refine new_set ?_ ?_ _ | with_reducible refine new_freeze ?_ ?_ _ | with_reducible refine new_trans ?_ (by assumption) | (simp; done) | (simp; omega)))) hb
  have B1 := B1.up U
  have B2 := B2.up U
  have B3 := B3.up U
  have B4 := (Blk.new_ w3 26 (uc l)).up hb
  try clear c1 l1
  have c1 := B1.cell; have l1 := B1.lt
  try clear c2 l2
  have c2 := B2.cell; have l2 := B2.lt
  try clear c3 l3
  have c3 := B3.cell; have l3 := B3.lt
  try clear c4 l4
  have c4 := B4.cell; have l4 := B4.lt
  clear hb U
  go_wp2_with fail
  refine (up_one m f hm (unhide ef) _).mono ?_
  rintro e w5 ⟨rfl, hb⟩
  have U : New w4 w5 := new_trans (by (repeat' (first | with_reducible exact new_refl _ | with_reducible assumption | with_reducible refine new_drewN ?_ _ | with_reducible refine new_drew ?_ | with_reducible refine new_alloc ?_ _ | with_reducible refine new_set ?_ ?_ _ | with_reducible refine new_freeze ?_ ?_ _ | with_reducible refine new_trans ?_ (by assumption) | (simp; done) | (simp; omega)))) hb
  have N : New w w5 := new_trans (by (repeat' (first | with_reducible exact new_refl _ | with_reducible assumption | with_reducible refine new_drewN ?_ _ | with_reducible refine new_drew ?_ | with_reducible refine new_alloc ?_ _ | with_reducible refine new_set ?_ ?_ _ | with_reducible refine new_freeze ?_ ?_ _ | with_reducible refine new_trans ?_ (by assumption) | (simp; done) | (simp; omega)))) hb
  have B1 := B1.up U
  have B2 := B2.up U
  have B3 := B3.up U
  have B4 := B4.up U
  have B5 := (Blk.new_ w4 26 (uc x)).up hb
  try clear c1 l1
  have c1 := B1.cell; have l1 := B1.lt
  try clear c2 l2
  have c2 := B2.cell; have l2 := B2.lt
  try clear c3 l3
  have c3 := B3.cell; have l3 := B3.lt
  try clear c4 l4
  have c4 := B4.cell; have l4 := B4.lt
  try clear c5 l5
  have c5 := B5.cell; have l5 := B5.lt
  clear hb U
  go_wp2_with fail
  refine (up_bad q 78 (by decide) _).mono ?_
  rintro e w6 ⟨rfl, hb⟩
  have U : New w5 w6 := new_trans (by (repeat' (first | with_reducible exact new_refl _ | with_reducible assumption | with_reducible refine new_drewN ?_ _ | with_reducible refine new_drew ?_ | with_reducible refine new_alloc ?_ _ | with_reducible refine new_set ?_ ?_ _ | with_reducible refine new_freeze ?_ ?_ _ | with_reducible refine new_trans ?_ (by assumption) | (simp; done) | (simp; omega)))) hb
  have N : New w w6 := new_trans (by (repeat' (first | with_reducible exact new_refl _ | with_reducible assumption | with_reducible refine new_drewN ?_ _ | with_reducible refine new_drew ?_ | with_reducible refine new_alloc ?_ _ | with_reducible refine new_set ?_ ?_ _ | with_reducible refine new_freeze ?_ ?_ _ | with_reducible refine new_trans ?_ (by assumption) | (simp; done) | (simp; omega)))) hb
  have B1 := B1.up U
  have B2 := B2.up U
  have B3 := B3.up U
  have B4 := B4.up U
  have B5 := B5.up U
  have B6 := (Blk.new_ w5 26 (uc f)).up hb
  try clear c1 l1
  have c1 := B1.cell; have l1 := B1.lt
  try clear c2 l2
  have c2 := B2.cell; have l2 := B2.lt
  try clear c3 l3
  have c3 := B3.cell; have l3 := B3.lt
  try clear c4 l4
  have c4 := B4.cell; have l4 := B4.lt
  try clear c5 l5
  have c5 := B5.cell; have l5 := B5.lt
  try clear c6 l6
  have c6 := B6.cell; have l6 := B6.lt
  clear hb U
  go_wp2_with fail
  refine (cmp_is r f (-1) hr' hf (unhide ec) _).mono ?_
  rintro e w7 ⟨rfl, hb⟩
  have U : New w6 w7 := new_trans (by (repeat' (first | with_reducible exact new_refl _ | with_reducible assumption | with_reducible refine new_drewN ?_ _ | with_reducible refine new_drew ?_ | with_reducible refine new_alloc ?_ _ | with_reducible refine new_set ?_ ?_ _ | with_reducible refine new_freeze ?_ ?_ _ | with_reducible refine new_trans ?_ (by assumption) | (simp; done) | (simp; omega)))) hb
  have N : New w w7 := new_trans (by (repeat' (first | with_reducible exact new_refl _ | with_reducible assumption | with_reducible refine new_drewN ?_ _ | with_reducible refine new_drew ?_ | with_reducible refine new_alloc ?_ _ | with_reducible refine new_set ?_ ?_ _ | with_reducible refine new_freeze ?_ ?_ _ | with_reducible refine new_trans ?_ (by assumption) | (simp; done) | (simp; omega)))) hb
  have B1 := B1.up U
  have B2 := B2.up U
  have B3 := B3.up U
  have B4 := B4.up U
  have B5 := B5.up U
  have B6 := B6.up U
  have B7 := (Blk.new_ w6 26 (z4)).up hb
  try clear c1 l1
  have c1 := B1.cell; have l1 := B1.lt
  try clear c2 l2
  have c2 := B2.cell; have l2 := B2.lt
  try clear c3 l3
  have c3 := B3.cell; have l3 := B3.lt
  try clear c4 l4
  have c4 := B4.cell; have l4 := B4.lt
  try clear c5 l5
  have c5 := B5.cell; have l5 := B5.lt
  try clear c6 l6
  have c6 := B6.cell; have l6 := B6.lt
  try clear c7 l7
  have c7 := B7.cell; have l7 := B7.lt
  clear hb U
  by_cases h8 : 8 < (m : Int)
  · go_wp2
    go_ret
    exact ⟨by simp, N⟩
  · have ez := hide (unhide ez (by omega))
    go_wp2
    go_ret
    exact ⟨ret_bool (by have e := unhide ez; simp at e ⊢; exact .inr e), N⟩

set_option maxRecDepth 100000 in
theorem lifted (os : Os) (started : os.Started) (H : Type) (enc : TypeId × Value → H) :
    ReturnsInHanded {} Try.checked os 14 .any (Rows.scaleBackSpec.pre6 enc Try.prog Try.f14 Rows.scaleBackRow.domain false) (Rows.scaleBackSpec.post enc Try.prog Try.f14 false true false false) := by
  refine returnsInHanded_of_change (C := Try.checked) own started (by kernel_rfl) Try.func14
    (ChangeSpec.witness6 (enc := enc) (C := Try.checked) false ⟨#[], #[.agg #[.int .i64 0, .int .i64 0, .int .i64 0, .string ⟨#[]⟩], .int .i64 0], []⟩ 8 (by kernel_rfl) (by kernel_rfl) (by kernel_rfl) (by kernel_rfl)) ?_
  intro W base args ds gs before hval0 hW hcnd _
  have hval : ∀ (j : Nat) t v, Try.f14.params[j]? = some t → args[j]? = some v → Value.okWide Try.prog W .any base t v := hval0
  have hW' := hW
  obtain ⟨p, q, hA0, hV, rfl, hfz, hnd⟩ := hW
  have hA : DataW.TrodAll enc Try.prog W 0 (fun _ => true) true Try.f14.params.toList args.toList ds p := hA0
  rw [Try.params14] at hA hval
  obtain ⟨v0, vs0, d0, ds0, p0, q0, hargs, rfl, rfl, h0, r0⟩ := trodAll_cons hA
  obtain ⟨v1, vs1, d1, ds1, p1, q1, rfl, rfl, rfl, h1, r1⟩ := trodAll_cons r0
  obtain ⟨rfl, rfl, rfl⟩ := trodAll_nil r1
  obtain rfl : args = #[v0, v1] := by cases args; simp_all
  obtain ⟨rfl, rfl⟩ := trodVars_none hV
  obtain ⟨k1, a1, b1, s1, rfl, wk1, wa1, wb1, ws1⟩ := open_raw (hval 0 23 v0 rfl rfl) h0
  obtain ⟨n2, rfl, rfl, rfl, wn2⟩ := open_int Try.underlying3 (hval 1 3 v1 rfl rfl) h1
  refine (walk k1 a1 b1 s1 n2 W).mono fun e W' ⟨he, hN⟩ => ?_
  subst he
  exact ⟨_, rfl, law_post laidOut (by kernel_rfl) (by kernel_rfl) Try.underlying4 rfl hW' rfl hN⟩

theorem holds : Rows.ScaleBackSaid :=
  OpenClaim.holds_of_wide 14 Try.f14 rfl rfl rfl rfl rfl rfl rfl ⟨rfl, rfl, rfl, rfl, rfl⟩ rfl rfl rfl rfl rfl (by kernel_rfl) Try.func14 (by kernel_rfl)
    (of_decide_eq_true (by kernel_rfl)) (by unfold Func.isWrapper; first | (rw [if_pos (by decide +kernel)]; kernel_rfl) | (rw [if_neg (by decide +kernel)]; exact ⟨rfl, rfl⟩))
    (fun os started H enc _ => lifted os started H enc)

#print axioms holds
end Go.Proofs.Ytcgdcnhggejgbaa.scaleBack
