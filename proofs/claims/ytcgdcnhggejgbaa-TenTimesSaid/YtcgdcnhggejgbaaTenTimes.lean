/- TenTimes: a power of ten so often as another is one: for every two ints the call returns true. No conditions. -/
import Derived.Test.YtcgdcnhggejgbaaRow
import Derived.Test.YtcgdcnhggejgbaaLaw
import Derived.Test.YtcgdcnhggejgbaaTen
namespace Go.Proofs.Ytcgdcnhggejgbaa.tenTimes
open Go.ChangeShapes Go.WideShapes Go.RowKit
set_option linter.unusedVariables false

theorem nonzero (k : Nat) (hk : k < 78) : (lim (p10 k) 0 == 0 && (lim (p10 k) 1 == 0 && (lim (p10 k) 2 == 0 && lim (p10 k) 3 == 0))) = false := by
  have := same_iff (p10 k) 0 (p10_lt k hk) (by decide)
  have z0 : lim 0 0 = 0 := by decide
  have z1 : lim 0 1 = 0 := by decide
  have z2 : lim 0 2 = 0 := by decide
  have z3 : lim 0 3 = 0 := by decide
  rw [z0, z1, z2, z3] at this
  rw [this, decide_eq_false_iff_not]
  unfold p10
  exact Nat.ne_of_gt (Nat.pow_pos (by decide))

theorem mul_pows (i j : Nat) (h : i + j < 78) (w : World) :
    Calls Try.prog 24 #[u (p10 i), u (p10 j)] w fun e w' => e = .returned (.tuple #[u (p10 (i + j)), .agg #[.int .u64 0, .int .u64 0, .int .u64 0, .int .u64 0]]) ∧ New w w' := by
  have e : p10 i * p10 j = p10 (i + j) := by unfold p10; rw [Nat.pow_add]
  have hl := p10_lt (i + j) h
  have := mul_is (p10 i) (p10 j) (p10 (i + j)) 0 (p10_lt i (by omega)) (p10_lt j (by omega)) (by rw [e, Nat.mod_eq_of_lt hl]) (by rw [e, Nat.div_eq_of_lt hl]) w
  rw [u_zero] at this
  exact this

theorem ten_int (x : Int) (k : Nat) (hx : x = k) (h : k < 78) (w : World) :
    Calls Try.prog 26 #[.int .i64 x] w fun e w' => e = .returned (.tuple #[u (p10 k), .int .i64 0]) ∧ New w w' := hx ▸ ten_any k h w

set_option maxRecDepth 100000 in
set_option maxHeartbeats 2000000 in
theorem walk (n1 n2 : Int) (w : World) :
    Calls Try.prog 10 #[.int .i64 n1, .int .i64 n2] w fun e w' => e = .returned (.bool true) ∧ New w w' := by
  have N := new_refl w
  have h0 := Int.emod_nonneg n1 (by decide : (78 : Int) ≠ 0)
  have h1 := Int.emod_lt_of_pos n1 (by decide : (0 : Int) < 78)
  go_enter Try.func10, Try.ntmps10
  go_wp2_with fail
  refine (picked_any n1 78 (by decide) (by decide) _).mono ?_
  rintro e w1 ⟨rfl, rfl⟩
  obtain ⟨i, ei⟩ := Int.eq_ofNat_of_zero_le h0
  rw [ei] at h0 h1 ⊢
  clear ei
  go_wp2_with fail
  have h2 := Int.emod_nonneg n2 (by omega : (78 : Int) - i ≠ 0)
  have h3 := Int.emod_lt_of_pos n2 (by omega : (0 : Int) < 78 - i)
  refine (picked_any n2 (78 - i) (by omega) (by omega) _).mono ?_
  rintro e w1 ⟨rfl, rfl⟩
  obtain ⟨j, ej⟩ := Int.eq_ofNat_of_zero_le h2
  rw [ej] at h2 h3 ⊢
  clear ej
  have hij : i + j < 78 := by omega
  have hz := nonzero (i + j) hij
  go_wp2_with fail
  refine (ten_any i (by omega) _).mono ?_
  rintro e w1 ⟨rfl, hb⟩
  have N : New w w1 := new_trans (by (repeat' (first | with_reducible exact new_refl _ | with_reducible assumption | with_reducible refine new_drewN ?_ _ | with_reducible refine new_drew ?_ | with_reducible refine new_alloc ?_ _ | with_reducible refine new_set ?_ ?_ _ | with_reducible refine new_freeze ?_ ?_ _ | with_reducible refine new_trans ?_ (by assumption) | (simp; done) | (simp; omega)))) hb
  clear hb
  go_wp2_with fail
  refine (ten_any j (by omega) _).mono ?_
  rintro e w2 ⟨rfl, hb⟩
  have U : New w1 w2 := new_trans (by (repeat' (first | with_reducible exact new_refl _ | with_reducible assumption | with_reducible refine new_drewN ?_ _ | with_reducible refine new_drew ?_ | with_reducible refine new_alloc ?_ _ | with_reducible refine new_set ?_ ?_ _ | with_reducible refine new_freeze ?_ ?_ _ | with_reducible refine new_trans ?_ (by assumption) | (simp; done) | (simp; omega)))) hb
  have N : New w w2 := new_trans (by (repeat' (first | with_reducible exact new_refl _ | with_reducible assumption | with_reducible refine new_drewN ?_ _ | with_reducible refine new_drew ?_ | with_reducible refine new_alloc ?_ _ | with_reducible refine new_set ?_ ?_ _ | with_reducible refine new_freeze ?_ ?_ _ | with_reducible refine new_trans ?_ (by assumption) | (simp; done) | (simp; omega)))) hb
  have B1 := (Blk.new_ w1 26 (uc (p10 i))).up hb
  try clear c1 l1
  have c1 := B1.cell; have l1 := B1.lt
  clear hb U
  have e3 := hide (show (i : Int) + j = ((i + j : Nat) : Int) by omega)
  go_wp2_with fail
  refine (ten_int _ (i + j) (unhide e3) hij _).mono ?_
  rintro e w3 ⟨rfl, hb⟩
  have U : New w2 w3 := new_trans (by (repeat' (first | with_reducible exact new_refl _ | with_reducible assumption | with_reducible refine new_drewN ?_ _ | with_reducible refine new_drew ?_ | with_reducible refine new_alloc ?_ _ | with_reducible refine new_set ?_ ?_ _ | with_reducible refine new_freeze ?_ ?_ _ | with_reducible refine new_trans ?_ (by assumption) | (simp; done) | (simp; omega)))) hb
  have N : New w w3 := new_trans (by (repeat' (first | with_reducible exact new_refl _ | with_reducible assumption | with_reducible refine new_drewN ?_ _ | with_reducible refine new_drew ?_ | with_reducible refine new_alloc ?_ _ | with_reducible refine new_set ?_ ?_ _ | with_reducible refine new_freeze ?_ ?_ _ | with_reducible refine new_trans ?_ (by assumption) | (simp; done) | (simp; omega)))) hb
  have B1 := B1.up U
  have B2 := (Blk.new_ w2 26 (uc (p10 j))).up hb
  try clear c1 l1
  have c1 := B1.cell; have l1 := B1.lt
  try clear c2 l2
  have c2 := B2.cell; have l2 := B2.lt
  clear hb U
  go_wp2_with fail
  refine (mul_pows i j hij _).mono ?_
  rintro e w4 ⟨rfl, hb⟩
  have U : New w3 w4 := new_trans (by (repeat' (first | with_reducible exact new_refl _ | with_reducible assumption | with_reducible refine new_drewN ?_ _ | with_reducible refine new_drew ?_ | with_reducible refine new_alloc ?_ _ | with_reducible refine new_set ?_ ?_ _ | with_reducible refine new_freeze ?_ ?_ _ | with_reducible refine new_trans ?_ (by assumption) | (simp; done) | (simp; omega)))) hb
  have N : New w w4 := new_trans (by (repeat' (first | with_reducible exact new_refl _ | with_reducible assumption | with_reducible refine new_drewN ?_ _ | with_reducible refine new_drew ?_ | with_reducible refine new_alloc ?_ _ | with_reducible refine new_set ?_ ?_ _ | with_reducible refine new_freeze ?_ ?_ _ | with_reducible refine new_trans ?_ (by assumption) | (simp; done) | (simp; omega)))) hb
  have B1 := B1.up U
  have B2 := B2.up U
  have B3 := (Blk.new_ w3 26 (uc (p10 (i + j)))).up hb
  try clear c1 l1
  have c1 := B1.cell; have l1 := B1.lt
  try clear c2 l2
  have c2 := B2.cell; have l2 := B2.lt
  try clear c3 l3
  have c3 := B3.cell; have l3 := B3.lt
  clear hb U
  go_wp2_with fail
  refine (ten_bad _ (by omega) _).mono ?_
  rintro e w5 ⟨rfl, hb⟩
  have U : New w4 w5 := new_trans (by (repeat' (first | with_reducible exact new_refl _ | with_reducible assumption | with_reducible refine new_drewN ?_ _ | with_reducible refine new_drew ?_ | with_reducible refine new_alloc ?_ _ | with_reducible refine new_set ?_ ?_ _ | with_reducible refine new_freeze ?_ ?_ _ | with_reducible refine new_trans ?_ (by assumption) | (simp; done) | (simp; omega)))) hb
  have N : New w w5 := new_trans (by (repeat' (first | with_reducible exact new_refl _ | with_reducible assumption | with_reducible refine new_drewN ?_ _ | with_reducible refine new_drew ?_ | with_reducible refine new_alloc ?_ _ | with_reducible refine new_set ?_ ?_ _ | with_reducible refine new_freeze ?_ ?_ _ | with_reducible refine new_trans ?_ (by assumption) | (simp; done) | (simp; omega)))) hb
  have B1 := B1.up U
  have B2 := B2.up U
  have B3 := B3.up U
  have B4 := ((Blk.new_ w4 26 (uc (p10 (i + j)))).al _).up hb
  have B5 := (Blk.new1 w4 _ 26 (z4)).up hb
  try clear c1 l1
  have c1 := B1.cell; have l1 := B1.lt
  try clear c2 l2
  have c2 := B2.cell; have l2 := B2.lt
  try clear c3 l3
  have c3 := B3.cell; have l3 := B3.lt
  try clear c4 l4
  have c4 := B4.cell; have l4 := B4.lt
  try clear c5 l5
  have c5 := B5.cell; have l5 := B5.lt
  clear hb U
  go_wp2
  all_goals go_ret
  all_goals exact ⟨by simp, by (repeat' (first | with_reducible exact new_refl _ | with_reducible assumption | with_reducible refine new_drewN ?_ _ | with_reducible refine new_drew ?_ | with_reducible refine new_alloc ?_ _ | with_reducible refine new_set ?_ ?_ _ | with_reducible refine new_freeze ?_ ?_ _ | with_reducible refine new_trans ?_ (by assumption) | (simp; done) | (simp; omega)))⟩

set_option maxRecDepth 100000 in
theorem lifted (os : Os) (started : os.Started) (H : Type) (enc : TypeId × Value → H) :
    ReturnsInHanded {} Try.checked os 10 .any (Rows.tenTimesSpec.pre6 enc Try.prog Try.f10 Rows.tenTimesRow.domain false) (Rows.tenTimesSpec.post enc Try.prog Try.f10 false true false false) := by
  refine returnsInHanded_of_change (C := Try.checked) own started (by kernel_rfl) Try.func10
    (ChangeSpec.witness6 (enc := enc) (C := Try.checked) false ⟨#[], #[.int .i64 0, .int .i64 0], []⟩ 8 (by kernel_rfl) (by kernel_rfl) (by kernel_rfl) (by kernel_rfl)) ?_
  intro W base args ds gs before hval0 hW hcnd _
  have hval : ∀ (j : Nat) t v, Try.f10.params[j]? = some t → args[j]? = some v → Value.okWide Try.prog W .any base t v := hval0
  have hW' := hW
  obtain ⟨p, q, hA0, hV, rfl, hfz, hnd⟩ := hW
  have hA : DataW.TrodAll enc Try.prog W 0 (fun _ => true) true Try.f10.params.toList args.toList ds p := hA0
  rw [Try.params10] at hA hval
  obtain ⟨v0, vs0, d0, ds0, p0, q0, hargs, rfl, rfl, h0, r0⟩ := trodAll_cons hA
  obtain ⟨v1, vs1, d1, ds1, p1, q1, rfl, rfl, rfl, h1, r1⟩ := trodAll_cons r0
  obtain ⟨rfl, rfl, rfl⟩ := trodAll_nil r1
  obtain rfl : args = #[v0, v1] := by cases args; simp_all
  obtain ⟨rfl, rfl⟩ := trodVars_none hV
  obtain ⟨n1, rfl, rfl, rfl, wn1⟩ := open_int Try.underlying3 (hval 0 3 v0 rfl rfl) h0
  obtain ⟨n2, rfl, rfl, rfl, wn2⟩ := open_int Try.underlying3 (hval 1 3 v1 rfl rfl) h1
  refine (walk n1 n2 W).mono fun e W' ⟨he, hN⟩ => ?_
  subst he
  exact ⟨_, rfl, law_post laidOut (by kernel_rfl) (by kernel_rfl) Try.underlying4 rfl hW' rfl hN⟩

theorem holds : Rows.TenTimesSaid :=
  OpenClaim.holds_of_wide 10 Try.f10 rfl rfl rfl rfl rfl rfl rfl ⟨rfl, rfl, rfl, rfl, rfl⟩ rfl rfl rfl rfl rfl (by kernel_rfl) Try.func10 (by kernel_rfl)
    (of_decide_eq_true (by kernel_rfl)) (by unfold Func.isWrapper; first | (rw [if_pos (by decide +kernel)]; kernel_rfl) | (rw [if_neg (by decide +kernel)]; exact ⟨rfl, rfl⟩))
    (fun os started H enc _ => lifted os started H enc)

#print axioms holds
end Go.Proofs.Ytcgdcnhggejgbaa.tenTimes
