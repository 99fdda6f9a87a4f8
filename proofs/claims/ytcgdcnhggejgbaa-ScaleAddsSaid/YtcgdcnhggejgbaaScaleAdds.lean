/- ScaleAdds: two amounts without dust, made finer, have as much together as both have: for every three ints the call returns true. No conditions. -/
import Derived.Test.YtcgdcnhggejgbaaRow
import Derived.Test.YtcgdcnhggejgbaaLaw
import Derived.Test.YtcgdcnhggejgbaaScale
namespace Go.Proofs.Ytcgdcnhggejgbaa.scaleAdds
open Go.ChangeShapes Go.WideShapes Go.RowKit
set_option linter.unusedVariables false

@[reducible] def sc (p : Nat) : Array Value := #[.int .u64 (p : Int), .int .u64 0, .int .u64 0, .int .u64 0]
theorem up_to (p n l : Nat) (hp : p < 1099511627776) (hn : n < 40) (hl : p * p10 (n - 8) = l) (w : World) :
    Calls Try.prog 31 #[.agg #[.int .u64 (p : Int), .int .u64 0, .int .u64 0, .int .u64 0], .int .i64 n] w fun e w' => e = .returned (.tuple #[u l, .int .i64 0]) ∧ New w w' := by
  have h : l < M256 := by
    rw [← hl]
    have : p10 (n - 8) ≤ 10 ^ 32 := Nat.pow_le_pow_right (by decide) (by omega)
    have h2 : p * p10 (n - 8) ≤ 1099511627776 * 10 ^ 32 := Nat.mul_le_mul (by omega) this
    exact Nat.lt_of_le_of_lt h2 (by decide)
  rw [← u_small p (by omega)]
  exact up_any p n l (by unfold M256; omega) (by omega) hl h w
theorem add_to' (p q s : Nat) (hp : p < 1099511627776) (hq : q < 1099511627776) (hs : p + q = s) (w : World) :
    Calls Try.prog 17 #[.agg #[.int .u64 (p : Int), .int .u64 0, .int .u64 0, .int .u64 0], .agg #[.int .u64 (q : Int), .int .u64 0, .int .u64 0, .int .u64 0]] w fun e w' => e = .returned (.tuple #[u s, .bool false]) ∧ New w w' := by
  rw [← u_small p (by omega), ← u_small q (by omega)]
  exact add_is p q s false (by unfold M256; omega) (by unfold M256; omega) (by rw [hs]; exact Nat.mod_eq_of_lt (by unfold M256; omega)) (by unfold M256; simp; omega) w
theorem up_big (w : World) :
    Calls Try.prog 31 #[.agg #[.int .u64 0, .int .u64 0, .int .u64 0, .int .u64 9223372036854775808], .int .i64 9] w fun e w' => e = .returned (.tuple #[.agg #[.int .u64 0, .int .u64 0, .int .u64 0, .int .u64 0], .int .i64 13]) ∧ New w w' := by
  have h := up_over (9223372036854775808 * 6277101735386680763835789423207666416102355444464034512896) 9 0 5 (by decide) (by decide) (by decide +kernel) (by decide +kernel) (by decide) w
  exact h

theorem down_zero (a n q : Nat) (ha : a < M256) (hn : n < 78) (hq : a / p10 (n - 8) = q) (hr : a % p10 (n - 8) = 0) (w : World) :
    Calls Try.prog 30 #[u a, .int .i64 n] w fun e w' => e = .returned (.tuple #[u q, .agg #[.int .u64 0, .int .u64 0, .int .u64 0, .int .u64 0], .int .i64 0]) ∧ New w w' := by
  have h := down_any a n q 0 ha hn hq hr w
  rw [u_zero] at h
  exact h

set_option maxHeartbeats 2000000 in
theorem walk (n1 n2 n3 : Int) (w : World) :
    Calls Try.prog 15 #[.int .i64 n1, .int .i64 n2, .int .i64 n3] w fun e w' => e = .returned (.bool true) ∧ New w w' := by
  have h0 := Int.emod_nonneg n3 (by decide : (40 : Int) ≠ 0)
  have h1 := Int.emod_lt_of_pos n3 (by decide : (0 : Int) < 40)
  have h2 := Int.emod_nonneg n1 (by decide : (1099511627776 : Int) ≠ 0)
  have h3 := Int.emod_lt_of_pos n1 (by decide : (0 : Int) < 1099511627776)
  have h4 := Int.emod_nonneg n2 (by decide : (1099511627776 : Int) ≠ 0)
  have h5 := Int.emod_lt_of_pos n2 (by decide : (0 : Int) < 1099511627776)
  go_enter Try.func15, Try.ntmps15
  go_wp2_with fail
  refine (picked_any n3 40 (by decide) (by decide) _).mono ?_
  rintro e w' ⟨rfl, rfl⟩
  go_wp2_with fail
  refine (picked_any n1 1099511627776 (by decide) (by decide) _).mono ?_
  rintro e w' ⟨rfl, rfl⟩
  go_wp2_with fail
  refine (picked_any n2 1099511627776 (by decide) (by decide) _).mono ?_
  rintro e w' ⟨rfl, rfl⟩
  go_wp2_with fail
  obtain ⟨m, em⟩ := Int.eq_ofNat_of_zero_le h0
  obtain ⟨p, ep⟩ := Int.eq_ofNat_of_zero_le h2
  obtain ⟨q, eq⟩ := Int.eq_ofNat_of_zero_le h4
  rw [em] at h0 h1; rw [ep] at h2 h3; rw [eq] at h4 h5
  simp only [em, ep, eq]
  clear em ep eq
  generalize hW : World.alloc _ _ = W
  have B1 : Blk W w.heap.size 26 (sc p) := by rw [← hW]; exact (Blk.new_ _ _ _).al _
  have B2 : Blk W (w.heap.size + 1) 26 (sc q) := by rw [← hW]; exact Blk.new1 _ _ _ _
  have N : New w W := by rw [← hW]; (repeat' (first | with_reducible exact new_refl _ | with_reducible assumption | with_reducible refine new_drewN ?_ _ | with_reducible refine new_drew ?_ | with_reducible refine new_alloc ?_ _ | with_reducible refine new_set ?_ ?_ _ | with_reducible refine new_freeze ?_ ?_ _ | with_reducible refine new_trans ?_ (by assumption) | (simp; done) | (simp; omega)))
  clear hW
  generalize w.heap.size + 1 = g2 at *
  generalize hg1 : w.heap.size = g1 at *
  have hm : m < 40 := by omega
  have hp : p < 1099511627776 := by omega
  have hq : q < 1099511627776 := by omega
  obtain ⟨f, ef⟩ : ∃ f, p10 (m - 8) = f := ⟨_, rfl⟩
  have hf0 : 0 < f := by rw [← ef]; exact Nat.pow_pos (by decide)
  have hf : f ≤ 100000000000000000000000000000000 := by rw [← ef]; exact Nat.pow_le_pow_right (by decide) (by omega : m - 8 ≤ 32)
  obtain ⟨la, ela⟩ : ∃ l, p * f = l := ⟨_, rfl⟩
  obtain ⟨lb, elb⟩ : ∃ l, q * f = l := ⟨_, rfl⟩
  obtain ⟨s, es⟩ : ∃ s, la + lb = s := ⟨_, rfl⟩
  obtain ⟨k, ek⟩ : ∃ k, p + q = k := ⟨_, rfl⟩
  have hka : la ≤ 1099511627776 * 100000000000000000000000000000000 := by rw [← ela]; exact Nat.mul_le_mul (by omega) hf
  have hkb : lb ≤ 1099511627776 * 100000000000000000000000000000000 := by rw [← elb]; exact Nat.mul_le_mul (by omega) hf
  have hla : la < M256 := by unfold M256; omega
  have hlb : lb < M256 := by unfold M256; omega
  have hs : s < M256 := by unfold M256; omega
  have e1 : (la + lb) % M256 = s := by rw [es]; exact Nat.mod_eq_of_lt hs
  have e2 : decide (M256 ≤ la + lb) = false := by simp; omega
  have e3 : s = k * f := by rw [← es, ← ela, ← elb, ← ek, Nat.add_mul]
  have e4 : s / p10 (m - 8) = k := by rw [ef, e3]; exact Nat.mul_div_cancel _ hf0
  have e5 : s % p10 (m - 8) = 0 := by rw [ef, e3]; exact Nat.mul_mod_left _ _
  rw [← ef] at ela elb
  have ela := hide ela; have elb := hide elb; have e1 := hide e1; have e2 := hide e2; have e4 := hide e4; have e5 := hide e5; have ek := hide ek
  clear es e3 hka hkb hf hf0 ef hg1 h0 h1 h2 h3 h4 h5
  have c1 := B1.cell; have c2 := B2.cell; have l1 := B1.lt; have l2 := B2.lt
  refine (up_to p m la hp hm (unhide ela) _).mono ?_
  rintro e w1 ⟨rfl, hb⟩
  have B1 := B1.up hb; have B2 := B2.up hb; have N := new_trans N hb; clear hb c1 c2 l1 l2
  have c1 := B1.cell; have c2 := B2.cell; have l1 := B1.lt; have l2 := B2.lt
  go_wp2_with fail
  refine (up_to q m lb hq hm (unhide elb) _).mono ?_
  rintro e w2 ⟨rfl, hb⟩
  have U : New w1 w2 := new_trans (by (repeat' (first | with_reducible exact new_refl _ | with_reducible assumption | with_reducible refine new_drewN ?_ _ | with_reducible refine new_drew ?_ | with_reducible refine new_alloc ?_ _ | with_reducible refine new_set ?_ ?_ _ | with_reducible refine new_freeze ?_ ?_ _ | with_reducible refine new_trans ?_ (by assumption) | (simp; done) | (simp; omega)))) hb
  have N : New w w2 := new_trans (by (repeat' (first | with_reducible exact new_refl _ | with_reducible assumption | with_reducible refine new_drewN ?_ _ | with_reducible refine new_drew ?_ | with_reducible refine new_alloc ?_ _ | with_reducible refine new_set ?_ ?_ _ | with_reducible refine new_freeze ?_ ?_ _ | with_reducible refine new_trans ?_ (by assumption) | (simp; done) | (simp; omega)))) hb
  have B1 := B1.up U
  have B2 := B2.up U
  have B3 := (Blk.new_ w1 26 (uc la)).up hb
  try clear c1 l1
  have c1 := B1.cell; have l1 := B1.lt
  try clear c2 l2
  have c2 := B2.cell; have l2 := B2.lt
  try clear c3 l3
  have c3 := B3.cell; have l3 := B3.lt
  clear hb U
  go_wp2_with fail
  refine (add_is la lb s false hla hlb (unhide e1) (unhide e2) _).mono ?_
  rintro e w3 ⟨rfl, hb⟩
  have U : New w2 w3 := new_trans (by (repeat' (first | with_reducible exact new_refl _ | with_reducible assumption | with_reducible refine new_drewN ?_ _ | with_reducible refine new_drew ?_ | with_reducible refine new_alloc ?_ _ | with_reducible refine new_set ?_ ?_ _ | with_reducible refine new_freeze ?_ ?_ _ | with_reducible refine new_trans ?_ (by assumption) | (simp; done) | (simp; omega)))) hb
  have N : New w w3 := new_trans (by (repeat' (first | with_reducible exact new_refl _ | with_reducible assumption | with_reducible refine new_drewN ?_ _ | with_reducible refine new_drew ?_ | with_reducible refine new_alloc ?_ _ | with_reducible refine new_set ?_ ?_ _ | with_reducible refine new_freeze ?_ ?_ _ | with_reducible refine new_trans ?_ (by assumption) | (simp; done) | (simp; omega)))) hb
  have B1 := B1.up U
  have B2 := B2.up U
  have B3 := B3.up U
  have B4 := (Blk.new_ w2 26 (uc lb)).up hb
  try clear c1 l1
  have c1 := B1.cell; have l1 := B1.lt
  try clear c2 l2
  have c2 := B2.cell; have l2 := B2.lt
  try clear c3 l3
  have c3 := B3.cell; have l3 := B3.lt
  try clear c4 l4
  have c4 := B4.cell; have l4 := B4.lt
  clear hb U
  go_wp2_with fail
  refine (down_zero s m k hs (by omega) (unhide e4) (unhide e5) _).mono ?_
  rintro e w4 ⟨rfl, hb⟩
  have U : New w3 w4 := new_trans (by (repeat' (first | with_reducible exact new_refl _ | with_reducible assumption | with_reducible refine new_drewN ?_ _ | with_reducible refine new_drew ?_ | with_reducible refine new_alloc ?_ _ | with_reducible refine new_set ?_ ?_ _ | with_reducible refine new_freeze ?_ ?_ _ | with_reducible refine new_trans ?_ (by assumption) | (simp; done) | (simp; omega)))) hb
  have N : New w w4 := new_trans (by (repeat' (first | with_reducible exact new_refl _ | with_reducible assumption | with_reducible refine new_drewN ?_ _ | with_reducible refine new_drew ?_ | with_reducible refine new_alloc ?_ _ | with_reducible refine new_set ?_ ?_ _ | with_reducible refine new_freeze ?_ ?_ _ | with_reducible refine new_trans ?_ (by assumption) | (simp; done) | (simp; omega)))) hb
  have B1 := B1.up U
  have B2 := B2.up U
  have B3 := B3.up U
  have B4 := B4.up U
  have B5 := (Blk.new_ w3 26 (uc s)).up hb
  try clear c1 l1
  have c1 := B1.cell; have l1 := B1.lt
  try clear c2 l2
  have c2 := B2.cell; have l2 := B2.lt
  try clear c3 l3
  have c3 := B3.cell; have l3 := B3.lt
  try clear c4 l4
  have c4 := B4.cell; have l4 := B4.lt
  try clear c5 l5
  have c5 := B5.cell; have l5 := B5.lt
  clear hb U
  go_wp2_with fail
  refine (add_to' p q k hp hq (unhide ek) _).mono ?_
  rintro e w5 ⟨rfl, hb⟩
  have U : New w4 w5 := new_trans (by (repeat' (first | with_reducible exact new_refl _ | with_reducible assumption | with_reducible refine new_drewN ?_ _ | with_reducible refine new_drew ?_ | with_reducible refine new_alloc ?_ _ | with_reducible refine new_set ?_ ?_ _ | with_reducible refine new_freeze ?_ ?_ _ | with_reducible refine new_trans ?_ (by assumption) | (simp; done) | (simp; omega)))) hb
  have N : New w w5 := new_trans (by (repeat' (first | with_reducible exact new_refl _ | with_reducible assumption | with_reducible refine new_drewN ?_ _ | with_reducible refine new_drew ?_ | with_reducible refine new_alloc ?_ _ | with_reducible refine new_set ?_ ?_ _ | with_reducible refine new_freeze ?_ ?_ _ | with_reducible refine new_trans ?_ (by assumption) | (simp; done) | (simp; omega)))) hb
  have B1 := B1.up U
  have B2 := B2.up U
  have B3 := B3.up U
  have B4 := B4.up U
  have B5 := B5.up U
  have B6 := ((Blk.new_ w4 26 (uc k)).al _).up hb
  have B7 := (Blk.new1 w4 _ 26 (z4)).up hb
  try clear c1 l1
  have c1 := B1.cell; have l1 := B1.lt
  try clear c2 l2
  have c2 := B2.cell; have l2 := B2.lt
  try clear c3 l3
  have c3 := B3.cell; have l3 := B3.lt
  try clear c4 l4
  have c4 := B4.cell; have l4 := B4.lt
  try clear c5 l5
  have c5 := B5.cell; have l5 := B5.lt
  try clear c6 l6
  have c6 := B6.cell; have l6 := B6.lt
  try clear c7 l7
  have c7 := B7.cell; have l7 := B7.lt
  clear hb U
  go_wp2_with fail
  refine (up_big _).mono ?_
  rintro e w6 ⟨rfl, hb⟩
  have U : New w5 w6 := new_trans (by (repeat' (first | with_reducible exact new_refl _ | with_reducible assumption | with_reducible refine new_drewN ?_ _ | with_reducible refine new_drew ?_ | with_reducible refine new_alloc ?_ _ | with_reducible refine new_set ?_ ?_ _ | with_reducible refine new_freeze ?_ ?_ _ | with_reducible refine new_trans ?_ (by assumption) | (simp; done) | (simp; omega)))) hb
  have N : New w w6 := new_trans (by (repeat' (first | with_reducible exact new_refl _ | with_reducible assumption | with_reducible refine new_drewN ?_ _ | with_reducible refine new_drew ?_ | with_reducible refine new_alloc ?_ _ | with_reducible refine new_set ?_ ?_ _ | with_reducible refine new_freeze ?_ ?_ _ | with_reducible refine new_trans ?_ (by assumption) | (simp; done) | (simp; omega)))) hb
  have B1 := B1.up U
  have B2 := B2.up U
  have B3 := B3.up U
  have B4 := B4.up U
  have B5 := B5.up U
  have B6 := B6.up U
  have B7 := B7.up U
  have B8 := (Blk.new_ w5 26 (uc k)).up hb
  try clear c1 l1
  have c1 := B1.cell; have l1 := B1.lt
  try clear c2 l2
  have c2 := B2.cell; have l2 := B2.lt
  try clear c3 l3
  have c3 := B3.cell; have l3 := B3.lt
  try clear c4 l4
  have c4 := B4.cell; have l4 := B4.lt
  try clear c5 l5
  have c5 := B5.cell; have l5 := B5.lt
  try clear c6 l6
  have c6 := B6.cell; have l6 := B6.lt
  try clear c7 l7
  have c7 := B7.cell; have l7 := B7.lt
  try clear c8 l8
  have c8 := B8.cell; have l8 := B8.lt
  clear hb U
  go_wp2
  go_ret
  exact ⟨by simp, by (repeat' (first | with_reducible exact new_refl _ | with_reducible assumption | with_reducible refine new_drewN ?_ _ | with_reducible refine new_drew ?_ | with_reducible refine new_alloc ?_ _ | with_reducible refine new_set ?_ ?_ _ | with_reducible refine new_freeze ?_ ?_ _ | with_reducible refine new_trans ?_ (by assumption) | (simp; done) | (simp; omega)))⟩

set_option maxRecDepth 100000 in
theorem lifted (os : Os) (started : os.Started) (H : Type) (enc : TypeId × Value → H) :
    ReturnsInHanded {} Try.checked os 15 .any (Rows.scaleAddsSpec.pre6 enc Try.prog Try.f15 Rows.scaleAddsRow.domain false) (Rows.scaleAddsSpec.post enc Try.prog Try.f15 false true false false) := by
  refine returnsInHanded_of_change (C := Try.checked) own started (by kernel_rfl) Try.func15
    (ChangeSpec.witness6 (enc := enc) (C := Try.checked) false ⟨#[], #[.int .i64 0, .int .i64 0, .int .i64 0], []⟩ 8 (by kernel_rfl) (by kernel_rfl) (by kernel_rfl) (by kernel_rfl)) ?_
  intro W base args ds gs before hval0 hW hcnd _
  have hval : ∀ (j : Nat) t v, Try.f15.params[j]? = some t → args[j]? = some v → Value.okWide Try.prog W .any base t v := hval0
  have hW' := hW
  obtain ⟨p, q, hA0, hV, rfl, hfz, hnd⟩ := hW
  have hA : DataW.TrodAll enc Try.prog W 0 (fun _ => true) true Try.f15.params.toList args.toList ds p := hA0
  rw [Try.params15] at hA hval
  obtain ⟨v0, vs0, d0, ds0, p0, q0, hargs, rfl, rfl, h0, r0⟩ := trodAll_cons hA
  obtain ⟨v1, vs1, d1, ds1, p1, q1, rfl, rfl, rfl, h1, r1⟩ := trodAll_cons r0
  obtain ⟨v2, vs2, d2, ds2, p2, q2, rfl, rfl, rfl, h2, r2⟩ := trodAll_cons r1
  obtain ⟨rfl, rfl, rfl⟩ := trodAll_nil r2
  obtain rfl : args = #[v0, v1, v2] := by cases args; simp_all
  obtain ⟨rfl, rfl⟩ := trodVars_none hV
  obtain ⟨n1, rfl, rfl, rfl, wn1⟩ := open_int Try.underlying3 (hval 0 3 v0 rfl rfl) h0
  obtain ⟨n2, rfl, rfl, rfl, wn2⟩ := open_int Try.underlying3 (hval 1 3 v1 rfl rfl) h1
  obtain ⟨n3, rfl, rfl, rfl, wn3⟩ := open_int Try.underlying3 (hval 2 3 v2 rfl rfl) h2
  refine (walk n1 n2 n3 W).mono fun e W' ⟨he, hN⟩ => ?_
  subst he
  exact ⟨_, rfl, law_post laidOut (by kernel_rfl) (by kernel_rfl) Try.underlying4 rfl hW' rfl hN⟩

theorem holds : Rows.ScaleAddsSaid :=
  OpenClaim.holds_of_wide 15 Try.f15 rfl rfl rfl rfl rfl rfl rfl ⟨rfl, rfl, rfl, rfl, rfl⟩ rfl rfl rfl rfl rfl (by kernel_rfl) Try.func15 (by kernel_rfl)
    (of_decide_eq_true (by kernel_rfl)) (by unfold Func.isWrapper; first | (rw [if_pos (by decide +kernel)]; kernel_rfl) | (rw [if_neg (by decide +kernel)]; exact ⟨rfl, rfl⟩))
    (fun os started H enc _ => lifted os started H enc)

#print axioms holds
end Go.Proofs.Ytcgdcnhggejgbaa.scaleAdds
