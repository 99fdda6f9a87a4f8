/- InverseNone: what has a part in common with the modulus has no inverse: for every three ints the call returns true. No conditions. -/
import Derived.Test.YtdelfiijbkhldaaRow
import Derived.Test.YtdelfiijbkhldaaLaw
import Derived.Test.YtdelfiijbkhldaaInv
import Derived.Test.YtdelfiijbkhldaaRegG
namespace Go.Proofs.Ytdelfiijbkhldaa.inverseNone
open Go.ChangeShapes Go.WideShapes Go.RowKit
set_option linter.unusedVariables false
set_option linter.unusedSimpArgs false

theorem picked_is (n m : Int) (p : Nat) (hm : 0 < m) (hm' : m ≤ 4611686018427387904) (hp : n % m = p) (w : World) :
    Calls Try.prog 19 #[.int .i64 n, .int .i64 m] w fun e w' => e = .returned (.int .i64 p) ∧ New w w' :=
  (picked_any n m hm hm' w).mono fun e w' h => ⟨by rw [h.1, hp], by rw [h.2]; exact new_refl _⟩
@[reducible] def sm (n : Nat) : Array Value := #[.int .u64 n, .int .u64 0, .int .u64 0, .int .u64 0]
theorem div_sm (a b q r : Nat) (ha : a < 2 ^ 40) (hb : b < 2 ^ 40) (h0 : 0 < b) (hq : a / b = q) (hr : a % b = r) (w : World) :
    Calls Try.prog 20 #[.agg (sm a), .agg (sm b)] w fun e w' => e = .returned (.tuple #[u q, u r, .int .i64 0]) ∧ New w w' := by
  have h := div_to a b q r (by unfold M256; omega) (by unfold M256; omega) h0 hq hr w
  rw [u_small a (by omega), u_small b (by omega)] at h
  exact h
theorem none_sm (a m : Nat) (hm : m < 2 ^ 40) (ha : a < m) (hg : Nat.gcd m a ≠ 1) (w : World) :
    Calls Try.prog 21 #[u a, .agg (sm m)] w fun e w' => e = .returned (.tuple #[.agg #[.int .u64 0, .int .u64 0, .int .u64 0, .int .u64 0], .int .i64 5]) ∧ New w w' := by
  have h := inv_none a m (by unfold M256; omega) ha hg w
  rw [u_small m (by omega)] at h
  exact h

theorem gcd_part (d A B : Nat) (hd : 2 ≤ d) (hA : 1 ≤ A) : Nat.gcd (d * A) (d * B % (d * A)) ≠ 1 := by
  intro h
  have h1 : d ∣ Nat.gcd (d * A) (d * B % (d * A)) := Nat.dvd_gcd (Nat.dvd_mul_right d A) ((Nat.dvd_mod_iff (Nat.dvd_mul_right d A)).2 (Nat.dvd_mul_right d B))
  rw [h] at h1
  have := Nat.le_of_dvd (by decide) h1
  omega

set_option maxHeartbeats 2000000 in
theorem walk (n1 n2 n3 : Int) (w : World) :
    Calls Try.prog 7 #[.int .i64 n1, .int .i64 n2, .int .i64 n3] w fun e w' => e = .returned (.bool true) ∧ New w w' := by
  obtain ⟨d0, ed⟩ : ∃ d : Nat, n1 % 1000 = d := Int.eq_ofNat_of_zero_le (Int.emod_nonneg _ (by decide))
  obtain ⟨A0, eA⟩ : ∃ d : Nat, n2 % 1048576 = d := Int.eq_ofNat_of_zero_le (Int.emod_nonneg _ (by decide))
  obtain ⟨B, eB⟩ : ∃ d : Nat, n3 % 1048576 = d := Int.eq_ofNat_of_zero_le (Int.emod_nonneg _ (by decide))
  have hd := Int.emod_lt_of_pos n1 (by decide : (0 : Int) < 1000)
  have hA := Int.emod_lt_of_pos n2 (by decide : (0 : Int) < 1048576)
  have hB := Int.emod_lt_of_pos n3 (by decide : (0 : Int) < 1048576)
  rw [ed] at hd; rw [eA] at hA; rw [eB] at hB
  have hg := hide (gcd_part (2 + d0) (1 + A0) B (by omega) (by omega))
  have b1 : (2 + d0) * (1 + A0) ≤ 1001 * 1048576 := Nat.mul_le_mul (by omega) (by omega)
  have b2 : (2 + d0) * B ≤ 1001 * 1048576 := Nat.mul_le_mul (by omega) (by omega)
  have b3 : 0 < (2 + d0) * (1 + A0) := Nat.mul_pos (by omega) (by omega)
  have p1 : (2 + (d0 : Int)) * (1 + A0) = (((2 + d0) * (1 + A0) : Nat) : Int) := by simp
  have p2 : (2 + (d0 : Int)) * B = (((2 + d0) * B : Nat) : Int) := by simp
  generalize (2 + d0) * (1 + A0) = M at *
  generalize (2 + d0) * B = X at *
  have w1 : IntKind.u64.wrap ((2 + (d0 : Int)) * (1 + A0)) = M := by rw [p1, IntKind.wrap_u64]; omega
  have w2 : IntKind.u64.wrap ((2 + (d0 : Int)) * B) = X := by rw [p2, IntKind.wrap_u64]; omega
  have w3 : IntKind.u64.wrap (B : Int) = B := by rw [IntKind.wrap_u64]; omega
  clear p1 p2
  have H := hide (⟨b1, b2, b3⟩ : _ ∧ _ ∧ _)
  clear b1 b2 b3
  have ed := hide ed; have eA := hide eA; have eB := hide eB
  go_enter Try.func7, Try.ntmps7
  go_wp2_with fail
  refine (picked_is n1 1000 d0 (by decide) (by decide) (unhide ed) _).mono ?_
  rintro e v1 ⟨rfl, N⟩
  go_wp2_with fail
  refine (picked_is n2 1048576 A0 (by decide) (by decide) (unhide eA) _).mono ?_
  rintro e v2 ⟨rfl, hb⟩
  have N := new_trans N hb
  clear hb
  go_wp2_with fail
  generalize hY : World.alloc _ _ = Y
  obtain ⟨NZ, B8⟩ := boxes1 hY
  have N := new_trans N NZ
  clear hY NZ
  obtain ⟨q, eq⟩ : ∃ q, X / M = q := ⟨_, rfl⟩
  obtain ⟨r, er⟩ : ∃ r, X % M = r := ⟨_, rfl⟩
  have hr : r < M := by rw [← er]; exact Nat.mod_lt _ (unhide H).2.2
  rw [er] at hg
  have hr := hide hr; have eq := hide eq; have er := hide er
  apply region_okA
  case hm => kernel_rfl
  case hall =>
    apply allok_cons
    · exact ok_val _ fun ρ w' hN hc hF h0 hp => by have h7 := h0 7 rfl; simp [execOp, go_sem, hc, hF, h7, w2, w3] <;> rfl
    apply allok_cons
    · exact ok_val _ fun ρ w' hN hc hF h0 hp => by have h2 := h0 2 rfl; simp [execOp, go_sem, hc, hF, h2, w2, w3] <;> rfl
    apply allok_cons
    · refine ok_call 19 _ _ _ _ _ rfl Try.func19 (by kernel_rfl) (by kernel_rfl) ?_ (picked_is n3 1048576 B (by decide) (by decide) (unhide eB)); intro a h0 hp; have h29 := hp 1 _ _ rfl rfl rfl; simp [h29, show ∀ v, a.eval (.const v) = v from fun _ => rfl]
    apply allok_cons
    · exact ok_val _ fun ρ w' hN hc hF h0 hp => by have h30 := hp 2 _ _ rfl rfl rfl; simp [execOp, go_sem, hc, hF, h30, w2, w3] <;> rfl
    apply allok_cons
    · exact ok_val _ fun ρ w' hN hc hF h0 hp => by have h28 := hp 0 _ _ rfl rfl rfl; have h31 := hp 3 _ _ rfl rfl rfl; simp [execOp, go_sem, hc, hF, h28, h31, w2, w3] <;> rfl
    apply allok_cons
    · exact ok_val _ fun ρ w' hN hc hF h0 hp => by have h32 := hp 4 _ _ rfl rfl rfl; simp [execOp, go_sem, hc, hF, h32, w2, w3] <;> rfl
    apply allok_cons
    · exact ok_val _ fun ρ w' hN hc hF h0 hp => by have h8 := h0 8 rfl; have c := Blk.cell (B8.up hN); simp [execOp, go_sem, hc, hF, h8, c, w2, w3] <;> rfl
    apply allok_cons
    · refine ok_call 20 _ _ _ _ _ rfl Try.func20 (by kernel_rfl) (by kernel_rfl) ?_ (div_sm X M q r (by have := unhide H; omega) (by have := unhide H; omega) (unhide H).2.2 (unhide eq) (unhide er)); intro a h0 hp; have h33 := hp 5 _ _ rfl rfl rfl; have h34 := hp 6 _ _ rfl rfl rfl; simp [h33, h34]
    apply allok_cons
    · exact ok_val _ fun ρ w' hN hc hF h0 hp => by have h35 := hp 7 _ _ rfl rfl rfl; simp [execOp, go_sem, hc, hF, h35, w2, w3] <;> rfl
    apply allok_cons
    · exact ok_val _ fun ρ w' hN hc hF h0 hp => by have h27 := hp 8 _ _ rfl rfl rfl; simp [execOp, go_sem, hc, hF, h27, w2, w3] <;> rfl
    apply allok_cons
    · exact ok_val _ fun ρ w' hN hc hF h0 hp => by have h27 := hp 8 _ _ rfl rfl rfl; simp [execOp, go_sem, hc, hF, h27, w2, w3] <;> rfl
    apply allok_cons
    · exact ok_val _ fun ρ w' hN hc hF h0 hp => by have h27 := hp 8 _ _ rfl rfl rfl; simp [execOp, go_sem, hc, hF, h27, w2, w3] <;> rfl
    apply allok_cons
    · exact ok_alloc _ _ rfl zero_u
    apply allok_cons
    · exact ok_alloc _ _ rfl zero_u
    apply allok_cons
    · exact ok_store _ 12 9 36 9 _ _ rfl rfl rfl rfl rfl rfl rfl rfl size_u rfl (by simp [Value.oneCell'])
    apply allok_cons
    · exact ok_store _ 13 10 37 10 _ _ rfl rfl rfl rfl rfl rfl rfl rfl size_u rfl (by simp [Value.oneCell'])
    apply allok_cons
    · exact ok_val _ fun ρ w' hN hc hF h0 hp => by have h38 := hp 11 _ _ rfl rfl rfl; simp [execOp, go_sem, hc, hF, h38, w2, w3] <;> rfl
    exact allok_nil
  case hops => kernel_rfl
  case hlen => rfl
  case hputs => rfl
  intro g v3 hN1 hB hD
  simp [frame, gives, Act.put]
  have kk9 := (hB 12 _ _ 14 _ rfl rfl).1
  have B9 : Blk v3 (g 12) _ _ := (hB 12 _ _ 14 _ rfl rfl).2
  have kk10 := (hB 13 _ _ 15 _ rfl rfl).1
  have B10 : Blk v3 (g 13) _ _ := (hB 13 _ _ 15 _ rfl rfl).2
  have B8 := B8.up hN1
  have N := new_trans N hN1
  have d12_13 := hD 12 13 _ _ _ _ rfl rfl (by decide)
  generalize g 12 = p9 at *
  generalize g 13 = p10 at *
  clear hB hD g hN1
  try clear c8
  try clear l8
  have c8 := B8.cell; have l8 := B8.lt
  try clear c9
  try clear l9
  have c9 := B9.cell; have l9 := B9.lt
  try clear c10
  try clear l10
  have c10 := B10.cell; have l10 := B10.lt
  go_wp2_with fail
  refine (none_sm r M (by have := unhide H; omega) (unhide hr) (unhide hg) _).mono ?_
  rintro e v4 ⟨rfl, hb⟩
  have U : New v3 v4 := new_trans (by (repeat' (first | with_reducible exact new_refl _ | with_reducible assumption | with_reducible refine new_drewN ?_ _ | with_reducible refine new_drew ?_ | with_reducible refine new_alloc ?_ _ | with_reducible refine new_set ?_ ?_ _ | with_reducible refine new_freeze ?_ ?_ _ | with_reducible refine new_trans ?_ (by assumption) | (simp; done) | (simp; omega)))) hb
  have N : New w v4 := new_trans (by (repeat' (first | with_reducible exact new_refl _ | with_reducible assumption | with_reducible refine new_drewN ?_ _ | with_reducible refine new_drew ?_ | with_reducible refine new_alloc ?_ _ | with_reducible refine new_set ?_ ?_ _ | with_reducible refine new_freeze ?_ ?_ _ | with_reducible refine new_trans ?_ (by assumption) | (simp; done) | (simp; omega)))) hb
  have B8 := B8.up U
  have B10 := B10.up U
  try clear c8
  try clear l8
  try clear f8
  have c8 := B8.cell; have l8 := B8.lt
  try clear c10
  try clear l10
  try clear f10
  have c10 := B10.cell; have l10 := B10.lt
  clear hb U
  go_wp2_with fail
  refine (inv_zero _).mono ?_
  rintro e v5 ⟨rfl, hb⟩
  have U : New v4 v5 := new_trans (by (repeat' (first | with_reducible exact new_refl _ | with_reducible assumption | with_reducible refine new_drewN ?_ _ | with_reducible refine new_drew ?_ | with_reducible refine new_alloc ?_ _ | with_reducible refine new_set ?_ ?_ _ | with_reducible refine new_freeze ?_ ?_ _ | with_reducible refine new_trans ?_ (by assumption) | (simp; done) | (simp; omega)))) hb
  have N : New w v5 := new_trans (by (repeat' (first | with_reducible exact new_refl _ | with_reducible assumption | with_reducible refine new_drewN ?_ _ | with_reducible refine new_drew ?_ | with_reducible refine new_alloc ?_ _ | with_reducible refine new_set ?_ ?_ _ | with_reducible refine new_freeze ?_ ?_ _ | with_reducible refine new_trans ?_ (by assumption) | (simp; done) | (simp; omega)))) hb
  have B8 := B8.up U
  have B10 := B10.up U
  have B12 := (Blk.new_ v4 26 (z4)).up hb
  try clear c8
  try clear l8
  try clear f8
  have c8 := B8.cell; have l8 := B8.lt
  try clear c10
  try clear l10
  try clear f10
  have c10 := B10.cell; have l10 := B10.lt
  try clear c12
  try clear l12
  try clear f12
  have c12 := B12.cell; have l12 := B12.lt
  clear hb U
  go_wp2
  go_ret
  exact ⟨by simp, by (repeat' (first | with_reducible exact new_refl _ | with_reducible assumption | with_reducible refine new_drewN ?_ _ | with_reducible refine new_drew ?_ | with_reducible refine new_alloc ?_ _ | with_reducible refine new_set ?_ ?_ _ | with_reducible refine new_freeze ?_ ?_ _ | with_reducible refine new_trans ?_ (by assumption) | (simp; done) | (simp; omega)))⟩

set_option maxRecDepth 100000 in
theorem lifted (os : Os) (started : os.Started) (H : Type) (enc : TypeId × Value → H) :
    ReturnsInHanded {} Try.checked os 7 .any (Rows.inverseNoneSpec.pre6 enc Try.prog Try.f7 Rows.inverseNoneRow.domain false) (Rows.inverseNoneSpec.post enc Try.prog Try.f7 false true false false) := by
  refine returnsInHanded_of_change (C := Try.checked) own started (by kernel_rfl) Try.func7
    (ChangeSpec.witness6 (enc := enc) (C := Try.checked) false ⟨#[], #[.int .i64 0, .int .i64 0, .int .i64 0], []⟩ 8 (by kernel_rfl) (by kernel_rfl) (by kernel_rfl) (by kernel_rfl)) ?_
  intro W base args ds gs before hval0 hW hcnd _
  have hval : ∀ (j : Nat) t v, Try.f7.params[j]? = some t → args[j]? = some v → Value.okWide Try.prog W .any base t v := hval0
  have hW' := hW
  obtain ⟨p, q, hA0, hV, rfl, hfz, hnd⟩ := hW
  have hA : DataW.TrodAll enc Try.prog W 0 (fun _ => true) true Try.f7.params.toList args.toList ds p := hA0
  rw [Try.params7] at hA hval
  obtain ⟨v0, vs0, d0, ds0, p0, q0, hargs, rfl, rfl, h0, r0⟩ := trodAll_cons hA
  obtain ⟨v1, vs1, d1, ds1, p1, q1, rfl, rfl, rfl, h1, r1⟩ := trodAll_cons r0
  obtain ⟨v2, vs2, d2, ds2, p2, q2, rfl, rfl, rfl, h2, r2⟩ := trodAll_cons r1
  obtain ⟨rfl, rfl, rfl⟩ := trodAll_nil r2
  obtain rfl : args = #[v0, v1, v2] := by cases args; simp_all
  obtain ⟨rfl, rfl⟩ := trodVars_none hV
  obtain ⟨n1, rfl, rfl, rfl, wn1⟩ := open_int Try.underlying3 (hval 0 3 v0 rfl rfl) h0
  obtain ⟨n2, rfl, rfl, rfl, wn2⟩ := open_int Try.underlying3 (hval 1 3 v1 rfl rfl) h1
  obtain ⟨n3, rfl, rfl, rfl, wn3⟩ := open_int Try.underlying3 (hval 2 3 v2 rfl rfl) h2
  refine (walk n1 n2 n3 W).mono fun e W' ⟨he, hN⟩ => ?_
  subst he
  exact ⟨_, rfl, law_post laidOut (by kernel_rfl) (by kernel_rfl) Try.underlying4 rfl hW' rfl hN⟩

theorem holds : Rows.InverseNoneSaid :=
  OpenClaim.holds_of_wide 7 Try.f7 rfl rfl rfl rfl rfl rfl rfl ⟨rfl, rfl, rfl, rfl, rfl⟩ rfl rfl rfl rfl rfl (by kernel_rfl) Try.func7 (by kernel_rfl)
    (of_decide_eq_true (by kernel_rfl)) (by unfold Func.isWrapper; first | (rw [if_pos (by decide +kernel)]; kernel_rfl) | (rw [if_neg (by decide +kernel)]; exact ⟨rfl, rfl⟩))
    (fun os started H enc _ => lifted os started H enc)

#print axioms holds
end Go.Proofs.Ytdelfiijbkhldaa.inverseNone
