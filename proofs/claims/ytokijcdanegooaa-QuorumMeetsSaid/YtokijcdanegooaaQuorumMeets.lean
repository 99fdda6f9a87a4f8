/- QuorumMeets: any two who are enough have more than a third in common: for every three ints the call returns true. No conditions. -/
import Derived.Test.YtokijcdanegooaaRow
import Derived.Test.YtokijcdanegooaaPick
import Derived.Test.YtokijcdanegooaaQuM
namespace Go.Proofs.Ytokijcdanegooaa.quorumMeets
open Go.ChangeShapes Go.WideShapes Go.RowKit
set_option linter.unusedVariables false
set_option linter.unusedSimpArgs false

theorem need_ok (k : Nat) (hk : k ≤ 19) (w : World) : Calls Try.prog 9 #[.int .i64 k] w fun e w' => e = .returned (.tuple #[.int .i64 ((2 * k / 3 + 1 : Nat) : Int), .int .i64 0]) ∧ w = w' := by
  have h1 : (k : Int) ≤ 19 := by omega
  have h2 : (0 : Int) ≤ k := by omega
  have e := hide (show 2 * (k : Int) / 3 + 1 = ((2 * k / 3 + 1 : Nat) : Int) by omega)
  go_enter Try.func9, Try.ntmps9
  go_wp2
  go_ret2
  refine ⟨?_, rfl⟩
  show Ending.returned (.tuple #[.int .i64 (2 * (k : Int) / 3 + 1), .int .i64 0]) = _
  rw [unhide e]
theorem need_bad (k : Int) (hk : 19 < k) (hk' : k < 100) (w : World) : Calls Try.prog 9 #[.int .i64 k] w fun e w' => e = .returned (.tuple #[.int .i64 0, .int .i64 6]) ∧ w = w' := by
  have h2 : (0 : Int) ≤ k := by omega
  go_enter Try.func9, Try.ntmps9
  go_wp2
  go_ret2
  exact ⟨rfl, rfl⟩

theorem ones_any (x k : Nat) (hk : k < 60) (hx : x < 2 ^ k) (w : World) : Calls Try.prog 10 #[.int .i64 x] w fun e w' => e = .returned (.int .i64 (QM.S x k)) ∧ w = w' := by
  have hx' : x < 2 ^ 60 := Nat.lt_trans hx (Nat.pow_lt_pow_right (by decide) hk)
  have hxk := hide (Nat.div_eq_of_lt hx)
  clear hx
  go_enter Try.func10, Try.ntmps10
  go_wp2
  go_loop [0, 3] (fun n a => ∃ j : Nat, j ≤ 60 ∧ n = .int .i64 ((x / 2 ^ j : Nat) : Int) ∧ a = .int .i64 (QM.S x j)) (fun n _ => (intOf n).toNat)
  case atStart => exact ⟨0, by decide, by simp, rfl⟩
  case round =>
    obtain ⟨j, hj, rfl, rfl⟩ := hrel
    have hs := QM.S_le x j
    have hb : x / 2 ^ j ≤ x := Nat.div_le_self _ _
    have e2 := hide (show x / 2 ^ (j + 1) = x / 2 ^ j / 2 by rw [Nat.pow_succ, Nat.div_div_eq_div_mul])
    have e1 := hide (show QM.S x (j + 1) = QM.S x j + x / 2 ^ j % 2 from rfl)
    have e3 : Hid (x / 2 ^ j = 0 → QM.S x j = QM.S x k) := hide (fun h => QM.S_end x j k h (unhide hxk))
    have e4 : Hid (j = 60 → x / 2 ^ j = 0) := hide (fun h => by rw [h]; exact Nat.div_eq_of_lt hx')
    clear hxk
    generalize x / 2 ^ j = y at *
    have hy : y < 2 ^ 60 := by omega
    clear hb hx'
    by_cases h0 : 0 < y
    · go_wp2
      go_round
      case rel => exact ⟨j + 1, by have := unhide e4; omega, by rw [unhide e2]; go_num, by rw [unhide e1]; go_num⟩
      case measure => simp [intOf]; omega
    · have hz : y = 0 := by omega
      have e5 : Hid (QM.S x j = QM.S x k) := hide (unhide e3 hz)
      clear e1 e2 e3 e4
      subst hz
      go_wp2
      go_ret
      exact ⟨ret_int (by have := unhide e5; omega), rfl⟩

theorem ones_to (x k : Nat) (s : Nat) (hk : k < 60) (hx : x < 2 ^ k) (hs : QM.S x k = s) (w : World) : Calls Try.prog 10 #[.int .i64 x] w fun e w' => e = .returned (.int .i64 s) ∧ w = w' := hs ▸ ones_any x k hk hx w

theorem and_one_i64 (E : Int) (h0 : 0 ≤ E) (h1 : E < 4611686018427387904) : bits BinOp.and IntKind.i64 E 1 = E % 2 := by
  obtain ⟨a, rfl⟩ := Int.eq_ofNat_of_zero_le h0
  have h2 : (BitVec.ofInt 64 (a : Int)).toNat = a := by
    rw [BitVec.ofInt_natCast, BitVec.toNat_ofNat]; exact Nat.mod_eq_of_lt (by omega)
  have h3 : (BitVec.ofInt 64 (1 : Int)).toNat = 1 := by decide
  show IntKind.i64.wrap ((BitVec.ofInt 64 (a : Int) &&& BitVec.ofInt 64 (1 : Int)).toNat : Int) = _
  rw [BitVec.toNat_and, h2, h3, Nat.and_one_is_mod, IntKind.wrap_i64]
  omega

theorem bit_is (x j : Nat) (b : Int) (hx : x < 2 ^ 30) (h : ((x / 2 ^ j % 2 : Nat) : Int) = b) : bits BinOp.and IntKind.i64 ((x : Int) / 2 ^ j) 1 = b := by
  have e : (x : Int) / 2 ^ j = ((x / 2 ^ j : Nat) : Int) := by simp
  have hl := Nat.div_le_self x (2 ^ j)
  rw [e, ← h]
  generalize x / 2 ^ j = y at *
  rw [and_one_i64 _ (by omega) (by omega)]; omega
theorem B_one (x y j : Nat) (hx : ((x / 2 ^ j % 2 : Nat) : Int) = 1) (hy : ((y / 2 ^ j % 2 : Nat) : Int) = 1) : QM.B x y (j + 1) = QM.B x y j + 1 := by
  conv => lhs; unfold QM.B
  rw [if_pos (by omega)]
theorem B_none (x y j : Nat) (h : ((x / 2 ^ j % 2 : Nat) : Int) = 0 ∨ ((y / 2 ^ j % 2 : Nat) : Int) = 0) : QM.B x y (j + 1) = QM.B x y j := by
  conv => lhs; unfold QM.B
  rw [if_neg (by omega), Nat.add_zero]
theorem two (n : Nat) : ((n % 2 : Nat) : Int) = 0 ∨ ((n % 2 : Nat) : Int) = 1 := by omega

set_option maxHeartbeats 1000000 in
theorem walk (n1 n2 n3 : Int) (w : World) :
    Calls Try.prog 3 #[.int .i64 n1, .int .i64 n2, .int .i64 n3] w fun e w' => e = .returned (.bool true) ∧ New w w' := by
  have h0 := Int.emod_nonneg n1 (by decide : (19 : Int) ≠ 0)
  have h1 := Int.emod_lt_of_pos n1 (by decide : (0 : Int) < 19)
  go_enter Try.func3, Try.ntmps3
  go_wp2_with fail
  refine (picked_any n1 19 (by decide) (by decide) _).mono ?_
  rintro e w' ⟨rfl, rfl⟩
  obtain ⟨k, ek⟩ : ∃ k : Nat, 1 + n1 % 19 = k := Int.eq_ofNat_of_zero_le (by omega)
  have hk0 : 1 ≤ k := by omega
  have hk1 : k ≤ 19 := by omega
  have ek' := hide ek
  go_wp2_with fail
  clear ek h0 h1
  obtain ⟨p, ep⟩ : ∃ p : Nat, 2 ^ k = p := ⟨_, rfl⟩
  have hp : 0 < p := by rw [← ep]; exact Nat.pow_pos (by decide)
  have hp' : p ≤ 2 ^ 19 := by rw [← ep]; exact Nat.pow_le_pow_right (by decide) hk1
  have hv : IntKind.i64.wrap (2 ^ k) = (p : Int) := by
    have e : ((2 : Int) ^ k) = ((2 ^ k : Nat) : Int) := by simp
    rw [e, ep, IntKind.wrap_i64]; omega
  have hk2 : (k : Int) < 64 := by omega
  have ep := hide ep
  go_quiet ((go_at_call 8; exact Calls.quiet_of_same (picked_q _ _ (by omega) (by omega) _)))
  go_wp2_with fail
  obtain ⟨x, ex⟩ : ∃ x : Nat, n2 % p = x := Int.eq_ofNat_of_zero_le (Int.emod_nonneg n2 (by omega))
  obtain ⟨y, ey⟩ : ∃ y : Nat, n3 % p = y := Int.eq_ofNat_of_zero_le (Int.emod_nonneg n3 (by omega))
  have hx : x < p := by have := Int.emod_lt_of_pos n2 (show (0 : Int) < p by omega); omega
  have hy : y < p := by have := Int.emod_lt_of_pos n3 (show (0 : Int) < p by omega); omega
  simp only [ex, ey]
  clear ex ey hv
  refine (need_ok k hk1 _).mono ?_
  rintro e w' ⟨rfl, rfl⟩
  go_wp2_with fail
  refine (need_bad _ (by omega) (by omega) _).mono ?_
  rintro e w' ⟨rfl, rfl⟩
  go_wp2_with fail
  go_loop [14, 39] (fun b i => ∃ j : Nat, j ≤ k ∧ i = .int .i64 j ∧ b = .int .i64 (QM.B x y j)) (fun _ i => k - (intOf i).toNat)
  case atStart => exact ⟨0, by omega, rfl, rfl⟩
  case round =>
    obtain ⟨j, hj, rfl, rfl⟩ := hrel
    have hb := QM.B_le x y j
    by_cases hlt : j < k
    · have hj64 : (j : Int) < 64 := by omega
      rcases two (x / 2 ^ j) with bx | bx <;> rcases two (y / 2 ^ j) with by' | by'
      · have ax := bit_is x j 0 (by omega) bx; have e := hide (B_none x y j (.inl bx)); clear bx by'
        go_wp2
        go_round
        case rel => exact ⟨j + 1, by omega, by go_num, by rw [unhide e]⟩
        case measure => simp [intOf]; omega
      · have ax := bit_is x j 0 (by omega) bx; have e := hide (B_none x y j (.inl bx)); clear bx by'
        go_wp2
        go_round
        case rel => exact ⟨j + 1, by omega, by go_num, by rw [unhide e]⟩
        case measure => simp [intOf]; omega
      · have ax := bit_is x j 1 (by omega) bx; have ay := bit_is y j 0 (by omega) by'; have e := hide (B_none x y j (.inr by')); clear bx by'
        go_wp2
        go_round
        case rel => exact ⟨j + 1, by omega, by go_num, by rw [unhide e]⟩
        case measure => simp [intOf]; omega
      · have ax := bit_is x j 1 (by omega) bx; have ay := bit_is y j 1 (by omega) by'; have e := hide (B_one x y j bx by'); clear bx by'
        go_wp2
        go_round
        case rel => exact ⟨j + 1, by omega, by go_num, by rw [unhide e]; go_num⟩
        case measure => simp [intOf]; omega
    · have hjk : j = k := by omega
      subst hjk
      have sx := QM.S_le x j; have sy := QM.S_le y j
      have e := hide (QM.third x y j)
      have hpx := hide ((unhide ep) ▸ hx); have hpy := hide ((unhide ep) ▸ hy)
      clear ep
      obtain ⟨b, eb⟩ : ∃ b, QM.B x y j = b := ⟨_, rfl⟩
      obtain ⟨s, es⟩ : ∃ s, QM.S x j = s := ⟨_, rfl⟩
      obtain ⟨t, et⟩ : ∃ t, QM.S y j = t := ⟨_, rfl⟩
      have es := hide es; have et := hide et
      rw [eb] at e hb ⊢
      clear eb
      go_wp2_with ((go_at_call 10; refine (ones_to _ j _ (by omega) (by first | exact unhide hpx | exact unhide hpy) (by first | exact unhide es | exact unhide et) _).mono ?_; rintro e w' ⟨rfl, rfl⟩))
      all_goals go_ret
      all_goals first
        | exact ⟨rfl, by (repeat' (first | with_reducible exact new_refl _ | with_reducible assumption | with_reducible refine new_drewN ?_ _ | with_reducible refine new_drew ?_ | with_reducible refine new_alloc ?_ _ | with_reducible refine new_set ?_ ?_ _ | with_reducible refine new_freeze ?_ ?_ _ | with_reducible refine new_trans ?_ (by assumption) | (simp; done) | (simp; omega)))⟩
        | (refine ⟨ret_bool ?_, by (repeat' (first | with_reducible exact new_refl _ | with_reducible assumption | with_reducible refine new_drewN ?_ _ | with_reducible refine new_drew ?_ | with_reducible refine new_alloc ?_ _ | with_reducible refine new_set ?_ ?_ _ | with_reducible refine new_freeze ?_ ?_ _ | with_reducible refine new_trans ?_ (by assumption) | (simp; done) | (simp; omega)))⟩
           have e := unhide e; rw [unhide es, unhide et] at e
           simp only [Bool.or_eq_true, decide_eq_true_eq]; omega)

set_option maxRecDepth 100000 in
theorem lifted (os : Os) (started : os.Started) (H : Type) (enc : TypeId × Value → H) :
    ReturnsInHanded {} Try.checked os 3 .any (Rows.quorumMeetsSpec.pre6 enc Try.prog Try.f3 Rows.quorumMeetsRow.domain false) (Rows.quorumMeetsSpec.post enc Try.prog Try.f3 false true false false) := by
  refine returnsInHanded_of_change (C := Try.checked) own started (by kernel_rfl) Try.func3
    (ChangeSpec.witness6 (enc := enc) (C := Try.checked) false ⟨#[], #[.int .i64 0, .int .i64 0, .int .i64 0], []⟩ 8 (by kernel_rfl) (by kernel_rfl) (by kernel_rfl) (by kernel_rfl)) ?_
  intro W base args ds gs before hval0 hW hcnd _
  have hval : ∀ (j : Nat) t v, Try.f3.params[j]? = some t → args[j]? = some v → Value.okWide Try.prog W .any base t v := hval0
  have hW' := hW
  obtain ⟨p, q, hA0, hV, rfl, hfz, hnd⟩ := hW
  have hA : DataW.TrodAll enc Try.prog W 0 (fun _ => true) true Try.f3.params.toList args.toList ds p := hA0
  rw [Try.params3] at hA hval
  obtain ⟨v0, vs0, d0, ds0, p0, q0, hargs, rfl, rfl, h0, r0⟩ := trodAll_cons hA
  obtain ⟨v1, vs1, d1, ds1, p1, q1, rfl, rfl, rfl, h1, r1⟩ := trodAll_cons r0
  obtain ⟨v2, vs2, d2, ds2, p2, q2, rfl, rfl, rfl, h2, r2⟩ := trodAll_cons r1
  obtain ⟨rfl, rfl, rfl⟩ := trodAll_nil r2
  obtain rfl : args = #[v0, v1, v2] := by cases args; simp_all
  obtain ⟨rfl, rfl⟩ := trodVars_none hV
  obtain ⟨n1, rfl, rfl, rfl, wn1⟩ := open_int Try.underlying3 (hval 0 3 v0 rfl rfl) h0
  obtain ⟨n2, rfl, rfl, rfl, wn2⟩ := open_int Try.underlying3 (hval 1 3 v1 rfl rfl) h1
  obtain ⟨n3, rfl, rfl, rfl, wn3⟩ := open_int Try.underlying3 (hval 2 3 v2 rfl rfl) h2
  refine (walk n1 n2 n3 W).mono fun e W' ⟨he, hN⟩ => ?_
  subst he
  exact ⟨_, rfl, law_post laidOut (by kernel_rfl) (by kernel_rfl) Try.underlying4 rfl hW' rfl hN⟩

theorem holds : Rows.QuorumMeetsSaid :=
  OpenClaim.holds_of_wide 3 Try.f3 rfl rfl rfl rfl rfl rfl rfl ⟨rfl, rfl, rfl, rfl, rfl⟩ rfl rfl rfl rfl rfl (by kernel_rfl) Try.func3 (by kernel_rfl)
    (of_decide_eq_true (by kernel_rfl)) (by unfold Func.isWrapper; first | (rw [if_pos (by decide +kernel)]; kernel_rfl) | (rw [if_neg (by decide +kernel)]; exact ⟨rfl, rfl⟩))
    (fun os started H enc _ => lifted os started H enc)

#print axioms holds
end Go.Proofs.Ytokijcdanegooaa.quorumMeets
