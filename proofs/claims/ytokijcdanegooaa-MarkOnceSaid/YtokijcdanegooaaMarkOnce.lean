/- MarkOnce: a number is marked once, and no other one by that. No conditions. -/
import Derived.Test.YtokijcdanegooaaSeen
import Derived.Test.YtokijcdanegooaaRowA
namespace Go.Proofs.Ytokijcdanegooaa.markOnce
open Go.ChangeShapes Go.WideShapes Go.RowKit Go.Joins
set_option linter.unusedVariables false
open Go.Proofs.Ytokijcdanegooaa
set_option maxRecDepth 100000
--nrm pg_all

theorem p_picked (n m q : Int) (hm : 0 < m) (hm' : m ≤ 4611686018427387904) (hq : n % m = q) : Pur Try.prog 8 [.int .i64 n, .int .i64 m] (.int .i64 q) :=
  pur_of_calls (vs := [.int .i64 n, .int .i64 m]) rfl rfl rfl fun w => (picked_any n m hm hm' w).mono fun e w' ⟨h1, h2⟩ => ⟨by rw [h1, hq], by rw [← h2]; exact new_refl w⟩

set_option maxHeartbeats 4000000 in
theorem pur (X : Nat → Nat) (hX : ∀ k, X k < 18446744073709551616) (n m : Int) : Pur Try.prog 4 [.agg (pg X), .int .i64 n, .int .i64 m] (.bool true) := by
  have i0 := Int.emod_nonneg n (show (256 : Int) ≠ 0 by decide)
  have i1 := Int.emod_lt_of_pos n (show (0 : Int) < 256 by decide)
  have j0 := Int.emod_nonneg m (show (256 : Int) ≠ 0 by decide)
  have j1 := Int.emod_lt_of_pos m (show (0 : Int) < 256 by decide)
  obtain ⟨i, ei⟩ : ∃ i : Nat, n % 256 = i := ⟨(n % 256).toNat, by omega⟩
  obtain ⟨j, ej⟩ : ∃ i : Nat, m % 256 = i := ⟨(m % 256).toNat, by omega⟩
  rw [ei] at i0 i1
  rw [ej] at j0 j1
  have pi := p_picked n 256 i (by decide) (by decide) ei
  have pj := p_picked m 256 j (by decide) (by decide) ej
  have hi : i < 256 := by omega
  have hj : j < 256 := by omega
  have nm : Pur Try.prog 12 [.agg (pg fun _ => 0), .int .i64 (256 + (i : Int))] (.tup [.agg (pg fun _ => 0), .int .i64 6]) := by
    have := Mark_not (fun _ => 0) (256 + i) (by omega)
    rw [show ((256 + i : Nat) : Int) = 256 + (i : Int) by omega] at this
    exact this
  obtain ⟨was, hwas⟩ : ∃ b, bitp X j = b := ⟨_, rfl⟩
  have h2 := Has_ok X hX j hj was hwas
  cases hb : bitp X i with
  | true =>
    have h1 := Has_ok X hX i hi true hb
    have h3 := Mark_twice X hX i hi hb
    refine pur_intro Try.func4 rfl Try.ntmps4 rfl rfl fun B => ?_
    repeat (first | with_reducible refine W_seq ?_ | with_reducible refine q_then ?_ | with_reducible refine q_thenr ?_ | with_reducible refine q_thenx ?_ | with_reducible refine W_block ?_ | with_reducible refine q_block ?_ | with_reducible refine q_blockr ?_ | with_reducible refine q_blockx ?_ | with_reducible refine W_ret ?_ | with_reducible refine W_skip ?_ | with_reducible refine W_label ?_ | with_reducible refine W_exit ?_ | (with_reducible refine R_nil ?_; try dsimp only [slots0, slots_ud, pg_all, cells_U, agg_ud, drop0, dropS, takeS, take0, ud_nil, take_ud, take_ud0, drop_ud, drop_ud0, take_udk, D.cells, D.fz, D.fzs, List.take_succ_cons, List.take_zero, List.drop_succ_cons, List.drop_zero, List.cons_append, List.nil_append, List.append_eq, List.length_cons, List.length_nil, Nat.reduceAdd, Nat.reduceMul, Nat.reduceSub, Int.reduceAdd, Int.reduceSub, Int.reduceToNat, Int.reduceNeg, Int.reduceMul]) | refine q_blocky rfl ?_ | refine W_plain rfl ?_ | refine W_drawn mixed rfl ?_ | refine and_chk (by kernel_rfl) ?_ | refine k_move rfl rfl ?_ | refine k_assign rfl rfl ?_ | refine k_load rfl rfl rfl rfl ?_ | refine k_alloc rfl ?_ | refine k_box rfl rfl rfl ?_ | refine k_store rfl rfl rfl rfl rfl rfl rfl ?_ | refine k_extract rfl rfl rfl ?_ | refine k_fieldAddr rfl rfl rfl ?_ | refine k_field rfl rfl rfl ?_ | refine k_build rfl rfl rfl ?_ | refine k_call rfl pi rfl rfl rfl rfl ?_ | refine k_call rfl pj rfl rfl rfl rfl ?_ | refine k_call rfl h1 rfl rfl rfl rfl ?_ | refine k_call rfl h2 rfl rfl rfl rfl ?_ | refine k_call rfl h3 rfl rfl rfl rfl ?_ | refine k_call rfl nm rfl rfl rfl rfl ?_ | refine k_eqb rfl Try.underlying4 rfl rfl rfl ?_ | refine k_buildSlice rfl rfl rfl rfl rfl rfl rfl ?_ | refine k_indexAddr rfl rfl rfl ⟨by omega, by omega⟩ ?_ | refine k_indexAddrs rfl rfl rfl ⟨by omega, by omega⟩ rfl ?_ | refine k_index rfl rfl rfl ⟨by omega, by omega⟩ rfl ?_ | refine k_loade rfl rfl rfl ?_ | refine k_fieldAddre rfl rfl rfl rfl ?_ | refine k_len rfl rfl ?_ | refine k_nilCheck rfl rfl rfl ?_ | refine k_pickT rfl rfl rfl ?_ | refine k_pickF rfl rfl rfl ?_ | refine k_addi rfl rfl rfl (by omega) ?_ | refine k_subi rfl rfl rfl (by omega) ?_ | refine k_negi rfl rfl (by omega) ?_ | refine k_not rfl rfl rfl ?_ | refine k_lssT rfl rfl rfl (by omega) ?_ | refine k_lssF rfl rfl rfl (by omega) ?_ | refine k_leqT rfl rfl rfl (by omega) ?_ | refine k_leqF rfl rfl rfl (by omega) ?_ | refine k_gtrT rfl rfl rfl (by omega) ?_ | refine k_gtrF rfl rfl rfl (by omega) ?_ | refine k_geqT rfl rfl rfl (by omega) ?_ | refine k_geqF rfl rfl rfl (by omega) ?_ | refine k_eqlT rfl rfl rfl (by omega) ?_ | refine k_eqlF rfl rfl rfl (by omega) ?_ | refine k_neqT rfl rfl rfl (by omega) ?_ | refine k_neqF rfl rfl rfl (by omega) ?_ | refine k_eqa rfl rfl rfl rfl rfl rfl ?_ | refine k_nea rfl rfl rfl rfl rfl rfl ?_ | refine k_makeFunc rfl rfl rfl ?_ | refine k_skip rfl ?_ | refine k_skip0 rfl ?_ | refine k_pick rfl rfl rfl rfl rfl ?_ | refine W_yes rfl ?_ | refine W_no rfl ?_)
    (first | with_reducible refine q_endr ?_ | with_reducible refine q_endn ?_); refine rets1 Try.results4 (by first | exact RetV.tmp _ _ rfl | exact RetV.cell _ _ _ _ _ _ _ _ inferInstance rfl rfl rfl) ?_
    rfl
  | false =>
    have h1 := Has_ok X hX i hi false hb
    have h3 := Mark_ok X hX i hi hb
    have h4 := Has_ok (setp X i) (setp_lt hX i) i hi true (by rw [bitp_setp]; simp)
    have h5 := Mark_twice (setp X i) (setp_lt hX i) i hi (by rw [bitp_setp]; simp)
    have h6 : ∀ t, bitp (setp X i) j = t → Pur Try.prog 11 [.agg (pg (setp X i)), .int .i64 j] (.tup [.bool t, .int .i64 0]) := fun t ht => Has_ok (setp X i) (setp_lt hX i) j hj t ht
    have h7 := bitp_setp X i j
    rw [hwas] at h7
    generalize bitp (setp X i) j = t at h6 h7
    have h6 := h6 t rfl
    by_cases e : i = j
    · subst e
      have : was = false := by rw [← hwas, hb]
      subst this
      simp only [decide_true, Bool.or_true] at h7
      subst h7
      refine pur_intro Try.func4 rfl Try.ntmps4 rfl rfl fun B => ?_
      repeat (first | with_reducible refine W_seq ?_ | with_reducible refine q_then ?_ | with_reducible refine q_thenr ?_ | with_reducible refine q_thenx ?_ | with_reducible refine W_block ?_ | with_reducible refine q_block ?_ | with_reducible refine q_blockr ?_ | with_reducible refine q_blockx ?_ | with_reducible refine W_ret ?_ | with_reducible refine W_skip ?_ | with_reducible refine W_label ?_ | with_reducible refine W_exit ?_ | (with_reducible refine R_nil ?_; try dsimp only [slots0, slots_ud, pg_all, cells_U, agg_ud, drop0, dropS, takeS, take0, ud_nil, take_ud, take_ud0, drop_ud, drop_ud0, take_udk, D.cells, D.fz, D.fzs, List.take_succ_cons, List.take_zero, List.drop_succ_cons, List.drop_zero, List.cons_append, List.nil_append, List.append_eq, List.length_cons, List.length_nil, Nat.reduceAdd, Nat.reduceMul, Nat.reduceSub, Int.reduceAdd, Int.reduceSub, Int.reduceToNat, Int.reduceNeg, Int.reduceMul]) | refine q_blocky rfl ?_ | refine W_plain rfl ?_ | refine W_drawn mixed rfl ?_ | refine and_chk (by kernel_rfl) ?_ | refine k_move rfl rfl ?_ | refine k_assign rfl rfl ?_ | refine k_load rfl rfl rfl rfl ?_ | refine k_alloc rfl ?_ | refine k_box rfl rfl rfl ?_ | refine k_store rfl rfl rfl rfl rfl rfl rfl ?_ | refine k_extract rfl rfl rfl ?_ | refine k_fieldAddr rfl rfl rfl ?_ | refine k_field rfl rfl rfl ?_ | refine k_build rfl rfl rfl ?_ | refine k_call rfl pi rfl rfl rfl rfl ?_ | refine k_call rfl pj rfl rfl rfl rfl ?_ | refine k_call rfl h1 rfl rfl rfl rfl ?_ | refine k_call rfl h2 rfl rfl rfl rfl ?_ | refine k_call rfl h3 rfl rfl rfl rfl ?_ | refine k_call rfl nm rfl rfl rfl rfl ?_ | refine k_eqb rfl Try.underlying4 rfl rfl rfl ?_ | refine k_call rfl h4 rfl rfl rfl rfl ?_ | refine k_call rfl h5 rfl rfl rfl rfl ?_ | refine k_call rfl h6 rfl rfl rfl rfl ?_ | refine k_buildSlice rfl rfl rfl rfl rfl rfl rfl ?_ | refine k_indexAddr rfl rfl rfl ⟨by omega, by omega⟩ ?_ | refine k_indexAddrs rfl rfl rfl ⟨by omega, by omega⟩ rfl ?_ | refine k_index rfl rfl rfl ⟨by omega, by omega⟩ rfl ?_ | refine k_loade rfl rfl rfl ?_ | refine k_fieldAddre rfl rfl rfl rfl ?_ | refine k_len rfl rfl ?_ | refine k_nilCheck rfl rfl rfl ?_ | refine k_pickT rfl rfl rfl ?_ | refine k_pickF rfl rfl rfl ?_ | refine k_addi rfl rfl rfl (by omega) ?_ | refine k_subi rfl rfl rfl (by omega) ?_ | refine k_negi rfl rfl (by omega) ?_ | refine k_not rfl rfl rfl ?_ | refine k_lssT rfl rfl rfl (by omega) ?_ | refine k_lssF rfl rfl rfl (by omega) ?_ | refine k_leqT rfl rfl rfl (by omega) ?_ | refine k_leqF rfl rfl rfl (by omega) ?_ | refine k_gtrT rfl rfl rfl (by omega) ?_ | refine k_gtrF rfl rfl rfl (by omega) ?_ | refine k_geqT rfl rfl rfl (by omega) ?_ | refine k_geqF rfl rfl rfl (by omega) ?_ | refine k_eqlT rfl rfl rfl (by omega) ?_ | refine k_eqlF rfl rfl rfl (by omega) ?_ | refine k_neqT rfl rfl rfl (by omega) ?_ | refine k_neqF rfl rfl rfl (by omega) ?_ | refine k_eqa rfl rfl rfl rfl rfl rfl ?_ | refine k_nea rfl rfl rfl rfl rfl rfl ?_ | refine k_makeFunc rfl rfl rfl ?_ | refine k_skip rfl ?_ | refine k_skip0 rfl ?_ | refine k_pick rfl rfl rfl rfl rfl ?_ | refine W_yes rfl ?_ | refine W_no rfl ?_)
      (first | with_reducible refine q_endr ?_ | with_reducible refine q_endn ?_); refine rets1 Try.results4 (by first | exact RetV.tmp _ _ rfl | exact RetV.cell _ _ _ _ _ _ _ _ inferInstance rfl rfl rfl) ?_
      rfl
    · simp only [e, decide_false, Bool.or_false] at h7
      subst h7
      have e' : (i : Int) ≠ j := by omega
      cases t
      all_goals
        refine pur_intro Try.func4 rfl Try.ntmps4 rfl rfl fun B => ?_
        repeat (first | with_reducible refine W_seq ?_ | with_reducible refine q_then ?_ | with_reducible refine q_thenr ?_ | with_reducible refine q_thenx ?_ | with_reducible refine W_block ?_ | with_reducible refine q_block ?_ | with_reducible refine q_blockr ?_ | with_reducible refine q_blockx ?_ | with_reducible refine W_ret ?_ | with_reducible refine W_skip ?_ | with_reducible refine W_label ?_ | with_reducible refine W_exit ?_ | (with_reducible refine R_nil ?_; try dsimp only [slots0, slots_ud, pg_all, cells_U, agg_ud, drop0, dropS, takeS, take0, ud_nil, take_ud, take_ud0, drop_ud, drop_ud0, take_udk, D.cells, D.fz, D.fzs, List.take_succ_cons, List.take_zero, List.drop_succ_cons, List.drop_zero, List.cons_append, List.nil_append, List.append_eq, List.length_cons, List.length_nil, Nat.reduceAdd, Nat.reduceMul, Nat.reduceSub, Int.reduceAdd, Int.reduceSub, Int.reduceToNat, Int.reduceNeg, Int.reduceMul]) | refine q_blocky rfl ?_ | refine W_plain rfl ?_ | refine W_drawn mixed rfl ?_ | refine and_chk (by kernel_rfl) ?_ | refine k_move rfl rfl ?_ | refine k_assign rfl rfl ?_ | refine k_load rfl rfl rfl rfl ?_ | refine k_alloc rfl ?_ | refine k_box rfl rfl rfl ?_ | refine k_store rfl rfl rfl rfl rfl rfl rfl ?_ | refine k_extract rfl rfl rfl ?_ | refine k_fieldAddr rfl rfl rfl ?_ | refine k_field rfl rfl rfl ?_ | refine k_build rfl rfl rfl ?_ | refine k_call rfl pi rfl rfl rfl rfl ?_ | refine k_call rfl pj rfl rfl rfl rfl ?_ | refine k_call rfl h1 rfl rfl rfl rfl ?_ | refine k_call rfl h2 rfl rfl rfl rfl ?_ | refine k_call rfl h3 rfl rfl rfl rfl ?_ | refine k_call rfl nm rfl rfl rfl rfl ?_ | refine k_eqb rfl Try.underlying4 rfl rfl rfl ?_ | refine k_call rfl h4 rfl rfl rfl rfl ?_ | refine k_call rfl h5 rfl rfl rfl rfl ?_ | refine k_call rfl h6 rfl rfl rfl rfl ?_ | refine k_buildSlice rfl rfl rfl rfl rfl rfl rfl ?_ | refine k_indexAddr rfl rfl rfl ⟨by omega, by omega⟩ ?_ | refine k_indexAddrs rfl rfl rfl ⟨by omega, by omega⟩ rfl ?_ | refine k_index rfl rfl rfl ⟨by omega, by omega⟩ rfl ?_ | refine k_loade rfl rfl rfl ?_ | refine k_fieldAddre rfl rfl rfl rfl ?_ | refine k_len rfl rfl ?_ | refine k_nilCheck rfl rfl rfl ?_ | refine k_pickT rfl rfl rfl ?_ | refine k_pickF rfl rfl rfl ?_ | refine k_addi rfl rfl rfl (by omega) ?_ | refine k_subi rfl rfl rfl (by omega) ?_ | refine k_negi rfl rfl (by omega) ?_ | refine k_not rfl rfl rfl ?_ | refine k_lssT rfl rfl rfl (by omega) ?_ | refine k_lssF rfl rfl rfl (by omega) ?_ | refine k_leqT rfl rfl rfl (by omega) ?_ | refine k_leqF rfl rfl rfl (by omega) ?_ | refine k_gtrT rfl rfl rfl (by omega) ?_ | refine k_gtrF rfl rfl rfl (by omega) ?_ | refine k_geqT rfl rfl rfl (by omega) ?_ | refine k_geqF rfl rfl rfl (by omega) ?_ | refine k_eqlT rfl rfl rfl (by omega) ?_ | refine k_eqlF rfl rfl rfl (by omega) ?_ | refine k_neqT rfl rfl rfl (by omega) ?_ | refine k_neqF rfl rfl rfl (by omega) ?_ | refine k_eqa rfl rfl rfl rfl rfl rfl ?_ | refine k_nea rfl rfl rfl rfl rfl rfl ?_ | refine k_makeFunc rfl rfl rfl ?_ | refine k_skip rfl ?_ | refine k_skip0 rfl ?_ | refine k_pick rfl rfl rfl rfl rfl ?_ | refine W_yes rfl ?_ | refine W_no rfl ?_)
        (first | with_reducible refine q_endr ?_ | with_reducible refine q_endn ?_); refine rets1 Try.results4 (by first | exact RetV.tmp _ _ rfl | exact RetV.cell _ _ _ _ _ _ _ _ inferInstance rfl rfl rfl) ?_
        rfl

theorem walk (a b c e n m : Int) (ha : (Lit.int .u64 a).wf = true) (hb : (Lit.int .u64 b).wf = true) (hc : (Lit.int .u64 c).wf = true) (he : (Lit.int .u64 e).wf = true) (w : World) : Calls Try.prog 4 #[.agg #[.int .u64 a, .int .u64 b, .int .u64 c, .int .u64 e], .int .i64 n, .int .i64 m] w fun e w' => e = .returned (.bool true) ∧ New w w' := by
  have ha := bounds_u64 ha
  have hb := bounds_u64 hb
  have hc := bounds_u64 hc
  have he := bounds_u64 he
  let X : Nat → Nat := fun k => if k = 0 then a.toNat else if k = 1 then b.toNat else if k = 2 then c.toNat else e.toNat
  have hX : ∀ k, X k < 18446744073709551616 := fun k => by
    simp only [X]
    split
    · omega
    · split
      · omega
      · split <;> omega
  have h := calls_of_pur (vs := [.agg #[.int .u64 (X 0), .int .u64 (X 1), .int .u64 (X 2), .int .u64 (X 3)], .int .i64 n, .int .i64 m]) rfl rfl rfl (pur X hX n m) w
  have e0 : ((X 0 : Nat) : Int) = a := by simp [X]; omega
  have e1 : ((X 1 : Nat) : Int) = b := by simp [X]; omega
  have e2 : ((X 2 : Nat) : Int) = c := by simp [X]; omega
  have e3 : ((X 3 : Nat) : Int) = e := by simp [X]; omega
  rw [e0, e1, e2, e3] at h
  exact h

set_option maxRecDepth 100000 in
theorem lifted (os : Os) (started : os.Started) (H : Type) (enc : TypeId × Value → H) :
    ReturnsInHanded {} Try.checked os 4 .any (Rows.markOnceSpec.pre6 enc Try.prog Try.f4 Rows.markOnceRow.domain false) (Rows.markOnceSpec.post enc Try.prog Try.f4 false true false false) := by
  refine returnsInHanded_of_change (C := Try.checked) own started (by kernel_rfl) Try.func4
    (ChangeSpec.witness6 (enc := enc) (C := Try.checked) false ⟨#[], #[.agg #[.int .u64 0, .int .u64 0, .int .u64 0, .int .u64 0], .int .i64 0, .int .i64 0], []⟩ 8 (by kernel_rfl) (by kernel_rfl) (by kernel_rfl) (by kernel_rfl)) ?_
  intro W base args ds gs before hval0 hW hcnd _
  have hval : ∀ (j : Nat) t v, Try.f4.params[j]? = some t → args[j]? = some v → Value.okWide Try.prog W .any base t v := hval0
  have hW' := hW
  obtain ⟨p, q, hA0, hV, rfl, hfz, hnd⟩ := hW
  have hA : DataW.TrodAll enc Try.prog W 0 (fun _ => true) true Try.f4.params.toList args.toList ds p := hA0
  rw [Try.params4] at hA hval
  obtain ⟨v0, vs0, d0, ds0, p0, q0, hargs, rfl, rfl, h0, r0⟩ := trodAll_cons hA
  obtain ⟨v1, vs1, d1, ds1, p1, q1, rfl, rfl, rfl, h1, r1⟩ := trodAll_cons r0
  obtain ⟨v2, vs2, d2, ds2, p2, q2, rfl, rfl, rfl, h2, r2⟩ := trodAll_cons r1
  obtain ⟨rfl, rfl, rfl⟩ := trodAll_nil r2
  obtain rfl : args = #[v0, v1, v2] := by cases args; simp_all
  obtain ⟨rfl, rfl⟩ := trodVars_none hV
  obtain ⟨x10, x11, x12, x13, rfl, wx10, wx11, wx12, wx13⟩ := open_page (hval 0 29 v0 rfl rfl) h0
  obtain ⟨n2, rfl, rfl, rfl, wn2⟩ := open_int Try.underlying3 (hval 1 3 v1 rfl rfl) h1
  obtain ⟨n3, rfl, rfl, rfl, wn3⟩ := open_int Try.underlying3 (hval 2 3 v2 rfl rfl) h2
  refine (walk x10 x11 x12 x13 n2 n3 wx10 wx11 wx12 wx13 W).mono fun e W' ⟨he, hN⟩ => ?_
  subst he
  exact ⟨_, rfl, law_post laidOut (by kernel_rfl) (by kernel_rfl) Try.underlying4 rfl hW' rfl hN⟩

theorem holds : Rows.MarkOnceSaid :=
  OpenClaim.holds_of_wide 4 Try.f4 rfl rfl rfl rfl rfl rfl rfl ⟨rfl, rfl, rfl, rfl, rfl⟩ rfl rfl rfl rfl rfl (by kernel_rfl) Try.func4 (by kernel_rfl)
    (of_decide_eq_true (by kernel_rfl)) (by unfold Func.isWrapper; first | (rw [if_pos (by decide +kernel)]; kernel_rfl) | (rw [if_neg (by decide +kernel)]; exact ⟨rfl, rfl⟩))
    (fun os started H enc _ => lifted os started H enc)

#print axioms holds
end Go.Proofs.Ytokijcdanegooaa.markOnce
