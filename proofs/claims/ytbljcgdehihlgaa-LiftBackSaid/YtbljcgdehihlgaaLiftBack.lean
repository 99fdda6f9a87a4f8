/- LiftBack: a point is found by its first number, and by whether its second one is odd. No conditions. -/
import Derived.Test.YtbljcgdehihlgaaLift
import Derived.Test.YtbljcgdehihlgaaRow
namespace Go.Proofs.Ytbljcgdehihlgaa.liftBack
open Go.ChangeShapes Go.WideShapes Go.RowKit Go.Joins
set_option linter.unusedVariables false
open Go.Proofs.Ytbljcgdehihlgaa
set_option maxRecDepth 100000
--nrm pt_all pt_x pt_y cv_all cv_p cv_a cv_b cv_n cv_g cv_gx pt_len cv_len rg_len ren_rl rl_all rl_m rl_len rl_nil pt_nil ptD_all ptD_nil ptD_len


theorem lift_pt {p b n gx gy : Nat} {T : Nat → P3} (G : Grp p b n gx gy T) (E : Extra p b n T) (i x y : Nat) (hi : i % n ≠ 0) (hT : T i = (x, y, false)) (hy0 : 0 < y) (hy : y < p) (hx : x < p) : Pur Try.prog 23 [.agg (cv p 0 b n gx gy false), U x, .bool (decide (y % 2 = 1))] (.tup [.agg (pt x y false), .int .i64 0]) := by
  have hon : onN p 0 b x y = true := by
    have := G.on i
    rw [hT] at this
    rcases this with h | ⟨_, _, _, h⟩
    · cases h
    · exact h
  have h4 := G.good.h4
  rcases (E.lift i x y false hi hT).2 with h | h
  · exact Lift_C G.good x y hx h _ true rfl hon
  · have e : p - (p - y) = y := by omega
    have := Lift_A G.good x (p - y) hx h (decide (y % 2 = 1)) true (by
      rw [Bool.eq_iff_iff]; simp; omega) (by omega) (by rw [e]; exact hon)
    rw [e] at this
    exact this

set_option maxHeartbeats 4000000 in
theorem pur (z i : Int) : Pur Try.prog 8 [.int .i64 z, .int .i64 i] (.bool true) := by
  obtain ⟨kk, p, b, n, gx, gy, T, hz, hk, G, hn, h1, hp, E⟩ := grps2 z
  have hc := Curve_ok z kk p b n gx gy hz hk
  have hl := (lim0_small n (by omega)).2.1
  have q0 := Int.emod_nonneg i (show (n : Int) - 1 ≠ 0 by omega)
  have q1 := Int.emod_lt_of_pos i (show (0 : Int) < n - 1 by omega)
  obtain ⟨q, eq⟩ : ∃ q : Nat, i % ((n : Int) - 1) = q := ⟨_, (Int.toNat_of_nonneg q0).symm⟩
  rw [eq] at q1
  have p1 := point_ok G hn h1 (1 + (q : Int)) (1 + q) (by rw [Int.emod_eq_of_lt (by omega) (by omega)]; omega)
  have hqn : (1 + q) % n ≠ 0 := by rw [Nat.mod_eq_of_lt (by omega)]; omega
  obtain ⟨x, y, e1, _, hy0, hy, hx⟩ := E.opp (1 + q) (n - (1 + q)) (by rw [show 1 + q + (n - (1 + q)) = n from by omega, Nat.mod_self]) hqn
  have L := lift_pt G E (1 + q) x y hqn e1 hy0 hy hx
  have R := Lift_range' G.good p (Nat.le_refl _) G.good.hp false
  rw [e1] at p1
  have t1 := tmod2 y
  have hpar : y % 2 = 0 ∨ y % 2 = 1 := by omega
  rcases hpar with hpar | hpar
  all_goals
    simp [hpar] at L
    refine pur_intro Try.func8 rfl Try.ntmps8 rfl rfl fun B => ?_
    repeat (first | with_reducible refine W_seq ?_ | with_reducible refine q_then ?_ | with_reducible refine q_thenr ?_ | with_reducible refine q_thenx ?_ | with_reducible refine W_block ?_ | with_reducible refine q_block ?_ | with_reducible refine q_blockr ?_ | with_reducible refine q_blockx ?_ | with_reducible refine W_ret ?_ | with_reducible refine W_skip ?_ | with_reducible refine W_label ?_ | with_reducible refine W_exit ?_ | (with_reducible refine R_nil ?_; try dsimp only [slots0, slots_ud, pt_all, pt_x, pt_y, cv_all, cv_p, cv_a, cv_b, cv_n, cv_g, cv_gx, pt_len, cv_len, rg_len, ren_rl, rl_all, rl_m, rl_len, rl_nil, pt_nil, ptD_all, ptD_nil, ptD_len, cells_U, agg_ud, drop0, dropS, takeS, take0, ud_nil, take_ud, take_ud0, drop_ud, drop_ud0, take_udk, D.cells, D.fz, D.fzs, List.take_succ_cons, List.take_zero, List.drop_succ_cons, List.drop_zero, List.cons_append, List.nil_append, List.append_eq, List.length_cons, List.length_nil, Nat.reduceAdd, Nat.reduceMul, Nat.reduceSub, Int.reduceAdd, Int.reduceSub, Int.reduceToNat, Int.reduceNeg, Int.reduceMul]) | refine q_blocky rfl ?_ | refine W_plain rfl ?_ | refine W_drawn mixed rfl ?_ | refine and_chk (by kernel_rfl) ?_ | refine k_move rfl rfl ?_ | refine k_assign rfl rfl ?_ | refine k_load rfl rfl rfl rfl ?_ | refine k_alloc rfl ?_ | refine k_box rfl rfl rfl ?_ | refine k_store rfl rfl rfl rfl rfl rfl rfl ?_ | refine k_extract rfl rfl rfl ?_ | refine k_fieldAddr rfl rfl rfl ?_ | refine k_field rfl rfl rfl ?_ | refine k_build rfl rfl rfl ?_ | refine k_call rfl hc rfl rfl rfl rfl ?_ | refine k_conv rfl rfl hl ?_ | refine k_call rfl (p_picked i (n - 1) q (by omega) (by omega) eq) rfl rfl rfl rfl ?_ | refine k_call rfl p1 rfl rfl rfl rfl ?_ | refine k_rem rfl rfl rfl (by decide) t1 ?_ | refine k_call rfl L rfl rfl rfl rfl ?_ | refine k_call rfl R rfl rfl rfl rfl ?_ | refine k_call rfl tells rfl rfl rfl rfl ?_ | refine k_eqa rfl rfl rfl rfl rfl (deqs_pt (x, y, false)) ?_ | refine k_buildSlice rfl rfl rfl rfl ?_ | refine k_indexAddr rfl rfl rfl ⟨by omega, by omega⟩ ?_ | refine k_indexAddrs rfl rfl rfl ⟨by omega, by omega⟩ rfl ?_ | refine k_index rfl rfl rfl ⟨by omega, by omega⟩ rfl ?_ | refine k_loade rfl rfl rfl ?_ | refine k_fieldAddre rfl rfl rfl rfl ?_ | refine k_len rfl rfl ?_ | refine k_nilCheck rfl rfl rfl ?_ | refine k_pickT rfl rfl rfl ?_ | refine k_pickF rfl rfl rfl ?_ | refine k_addi rfl rfl rfl (by omega) ?_ | refine k_subi rfl rfl rfl (by omega) ?_ | refine k_negi rfl rfl (by omega) ?_ | refine k_not rfl rfl rfl ?_ | refine k_lssT rfl rfl rfl (by omega) ?_ | refine k_lssF rfl rfl rfl (by omega) ?_ | refine k_leqT rfl rfl rfl (by omega) ?_ | refine k_leqF rfl rfl rfl (by omega) ?_ | refine k_gtrT rfl rfl rfl (by omega) ?_ | refine k_gtrF rfl rfl rfl (by omega) ?_ | refine k_geqT rfl rfl rfl (by omega) ?_ | refine k_geqF rfl rfl rfl (by omega) ?_ | refine k_eqlT rfl rfl rfl (by omega) ?_ | refine k_eqlF rfl rfl rfl (by omega) ?_ | refine k_neqT rfl rfl rfl (by omega) ?_ | refine k_neqF rfl rfl rfl (by omega) ?_ | refine k_eqa rfl rfl rfl rfl rfl rfl ?_ | refine k_nea rfl rfl rfl rfl rfl rfl ?_ | refine k_makeFunc rfl rfl rfl ?_ | refine k_skip rfl ?_ | refine k_skip0 rfl ?_ | refine k_pick rfl rfl rfl rfl rfl ?_ | refine W_yes rfl ?_ | refine W_no rfl ?_)
    (first | with_reducible refine q_endr ?_ | with_reducible refine q_endn ?_); refine rets1 Try.results8 (by first | exact RetV.tmp _ _ rfl | exact RetV.cell _ _ _ _ _ _ _ _ inferInstance rfl rfl rfl) ?_
    rfl

theorem walk (z i : Int) (w : World) : Calls Try.prog 8 #[.int .i64 z, .int .i64 i] w fun e w' => e = .returned (.bool true) ∧ New w w' :=
  calls_of_pur (vs := [.int .i64 z, .int .i64 i]) rfl rfl rfl (pur z i) w

set_option maxRecDepth 100000 in
theorem lifted (os : Os) (started : os.Started) (H : Type) (enc : TypeId × Value → H) :
    ReturnsInHanded {} Try.checked os 8 .any (Rows.liftBackSpec.pre6 enc Try.prog Try.f8 Rows.liftBackRow.domain false) (Rows.liftBackSpec.post enc Try.prog Try.f8 false true false false) := by
  refine returnsInHanded_of_change (C := Try.checked) own started (by kernel_rfl) Try.func8
    (ChangeSpec.witness6 (enc := enc) (C := Try.checked) false ⟨#[], #[.int .i64 0, .int .i64 0], []⟩ 8 (by kernel_rfl) (by kernel_rfl) (by kernel_rfl) (by kernel_rfl)) ?_
  intro W base args ds gs before hval0 hW hcnd _
  have hval : ∀ (j : Nat) t v, Try.f8.params[j]? = some t → args[j]? = some v → Value.okWide Try.prog W .any base t v := hval0
  have hW' := hW
  obtain ⟨p, q, hA0, hV, rfl, hfz, hnd⟩ := hW
  have hA : DataW.TrodAll enc Try.prog W 0 (fun _ => true) true Try.f8.params.toList args.toList ds p := hA0
  rw [Try.params8] at hA hval
  obtain ⟨v0, vs0, d0, ds0, p0, q0, hargs, rfl, rfl, h0, r0⟩ := trodAll_cons hA
  obtain ⟨v1, vs1, d1, ds1, p1, q1, rfl, rfl, rfl, h1, r1⟩ := trodAll_cons r0
  obtain ⟨rfl, rfl, rfl⟩ := trodAll_nil r1
  obtain rfl : args = #[v0, v1] := by cases args; simp_all
  obtain ⟨rfl, rfl⟩ := trodVars_none hV
  obtain ⟨n1, rfl, rfl, rfl, wn1⟩ := open_int Try.underlying3 (hval 0 3 v0 rfl rfl) h0
  obtain ⟨n2, rfl, rfl, rfl, wn2⟩ := open_int Try.underlying3 (hval 1 3 v1 rfl rfl) h1
  refine (walk n1 n2 W).mono fun e W' ⟨he, hN⟩ => ?_
  subst he
  exact ⟨_, rfl, law_post laidOut (by kernel_rfl) (by kernel_rfl) Try.underlying4 rfl hW' rfl hN⟩

theorem holds : Rows.LiftBackSaid :=
  OpenClaim.holds_of_wide 8 Try.f8 rfl rfl rfl rfl rfl rfl rfl ⟨rfl, rfl, rfl, rfl, rfl⟩ rfl rfl rfl rfl rfl (by kernel_rfl) Try.func8 (by kernel_rfl)
    (of_decide_eq_true (by kernel_rfl)) (by unfold Func.isWrapper; first | (rw [if_pos (by decide +kernel)]; kernel_rfl) | (rw [if_neg (by decide +kernel)]; exact ⟨rfl, rfl⟩))
    (fun os started H enc _ => lifted os started H enc)

#print axioms holds
end Go.Proofs.Ytbljcgdehihlgaa.liftBack
