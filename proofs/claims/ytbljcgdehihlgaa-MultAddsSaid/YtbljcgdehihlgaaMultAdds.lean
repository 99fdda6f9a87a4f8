/- MultAdds: a point so often and so often is the point so often as both say; by numbers taken so often, too. No conditions. -/
import Derived.Test.YtbljcgdehihlgaaGrpX
import Derived.Test.YtbljcgdehihlgaaRow
namespace Go.Proofs.Ytbljcgdehihlgaa.multAdds
open Go.ChangeShapes Go.WideShapes Go.RowKit Go.Joins
set_option linter.unusedVariables false
open Go.Proofs.Ytbljcgdehihlgaa
set_option maxRecDepth 100000
--nrm pt_all pt_x pt_y cv_all cv_p cv_a cv_b cv_n cv_g cv_gx pt_len cv_len rg_len ren_rl rl_all rl_m rl_len rl_nil pt_nil ptD_all ptD_nil ptD_len


theorem p_number (k a b : Int) (s : ByteArray) (x : Nat) (hx : num k a b = x) : Pur Try.prog 20 [.agg [.int .i64 k, .int .i64 a, .int .i64 b, .str s]] (U x) :=
  pur_of_calls (vs := [.agg #[.int .i64 k, .int .i64 a, .int .i64 b, .string s]]) rfl rfl rfl (hx ▸ number_any k a b s)

set_option maxHeartbeats 8000000 in
theorem pur (z i k1 a1 b1 k2 a2 b2 : Int) (s1 s2 : ByteArray) : Pur Try.prog 7 [.int .i64 z, .int .i64 i, .agg [.int .i64 k1, .int .i64 a1, .int .i64 b1, .str s1], .agg [.int .i64 k2, .int .i64 a2, .int .i64 b2, .str s2]] (.bool true) := by
  obtain ⟨kk, p, b, n, gx, gy, T, hz, hk, G, hn, h1, hp, E⟩ := grps2 z
  have hc := Curve_ok z kk p b n gx gy hz hk
  obtain ⟨q, ea⟩ : ∃ a : Nat, i % (n : Int) = a := ⟨(i % n).toNat, by have := Int.emod_nonneg i (show (n : Int) ≠ 0 by omega); omega⟩
  have p1 := point_ok G hn h1 i q ea
  obtain ⟨X, eX⟩ : ∃ x, num k1 a1 b1 = x := ⟨_, rfl⟩
  obtain ⟨Y, eY⟩ : ∃ x, num k2 a2 b2 = x := ⟨_, rfl⟩
  have hX : X < M256 := by rw [← eX]; exact num_lt _ _ _
  have hY : Y < M256 := by rw [← eY]; exact num_lt _ _ _
  have n1 := p_number k1 a1 b1 s1 X eX
  have n2 := p_number k2 a2 b2 s2 Y eY
  have hnM : n < M256 := by unfold M256; omega
  have hn0 : 0 < n := by omega
  have d1 := p_div X n _ (X % n) hX hnM hn0 rfl rfl
  have d2 := p_div Y n _ (Y % n) hY hnM hn0 rfl rfl
  have lX := Nat.mod_lt X hn0
  have lY := Nat.mod_lt Y hn0
  obtain ⟨A, eA⟩ : ∃ a, X % n = a := ⟨_, rfl⟩
  obtain ⟨C, eC⟩ : ∃ a, Y % n = a := ⟨_, rfl⟩
  rw [eA] at d1 lX
  rw [eC] at d2 lY
  have m1 := Mult_T G X q (X * q) hX rfl
  have m2 := Mult_T G C q (C * q) (by omega) rfl
  have per : ∀ u v, u % n = v % n → T u = T v := fun u v h => by rw [← G.per u, h, G.per v]
  have ad := Add_T G (X * q) (C * q) (A * q + C * q) (per _ _ (by rw [Nat.add_mod, Nat.mul_mod X, eA, ← Nat.mod_eq_of_lt lX, ← Nat.mul_mod, Nat.mod_eq_of_lt lX, ← Nat.add_mod]))
  have fa := p_fadd A C n _ hnM lX lY rfl
  have m3 := Mult_T G ((A + C) % n) q (A * q + C * q) (Nat.lt_trans (Nat.mod_lt _ hn0) hnM) (per _ _ (by rw [Nat.mul_mod, Nat.mod_mod, ← Nat.mul_mod, Nat.add_mul]))
  have fm := p_fmul A C n _ hnM lX lY rfl
  have m4 := Mult_T G (A * C % n) q (A * (C * q)) (Nat.lt_trans (Nat.mod_lt _ hn0) hnM) (per _ _ (by rw [Nat.mul_mod, Nat.mod_mod, ← Nat.mul_mod, Nat.mul_assoc]))
  have m5 := Mult_T G A (C * q) (A * (C * q)) (by omega) rfl
  refine pur_intro Try.func7 rfl Try.ntmps7 rfl rfl fun B => ?_
  repeat (first | with_reducible refine W_seq ?_ | with_reducible refine q_then ?_ | with_reducible refine q_thenr ?_ | with_reducible refine q_thenx ?_ | with_reducible refine W_block ?_ | with_reducible refine q_block ?_ | with_reducible refine q_blockr ?_ | with_reducible refine q_blockx ?_ | with_reducible refine W_ret ?_ | with_reducible refine W_skip ?_ | with_reducible refine W_label ?_ | with_reducible refine W_exit ?_ | (with_reducible refine R_nil ?_; try dsimp only [slots0, slots_ud, pt_all, pt_x, pt_y, cv_all, cv_p, cv_a, cv_b, cv_n, cv_g, cv_gx, pt_len, cv_len, rg_len, ren_rl, rl_all, rl_m, rl_len, rl_nil, pt_nil, ptD_all, ptD_nil, ptD_len, cells_U, agg_ud, drop0, dropS, takeS, take0, ud_nil, take_ud, take_ud0, drop_ud, drop_ud0, take_udk, D.cells, D.fz, D.fzs, List.take_succ_cons, List.take_zero, List.drop_succ_cons, List.drop_zero, List.cons_append, List.nil_append, List.append_eq, List.length_cons, List.length_nil, Nat.reduceAdd, Nat.reduceMul, Nat.reduceSub, Int.reduceAdd, Int.reduceSub, Int.reduceToNat, Int.reduceNeg, Int.reduceMul]) | refine q_blocky rfl ?_ | refine W_plain rfl ?_ | refine W_drawn mixed rfl ?_ | refine and_chk (by kernel_rfl) ?_ | refine k_call rfl hc rfl rfl rfl rfl ?_ | refine k_call rfl p1 rfl rfl rfl rfl ?_ | refine k_call rfl n1 rfl rfl rfl rfl ?_ | refine k_call rfl n2 rfl rfl rfl rfl ?_ | refine k_call rfl d1 rfl rfl rfl rfl ?_ | refine k_call rfl d2 rfl rfl rfl rfl ?_ | refine k_call rfl fa rfl rfl rfl rfl ?_ | refine k_call rfl fm rfl rfl rfl rfl ?_ | refine k_call rfl m1 rfl rfl rfl rfl ?_ | refine k_call rfl m2 rfl rfl rfl rfl ?_ | refine k_call rfl m3 rfl rfl rfl rfl ?_ | refine k_call rfl m4 rfl rfl rfl rfl ?_ | refine k_call rfl m5 rfl rfl rfl rfl ?_ | refine k_call rfl ad rfl rfl rfl rfl ?_ | refine k_call rfl tells rfl rfl rfl rfl ?_ | refine k_eqa rfl rfl rfl rfl rfl (deqs_pt _) ?_ | refine k_move rfl rfl ?_ | refine k_assign rfl rfl ?_ | refine k_load rfl rfl rfl rfl ?_ | refine k_alloc rfl ?_ | refine k_box rfl rfl rfl ?_ | refine k_store rfl rfl rfl rfl rfl rfl rfl ?_ | refine k_extract rfl rfl rfl ?_ | refine k_fieldAddr rfl rfl rfl ?_ | refine k_field rfl rfl rfl ?_ | refine k_build rfl rfl rfl ?_ | refine k_buildSlice rfl rfl rfl rfl ?_ | refine k_indexAddr rfl rfl rfl ⟨by omega, by omega⟩ ?_ | refine k_indexAddrs rfl rfl rfl ⟨by omega, by omega⟩ rfl ?_ | refine k_index rfl rfl rfl ⟨by omega, by omega⟩ rfl ?_ | refine k_loade rfl rfl rfl ?_ | refine k_fieldAddre rfl rfl rfl rfl ?_ | refine k_len rfl rfl ?_ | refine k_nilCheck rfl rfl rfl ?_ | refine k_pickT rfl rfl rfl ?_ | refine k_pickF rfl rfl rfl ?_ | refine k_addi rfl rfl rfl (by omega) ?_ | refine k_subi rfl rfl rfl (by omega) ?_ | refine k_negi rfl rfl (by omega) ?_ | refine k_not rfl rfl rfl ?_ | refine k_lssT rfl rfl rfl (by omega) ?_ | refine k_lssF rfl rfl rfl (by omega) ?_ | refine k_leqT rfl rfl rfl (by omega) ?_ | refine k_leqF rfl rfl rfl (by omega) ?_ | refine k_gtrT rfl rfl rfl (by omega) ?_ | refine k_gtrF rfl rfl rfl (by omega) ?_ | refine k_geqT rfl rfl rfl (by omega) ?_ | refine k_geqF rfl rfl rfl (by omega) ?_ | refine k_eqlT rfl rfl rfl (by omega) ?_ | refine k_eqlF rfl rfl rfl (by omega) ?_ | refine k_neqT rfl rfl rfl (by omega) ?_ | refine k_neqF rfl rfl rfl (by omega) ?_ | refine k_eqa rfl rfl rfl rfl rfl rfl ?_ | refine k_nea rfl rfl rfl rfl rfl rfl ?_ | refine k_makeFunc rfl rfl rfl ?_ | refine k_skip rfl ?_ | refine k_skip0 rfl ?_ | refine k_pick rfl rfl rfl rfl rfl ?_ | refine W_yes rfl ?_ | refine W_no rfl ?_)
  (first | with_reducible refine q_endr ?_ | with_reducible refine q_endn ?_); refine rets1 Try.results7 (by first | exact RetV.tmp _ _ rfl | exact RetV.cell _ _ _ _ _ _ _ _ inferInstance rfl rfl rfl) ?_
  rfl

theorem walk (z i k1 a1 b1 k2 a2 b2 : Int) (s1 s2 : ByteArray) (w : World) : Calls Try.prog 7 #[.int .i64 z, .int .i64 i, .agg (raw k1 a1 b1 s1), .agg (raw k2 a2 b2 s2)] w fun e w' => e = .returned (.bool true) ∧ New w w' :=
  calls_of_pur (vs := [.int .i64 z, .int .i64 i, .agg #[.int .i64 k1, .int .i64 a1, .int .i64 b1, .string s1], .agg #[.int .i64 k2, .int .i64 a2, .int .i64 b2, .string s2]]) rfl rfl rfl (pur z i k1 a1 b1 k2 a2 b2 s1 s2) w

set_option maxRecDepth 100000 in
theorem lifted (os : Os) (started : os.Started) (H : Type) (enc : TypeId × Value → H) :
    ReturnsInHanded {} Try.checked os 7 .any (Rows.multAddsSpec.pre6 enc Try.prog Try.f7 Rows.multAddsRow.domain false) (Rows.multAddsSpec.post enc Try.prog Try.f7 false true false false) := by
  refine returnsInHanded_of_change (C := Try.checked) own started (by kernel_rfl) Try.func7
    (ChangeSpec.witness6 (enc := enc) (C := Try.checked) false ⟨#[], #[.int .i64 0, .int .i64 0, .agg #[.int .i64 0, .int .i64 0, .int .i64 0, .string ⟨#[]⟩], .agg #[.int .i64 0, .int .i64 0, .int .i64 0, .string ⟨#[]⟩]], []⟩ 8 (by kernel_rfl) (by kernel_rfl) (by kernel_rfl) (by kernel_rfl)) ?_
  intro W base args ds gs before hval0 hW hcnd _
  have hval : ∀ (j : Nat) t v, Try.f7.params[j]? = some t → args[j]? = some v → Value.okWide Try.prog W .any base t v := hval0
  have hW' := hW
  obtain ⟨p, q, hA0, hV, rfl, hfz, hnd⟩ := hW
  have hA : DataW.TrodAll enc Try.prog W 0 (fun _ => true) true Try.f7.params.toList args.toList ds p := hA0
  rw [Try.params7] at hA hval
  obtain ⟨v0, vs0, d0, ds0, p0, q0, hargs, rfl, rfl, h0, r0⟩ := trodAll_cons hA
  obtain ⟨v1, vs1, d1, ds1, p1, q1, rfl, rfl, rfl, h1, r1⟩ := trodAll_cons r0
  obtain ⟨v2, vs2, d2, ds2, p2, q2, rfl, rfl, rfl, h2, r2⟩ := trodAll_cons r1
  obtain ⟨v3, vs3, d3, ds3, p3, q3, rfl, rfl, rfl, h3, r3⟩ := trodAll_cons r2
  obtain ⟨rfl, rfl, rfl⟩ := trodAll_nil r3
  obtain rfl : args = #[v0, v1, v2, v3] := by cases args; simp_all
  obtain ⟨rfl, rfl⟩ := trodVars_none hV
  obtain ⟨n1, rfl, rfl, rfl, wn1⟩ := open_int Try.underlying3 (hval 0 3 v0 rfl rfl) h0
  obtain ⟨n2, rfl, rfl, rfl, wn2⟩ := open_int Try.underlying3 (hval 1 3 v1 rfl rfl) h1
  obtain ⟨k3, a3, b3, s3, rfl, wk3, wa3, wb3, ws3⟩ := open_raw (hval 2 48 v2 rfl rfl) h2
  obtain ⟨k4, a4, b4, s4, rfl, wk4, wa4, wb4, ws4⟩ := open_raw (hval 3 48 v3 rfl rfl) h3
  refine (walk n1 n2 k3 a3 b3 k4 a4 b4 s3 s4 W).mono fun e W' ⟨he, hN⟩ => ?_
  subst he
  exact ⟨_, rfl, law_post laidOut (by kernel_rfl) (by kernel_rfl) Try.underlying4 rfl hW' rfl hN⟩

theorem holds : Rows.MultAddsSaid :=
  OpenClaim.holds_of_wide 7 Try.f7 rfl rfl rfl rfl rfl rfl rfl ⟨rfl, rfl, rfl, rfl, rfl⟩ rfl rfl rfl rfl rfl (by kernel_rfl) Try.func7 (by kernel_rfl)
    (of_decide_eq_true (by kernel_rfl)) (by unfold Func.isWrapper; first | (rw [if_pos (by decide +kernel)]; kernel_rfl) | (rw [if_neg (by decide +kernel)]; exact ⟨rfl, rfl⟩))
    (fun os started H enc _ => lifted os started H enc)

#print axioms holds
end Go.Proofs.Ytbljcgdehihlgaa.multAdds
