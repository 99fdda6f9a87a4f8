/- SignOther: by another sum, or another point, a signature is not right, unless these come to the same by the order. Conditions: none but what the card says of the tables. -/
import Derived.Test.YtpdhbddkcnffbaaDoorSgn5
import Derived.Test.YtpdhbddkcnffbaaDoorRowD
import Derived.Test.YtpdhbddkcnffbaaDoorRowH
namespace Go.Proofs.YtpdhbddkcnffbaaDoor.signOther
open Go.ChangeShapes Go.WideShapes Go.RowKit Go.Joins Go.Lib
set_option linter.unusedVariables false
open Go.Proofs.YtpdhbddkcnffbaaDoor
set_option maxRecDepth 100000
--nrm pt_all pt_x pt_y cv_all cv_p cv_a cv_b cv_n cv_g cv_gx pt_len cv_len rg_len ren_rl rl_all rl_m rl_len rl_nil pt_nil ptD_all ptD_nil ptD_len sg_all sg_r sg_s sg_len

/-- points of different numbers differ -/
theorem deqs_no {p b n : Nat} {T : Nat → P3} (E : Extra p b n T) (I : Inj n T) (hn : 2 < n) (hp : p < 1000) (i j : Nat) (hi : i % n ≠ 0) (hj : j % n ≠ 0) (hij : i % n ≠ j % n) : deqs (ptD (T i)) (ptD (T j)) = false := by
  have hM : 2000 < M256 := by decide
  have li : i % n < n := Nat.mod_lt _ (by omega)
  have lj : j % n < n := Nat.mod_lt _ (by omega)
  obtain ⟨x, y, e1, _, _, hy, hx⟩ := E.opp i (n - i % n) (by rw [← Nat.mod_add_mod, show i % n + (n - i % n) = n from by omega, Nat.mod_self]) hi
  obtain ⟨u, v, f1, _, _, hv, hu⟩ := E.opp j (n - j % n) (by rw [← Nat.mod_add_mod, show j % n + (n - j % n) = n from by omega, Nat.mod_self]) hj
  rw [← Bool.not_eq_true]
  intro h
  refine hij (I i j hi hj ?_)
  rw [e1, f1] at h ⊢
  have h4 : deqs (ud x ++ (ud y ++ [.bool false])) (ud u ++ (ud v ++ [.bool false])) = true := h
  have s1 := deqs_split 4 (ud x ++ (ud y ++ [.bool false])) (ud u ++ (ud v ++ [.bool false])) rfl
  rw [h4, eq_comm, Bool.and_eq_true] at s1
  have a1 : deqs (ud x) (ud u) = true := s1.1
  have s2 := deqs_split 4 (ud y ++ [.bool false]) (ud v ++ [.bool false]) rfl
  have h5 : deqs (ud y ++ [.bool false]) (ud v ++ [.bool false]) = true := s1.2
  rw [h5, eq_comm, Bool.and_eq_true] at s2
  have a2 : deqs (ud y) (ud v) = true := s2.1
  rw [deqs_ud _ _ (by omega) (by omega)] at a1 a2
  rw [of_decide_eq_true a1, of_decide_eq_true a2]

set_option maxHeartbeats 8000000 in
theorem pur (zn d' k a' b' k2 a2 b2 : Int) (sx sy : ByteArray) : Pur Tryd.prog 4 [.int .i64 zn, .int .i64 d', .agg [.int .i64 k, .int .i64 a', .int .i64 b', .str sx], .agg [.int .i64 k2, .int .i64 a2, .int .i64 b2, .str sy]] (.bool true) := by
  obtain ⟨kk, p, cb, n, gx, gy, T, hz, hk, G, hn, h1, hp, E, C, hp2, h30, ⟨hodd, I⟩, t1, t2, t12⟩ := grps4 zn
  have hM : 2000 < M256 := by decide
  have hc := Curve_ok zn kk p cb n gx gy hz hk
  have q0 := Int.emod_nonneg d' (show (n : Int) - 1 ≠ 0 by omega)
  have q1 := Int.emod_lt_of_pos d' (show (0 : Int) < n - 1 by omega)
  obtain ⟨d, ed⟩ : ∃ d : Nat, d' % ((n : Int) - 1) + 1 = d := ⟨_, (Int.toNat_of_nonneg (by omega)).symm⟩
  have hd0 : d ≠ 0 := by omega
  have hdn : d < n := by omega
  have hdm : d % n ≠ 0 := by rw [Nat.mod_eq_of_lt hdn]; exact hd0
  have se := Secret_ok G hn h1 d' d ed
  obtain ⟨z, hzl, su⟩ := sum_ok k a' b' sx
  obtain ⟨v, hvl, sv⟩ := sum_ok k2 a2 b2 sy
  obtain ⟨r, s, o, i, x, y, sig, mk⟩ := Make_ok G E hn hp hp2 h30 t1 t2 t12 d hd0 hdn z hzl
  have po := Point_ok G d hd0 hdn hn
  have st := s_tells
  have fz := From_ok z hzl
  have fv := From_ok v hvl
  have dz := p_div (nm z) n _ _ (nm_lt32 z hzl) (by omega) (by omega) rfl rfl
  have dv := p_div (nm v) n _ _ (nm_lt32 v hvl) (by omega) (by omega) rfl rfl
  have hzn : nm z % n < n := Nat.mod_lt _ (by omega)
  have hvn : nm v % n < n := Nat.mod_lt _ (by omega)
  -- what is told
  obtain ⟨jr, hjr, hj1, _⟩ := E.inv r sig.rn sig.r0
  have ej := eqm1 hj1
  obtain ⟨m, hm⟩ : ∃ m : Nat, d + jr * (nm z % n + (n - nm v % n)) = m := ⟨_, rfl⟩
  have hmE : GM.Eqm n ((r : Int) * m) ((r : Int) * d + (nm z % n : Nat) - (nm v % n : Nat)) := by
    rw [← hm]
    generalize nm z % n = za at *
    generalize nm v % n = va at *
    have e1 := ej.mul (GM.Eqm.refl ((za : Int) + (n - va)))
    refine GM.Eqm.trans (b := (r : Int) * d + (jr : Int) * r * ((za : Int) + (n - va))) ⟨0, by push_cast; rw [Int.ofNat_sub (by omega)]; grind⟩ ?_
    refine ((GM.Eqm.refl _).add e1).trans ⟨1, by grind⟩
  have RR := rec_sig G E hn hp sig v hvl hmE
  have hab : deqs (ud (nm z % n)) (ud (nm v % n)) = decide (nm z % n = nm v % n) := deqs_ud _ _ (by omega) (by omega)
  have hmd : m % n = d ↔ nm z % n = nm v % n := by
    constructor
    · intro h
      have e1 : GM.Eqm n (m : Int) d := by have := GM.Eqm.mod (p := n) m; rw [h] at this; exact this.symm
      have e2 := ((GM.Eqm.refl (r : Int)).mul e1).symm.trans hmE
      have e3 := e2.sub (GM.Eqm.refl ((r : Int) * d - (nm v % n : Nat)))
      refine (GM.Eqm.eq ?_ hvn hzn).symm
      exact GM.Eqm.trans ⟨0, by grind⟩ (e3.trans ⟨0, by grind⟩)
    · intro h
      rw [h] at hmE
      have e1 := (hmE.trans (⟨0, by grind⟩ : GM.Eqm n _ ((r : Int) * d))).mul (GM.Eqm.refl (jr : Int))
      have e2 := ej.mul (GM.Eqm.refl (m : Int))
      have e3 := ej.mul (GM.Eqm.refl (d : Int))
      have e4 : GM.Eqm n (m : Int) d := GM.Eqm.trans ⟨0, by grind⟩ (e2.symm.trans (GM.Eqm.trans ⟨0, by grind⟩ (e1.trans (GM.Eqm.trans ⟨0, by grind⟩ (e3.trans ⟨0, by grind⟩)))))
      have := GM.Eqm.to_mod (by omega) e4
      rw [this, Nat.mod_eq_of_lt hdn]
  have hfz3 := fz3 (cv p 0 cb n gx gy false) (sg r s (o : Int)) v rfl rfl
  have hcl3 := cl3 (cv p 0 cb n gx gy false) (sg r s (o : Int)) v rfl rfl
  have hfm := fzm (cv p 0 cb n gx gy false) (ud d) z rfl rfl
  have hcm := clm (cv p 0 cb n gx gy false) (ud d) z rfl rfl
  by_cases hm0 : m % n = 0
  · have R := RR.2 hm0
    have hne : nm z % n ≠ nm v % n := fun h => by have := hmd.2 h; omega
    rw [decide_eq_false hne] at hab
    have hnab : (!deqs (ud (nm z % n)) (ud (nm v % n))) = true := by rw [hab]; rfl
    generalize T d = q at *
    generalize nm z % n = za at *
    generalize nm v % n = va at *
    generalize nm z / n = zq at *
    generalize nm v / n = vq at *
    generalize nm z = zz at *
    generalize nm v = vv at *
    refine pur_intro Tryd.func4 rfl Tryd.ntmps4 rfl (by first | rfl | assumption | exact bs_cl _) fun B => ?_
    repeat (first | with_reducible refine W_seq ?_ | with_reducible refine q_then ?_ | with_reducible refine q_thenr ?_ | with_reducible refine q_thenx ?_ | with_reducible refine W_block ?_ | with_reducible refine q_block ?_ | with_reducible refine q_blockr ?_ | with_reducible refine q_blockx ?_ | with_reducible refine W_ret ?_ | with_reducible refine W_skip ?_ | with_reducible refine W_label ?_ | with_reducible refine W_exit ?_ | with_reducible refine W_scope ?_ | with_reducible refine q_scope ?_ | with_reducible refine q_scoper ?_ | with_reducible refine q_scopex ?_ | (with_reducible refine R_nil ?_; try dsimp only [slots0, slots_ud, pt_all, pt_x, pt_y, cv_all, cv_p, cv_a, cv_b, cv_n, cv_g, cv_gx, pt_len, cv_len, rg_len, ren_rl, rl_all, rl_m, rl_len, rl_nil, pt_nil, ptD_all, ptD_nil, ptD_len, sg_all, sg_r, sg_s, sg_len, cells_U, agg_ud, drop0, dropS, takeS, take0, ud_nil, take_ud, take_ud0, drop_ud, drop_ud0, take_udk, D.cells, D.fz, D.fzs, List.take_succ_cons, List.take_zero, List.drop_succ_cons, List.drop_zero, List.cons_append, List.nil_append, List.append_eq, List.length_cons, List.length_nil, Nat.reduceAdd, Nat.reduceMul, Nat.reduceSub, Int.reduceAdd, Int.reduceSub, Int.reduceToNat, Int.reduceNeg, Int.reduceMul]) | refine q_blocky rfl ?_ | refine W_plain rfl ?_ | refine W_drawn mixed rfl ?_ | refine and_chk (by kernel_rfl) ?_ | refine k_move rfl rfl ?_ | refine k_assign rfl rfl ?_ | refine k_load rfl rfl rfl rfl ?_ | refine k_alloc rfl ?_ | refine k_box rfl rfl rfl ?_ | refine k_store rfl rfl rfl rfl rfl rfl rfl ?_ | refine k_extract rfl rfl rfl ?_ | refine k_fieldAddr rfl rfl rfl ?_ | refine k_field rfl rfl rfl ?_ | refine k_build rfl rfl rfl ?_ | refine k_call rfl hc rfl rfl rfl rfl ?_ | refine k_call rfl se rfl rfl rfl rfl ?_ | refine k_call rfl po rfl rfl rfl rfl ?_ | refine k_call rfl su rfl rfl rfl (bs_cl _) ?_ | refine k_call rfl sv rfl rfl rfl (bs_cl _) ?_ | refine k_call rfl mk rfl hfm hcm rfl ?_ | refine k_call rfl fz rfl (b_fz1 _) (b_cl1 _) rfl ?_ | refine k_call rfl fv rfl (b_fz1 _) (b_cl1 _) rfl ?_ | refine k_call rfl dz rfl rfl rfl rfl ?_ | refine k_call rfl dv rfl rfl rfl rfl ?_ | refine k_call rfl R rfl hfz3 hcl3 rfl ?_ | refine k_call rfl st rfl rfl rfl rfl ?_ | refine k_eqa rfl rfl rfl rfl rfl hab ?_ | refine k_nea rfl rfl rfl rfl rfl hnab ?_ | refine k_buildSlice (cs := []) rfl rfl rfl rfl rfl rfl rfl ?_ | refine k_buildSlice rfl rfl rfl rfl rfl rfl rfl ?_ | refine k_indexAddr rfl rfl rfl ⟨by omega, by omega⟩ ?_ | refine k_indexAddrs rfl rfl rfl ⟨by omega, by omega⟩ rfl ?_ | refine k_index rfl rfl rfl ⟨by omega, by omega⟩ rfl ?_ | refine k_loade rfl rfl rfl ?_ | refine k_fieldAddre rfl rfl rfl rfl ?_ | refine k_len rfl rfl ?_ | refine k_nilCheck rfl rfl rfl ?_ | refine k_pickT rfl rfl rfl ?_ | refine k_pickF rfl rfl rfl ?_ | refine k_addi rfl rfl rfl (by omega) ?_ | refine k_subi rfl rfl rfl (by omega) ?_ | refine k_negi rfl rfl (by omega) ?_ | refine k_not rfl rfl rfl ?_ | refine k_lssT rfl rfl rfl (by omega) ?_ | refine k_lssF rfl rfl rfl (by omega) ?_ | refine k_leqT rfl rfl rfl (by omega) ?_ | refine k_leqF rfl rfl rfl (by omega) ?_ | refine k_gtrT rfl rfl rfl (by omega) ?_ | refine k_gtrF rfl rfl rfl (by omega) ?_ | refine k_geqT rfl rfl rfl (by omega) ?_ | refine k_geqF rfl rfl rfl (by omega) ?_ | refine k_eqlT rfl rfl rfl (by omega) ?_ | refine k_eqlF rfl rfl rfl (by omega) ?_ | refine k_neqT rfl rfl rfl (by omega) ?_ | refine k_neqF rfl rfl rfl (by omega) ?_ | refine k_eqa rfl rfl rfl rfl rfl rfl ?_ | refine k_nea rfl rfl rfl rfl rfl rfl ?_ | refine k_makeFunc rfl rfl rfl ?_ | refine k_skip rfl ?_ | refine k_skip0 rfl ?_ | refine k_pick rfl rfl rfl rfl rfl ?_ | refine W_yes rfl ?_ | refine W_no rfl ?_)
    (first | with_reducible refine q_endr ?_ | with_reducible refine q_endn ?_); refine rets1 Tryd.results4 (by first | exact RetV.tmp _ _ rfl | exact RetV.cell _ _ _ _ _ _ _ _ inferInstance rfl rfl rfl) ?_
    rfl
  · have R := RR.1 hm0
    by_cases heq : nm z % n = nm v % n
    · have hTm : T m = T d := by rw [← G.per m, hmd.2 heq]
      rw [hTm] at R
      rw [decide_eq_true heq] at hab
      have hnab : (!deqs (ud (nm z % n)) (ud (nm v % n))) = false := by rw [hab]; rfl
      have hdq := deqs_pt (T d)
      generalize T d = q at *
      clear heq hmd
      generalize nm z % n = za at *
      generalize nm v % n = va at *
      generalize nm z / n = zq at *
      generalize nm v / n = vq at *
      generalize nm z = zz at *
      generalize nm v = vv at *
      refine pur_intro Tryd.func4 rfl Tryd.ntmps4 rfl (by first | rfl | assumption | exact bs_cl _) fun B => ?_
      repeat (first | with_reducible refine W_seq ?_ | with_reducible refine q_then ?_ | with_reducible refine q_thenr ?_ | with_reducible refine q_thenx ?_ | with_reducible refine W_block ?_ | with_reducible refine q_block ?_ | with_reducible refine q_blockr ?_ | with_reducible refine q_blockx ?_ | with_reducible refine W_ret ?_ | with_reducible refine W_skip ?_ | with_reducible refine W_label ?_ | with_reducible refine W_exit ?_ | with_reducible refine W_scope ?_ | with_reducible refine q_scope ?_ | with_reducible refine q_scoper ?_ | with_reducible refine q_scopex ?_ | (with_reducible refine R_nil ?_; try dsimp only [slots0, slots_ud, pt_all, pt_x, pt_y, cv_all, cv_p, cv_a, cv_b, cv_n, cv_g, cv_gx, pt_len, cv_len, rg_len, ren_rl, rl_all, rl_m, rl_len, rl_nil, pt_nil, ptD_all, ptD_nil, ptD_len, sg_all, sg_r, sg_s, sg_len, cells_U, agg_ud, drop0, dropS, takeS, take0, ud_nil, take_ud, take_ud0, drop_ud, drop_ud0, take_udk, D.cells, D.fz, D.fzs, List.take_succ_cons, List.take_zero, List.drop_succ_cons, List.drop_zero, List.cons_append, List.nil_append, List.append_eq, List.length_cons, List.length_nil, Nat.reduceAdd, Nat.reduceMul, Nat.reduceSub, Int.reduceAdd, Int.reduceSub, Int.reduceToNat, Int.reduceNeg, Int.reduceMul]) | refine q_blocky rfl ?_ | refine W_plain rfl ?_ | refine W_drawn mixed rfl ?_ | refine and_chk (by kernel_rfl) ?_ | refine k_move rfl rfl ?_ | refine k_assign rfl rfl ?_ | refine k_load rfl rfl rfl rfl ?_ | refine k_alloc rfl ?_ | refine k_box rfl rfl rfl ?_ | refine k_store rfl rfl rfl rfl rfl rfl rfl ?_ | refine k_extract rfl rfl rfl ?_ | refine k_fieldAddr rfl rfl rfl ?_ | refine k_field rfl rfl rfl ?_ | refine k_build rfl rfl rfl ?_ | refine k_call rfl hc rfl rfl rfl rfl ?_ | refine k_call rfl se rfl rfl rfl rfl ?_ | refine k_call rfl po rfl rfl rfl rfl ?_ | refine k_call rfl su rfl rfl rfl (bs_cl _) ?_ | refine k_call rfl sv rfl rfl rfl (bs_cl _) ?_ | refine k_call rfl mk rfl hfm hcm rfl ?_ | refine k_call rfl fz rfl (b_fz1 _) (b_cl1 _) rfl ?_ | refine k_call rfl fv rfl (b_fz1 _) (b_cl1 _) rfl ?_ | refine k_call rfl dz rfl rfl rfl rfl ?_ | refine k_call rfl dv rfl rfl rfl rfl ?_ | refine k_call rfl R rfl hfz3 hcl3 rfl ?_ | refine k_call rfl st rfl rfl rfl rfl ?_ | refine k_eqa rfl rfl rfl rfl rfl hab ?_ | refine k_nea rfl rfl rfl rfl rfl hnab ?_ | refine k_eqa rfl rfl rfl rfl rfl hdq ?_ | refine k_buildSlice (cs := []) rfl rfl rfl rfl rfl rfl rfl ?_ | refine k_buildSlice rfl rfl rfl rfl rfl rfl rfl ?_ | refine k_indexAddr rfl rfl rfl ⟨by omega, by omega⟩ ?_ | refine k_indexAddrs rfl rfl rfl ⟨by omega, by omega⟩ rfl ?_ | refine k_index rfl rfl rfl ⟨by omega, by omega⟩ rfl ?_ | refine k_loade rfl rfl rfl ?_ | refine k_fieldAddre rfl rfl rfl rfl ?_ | refine k_len rfl rfl ?_ | refine k_nilCheck rfl rfl rfl ?_ | refine k_pickT rfl rfl rfl ?_ | refine k_pickF rfl rfl rfl ?_ | refine k_addi rfl rfl rfl (by omega) ?_ | refine k_subi rfl rfl rfl (by omega) ?_ | refine k_negi rfl rfl (by omega) ?_ | refine k_not rfl rfl rfl ?_ | refine k_lssT rfl rfl rfl (by omega) ?_ | refine k_lssF rfl rfl rfl (by omega) ?_ | refine k_leqT rfl rfl rfl (by omega) ?_ | refine k_leqF rfl rfl rfl (by omega) ?_ | refine k_gtrT rfl rfl rfl (by omega) ?_ | refine k_gtrF rfl rfl rfl (by omega) ?_ | refine k_geqT rfl rfl rfl (by omega) ?_ | refine k_geqF rfl rfl rfl (by omega) ?_ | refine k_eqlT rfl rfl rfl (by omega) ?_ | refine k_eqlF rfl rfl rfl (by omega) ?_ | refine k_neqT rfl rfl rfl (by omega) ?_ | refine k_neqF rfl rfl rfl (by omega) ?_ | refine k_eqa rfl rfl rfl rfl rfl rfl ?_ | refine k_nea rfl rfl rfl rfl rfl rfl ?_ | refine k_makeFunc rfl rfl rfl ?_ | refine k_skip rfl ?_ | refine k_skip0 rfl ?_ | refine k_pick rfl rfl rfl rfl rfl ?_ | refine W_yes rfl ?_ | refine W_no rfl ?_)
      (first | with_reducible refine q_endr ?_ | with_reducible refine q_endn ?_); refine rets1 Tryd.results4 (by first | exact RetV.tmp _ _ rfl | exact RetV.cell _ _ _ _ _ _ _ _ inferInstance rfl rfl rfl) ?_
      rfl
    · have hdq := deqs_no E I h1 hp m d hm0 hdm (by rw [Nat.mod_eq_of_lt hdn]; exact fun h => heq (hmd.1 h))
      have hnq : (!deqs (ptD (T m)) (ptD (T d))) = true := by rw [hdq]; rfl
      rw [decide_eq_false heq] at hab
      have hnab : (!deqs (ud (nm z % n)) (ud (nm v % n))) = true := by rw [hab]; rfl
      generalize T d = q at *
      generalize T m = q2 at *
      clear heq hmd
      generalize nm z % n = za at *
      generalize nm v % n = va at *
      generalize nm z / n = zq at *
      generalize nm v / n = vq at *
      generalize nm z = zz at *
      generalize nm v = vv at *
      refine pur_intro Tryd.func4 rfl Tryd.ntmps4 rfl (by first | rfl | assumption | exact bs_cl _) fun B => ?_
      repeat (first | with_reducible refine W_seq ?_ | with_reducible refine q_then ?_ | with_reducible refine q_thenr ?_ | with_reducible refine q_thenx ?_ | with_reducible refine W_block ?_ | with_reducible refine q_block ?_ | with_reducible refine q_blockr ?_ | with_reducible refine q_blockx ?_ | with_reducible refine W_ret ?_ | with_reducible refine W_skip ?_ | with_reducible refine W_label ?_ | with_reducible refine W_exit ?_ | with_reducible refine W_scope ?_ | with_reducible refine q_scope ?_ | with_reducible refine q_scoper ?_ | with_reducible refine q_scopex ?_ | (with_reducible refine R_nil ?_; try dsimp only [slots0, slots_ud, pt_all, pt_x, pt_y, cv_all, cv_p, cv_a, cv_b, cv_n, cv_g, cv_gx, pt_len, cv_len, rg_len, ren_rl, rl_all, rl_m, rl_len, rl_nil, pt_nil, ptD_all, ptD_nil, ptD_len, sg_all, sg_r, sg_s, sg_len, cells_U, agg_ud, drop0, dropS, takeS, take0, ud_nil, take_ud, take_ud0, drop_ud, drop_ud0, take_udk, D.cells, D.fz, D.fzs, List.take_succ_cons, List.take_zero, List.drop_succ_cons, List.drop_zero, List.cons_append, List.nil_append, List.append_eq, List.length_cons, List.length_nil, Nat.reduceAdd, Nat.reduceMul, Nat.reduceSub, Int.reduceAdd, Int.reduceSub, Int.reduceToNat, Int.reduceNeg, Int.reduceMul]) | refine q_blocky rfl ?_ | refine W_plain rfl ?_ | refine W_drawn mixed rfl ?_ | refine and_chk (by kernel_rfl) ?_ | refine k_move rfl rfl ?_ | refine k_assign rfl rfl ?_ | refine k_load rfl rfl rfl rfl ?_ | refine k_alloc rfl ?_ | refine k_box rfl rfl rfl ?_ | refine k_store rfl rfl rfl rfl rfl rfl rfl ?_ | refine k_extract rfl rfl rfl ?_ | refine k_fieldAddr rfl rfl rfl ?_ | refine k_field rfl rfl rfl ?_ | refine k_build rfl rfl rfl ?_ | refine k_call rfl hc rfl rfl rfl rfl ?_ | refine k_call rfl se rfl rfl rfl rfl ?_ | refine k_call rfl po rfl rfl rfl rfl ?_ | refine k_call rfl su rfl rfl rfl (bs_cl _) ?_ | refine k_call rfl sv rfl rfl rfl (bs_cl _) ?_ | refine k_call rfl mk rfl hfm hcm rfl ?_ | refine k_call rfl fz rfl (b_fz1 _) (b_cl1 _) rfl ?_ | refine k_call rfl fv rfl (b_fz1 _) (b_cl1 _) rfl ?_ | refine k_call rfl dz rfl rfl rfl rfl ?_ | refine k_call rfl dv rfl rfl rfl rfl ?_ | refine k_call rfl R rfl hfz3 hcl3 rfl ?_ | refine k_call rfl st rfl rfl rfl rfl ?_ | refine k_eqa rfl rfl rfl rfl rfl hab ?_ | refine k_nea rfl rfl rfl rfl rfl hnab ?_ | refine k_nea rfl rfl rfl rfl rfl hnq ?_ | refine k_buildSlice (cs := []) rfl rfl rfl rfl rfl rfl rfl ?_ | refine k_buildSlice rfl rfl rfl rfl rfl rfl rfl ?_ | refine k_indexAddr rfl rfl rfl ⟨by omega, by omega⟩ ?_ | refine k_indexAddrs rfl rfl rfl ⟨by omega, by omega⟩ rfl ?_ | refine k_index rfl rfl rfl ⟨by omega, by omega⟩ rfl ?_ | refine k_loade rfl rfl rfl ?_ | refine k_fieldAddre rfl rfl rfl rfl ?_ | refine k_len rfl rfl ?_ | refine k_nilCheck rfl rfl rfl ?_ | refine k_pickT rfl rfl rfl ?_ | refine k_pickF rfl rfl rfl ?_ | refine k_addi rfl rfl rfl (by omega) ?_ | refine k_subi rfl rfl rfl (by omega) ?_ | refine k_negi rfl rfl (by omega) ?_ | refine k_not rfl rfl rfl ?_ | refine k_lssT rfl rfl rfl (by omega) ?_ | refine k_lssF rfl rfl rfl (by omega) ?_ | refine k_leqT rfl rfl rfl (by omega) ?_ | refine k_leqF rfl rfl rfl (by omega) ?_ | refine k_gtrT rfl rfl rfl (by omega) ?_ | refine k_gtrF rfl rfl rfl (by omega) ?_ | refine k_geqT rfl rfl rfl (by omega) ?_ | refine k_geqF rfl rfl rfl (by omega) ?_ | refine k_eqlT rfl rfl rfl (by omega) ?_ | refine k_eqlF rfl rfl rfl (by omega) ?_ | refine k_neqT rfl rfl rfl (by omega) ?_ | refine k_neqF rfl rfl rfl (by omega) ?_ | refine k_eqa rfl rfl rfl rfl rfl rfl ?_ | refine k_nea rfl rfl rfl rfl rfl rfl ?_ | refine k_makeFunc rfl rfl rfl ?_ | refine k_skip rfl ?_ | refine k_skip0 rfl ?_ | refine k_pick rfl rfl rfl rfl rfl ?_ | refine W_yes rfl ?_ | refine W_no rfl ?_)
      (first | with_reducible refine q_endr ?_ | with_reducible refine q_endn ?_); refine rets1 Tryd.results4 (by first | exact RetV.tmp _ _ rfl | exact RetV.cell _ _ _ _ _ _ _ _ inferInstance rfl rfl rfl) ?_
      rfl

set_option maxHeartbeats 4000000 in
theorem walk (zn d k a' b' k2 a2 b2 : Int) (sx sy : ByteArray) (w : World) (hG : GTab w []) : Calls Tryd.prog 4 #[.int .i64 zn, .int .i64 d, .agg #[.int .i64 k, .int .i64 a', .int .i64 b', .string sx], .agg #[.int .i64 k2, .int .i64 a2, .int .i64 b2, .string sy]] w fun e w' => e = .returned (.bool true) ∧ New w w' :=
  calls_of_pur (vs := [.int .i64 zn, .int .i64 d, .agg #[.int .i64 k, .int .i64 a', .int .i64 b', .string sx], .agg #[.int .i64 k2, .int .i64 a2, .int .i64 b2, .string sy]]) rfl rfl rfl (pur zn d k a' b' k2 a2 b2 sx sy) w hG

set_option maxRecDepth 100000 in
theorem lifted (os : Os) (started : os.Started) (H : Type) (enc : TypeId × Value → H) :
    ReturnsInHanded {} Tryd.checked os 4 .any (fun w args => (Rows.signOtherSpec.pre enc Tryd.prog Tryd.f4 [] false w args ∧ laidMetH Tryd.prog laidL w) ∧ sizedMet enc Tryd.prog Tryd.f4 (OpenSpec.ofChange Rows.signOtherSpec) false w args) (Rows.signOtherSpec.post enc Tryd.prog Tryd.f4 false true false false) := by
  refine returnsInHanded_of_change_and (C := Tryd.checked) (X := fun w _ => laidMetH Tryd.prog laidL w) (fun _ _ _ hh h => h.of_heap hh) own started (by kernel_rfl) Tryd.func4
    (ChangeSpec.witness_shaped (enc := enc) (C := Tryd.checked) (os := os) (X := fun w _ => laidMetH Tryd.prog laidL w) false (World.doorLaid Tryd.prog 400 os) #[.int .i64 0, .int .i64 0, .agg #[.int .i64 0, .int .i64 0, .int .i64 0, .string ⟨#[]⟩], .agg #[.int .i64 0, .int .i64 0, .int .i64 0, .string ⟨#[]⟩]] 8 rfl (World.shaped_of_RefB (by kernel_rfl) (by kernel_rfl)) (by kernel_rfl) (by kernel_rfl) (by kernel_rfl) (door_met os _)) ?_
  intro W base args ds gs before hval0 hW _ _ hL _
  have hG := tabs_of hL
  have hval : ∀ (j : Nat) t v, Tryd.f4.params[j]? = some t → args[j]? = some v → Value.okWide Tryd.prog W .any base t v := hval0
  have hW' := hW
  obtain ⟨p, q, hA0, hV, rfl, hfz, hnd⟩ := hW
  have hA : DataW.TrodAll enc Tryd.prog W 0 (fun _ => true) true Tryd.f4.params.toList args.toList ds p := hA0
  rw [Tryd.params4] at hA hval
  obtain ⟨v0, vs0, d0, ds0, p0, q0, hargs, rfl, rfl, h0, r0⟩ := trodAll_cons hA
  obtain ⟨v1, vs1, d1, ds1, p1, q1, rfl, rfl, rfl, h1, r1⟩ := trodAll_cons r0
  obtain ⟨v2, vs2, d2, ds2, p2, q2, rfl, rfl, rfl, h2, r2⟩ := trodAll_cons r1
  obtain ⟨v3, vs3, d3, ds3, p3, q3, rfl, rfl, rfl, h3, r3⟩ := trodAll_cons r2
  obtain ⟨rfl, rfl, rfl⟩ := trodAll_nil r3
  obtain rfl : args = #[v0, v1, v2, v3] := by cases args; simp_all
  obtain ⟨rfl, rfl⟩ := trodVars_none hV
  obtain ⟨n1, rfl, rfl, rfl, wn1⟩ := open_int Tryd.underlying3 (hval 0 3 v0 rfl rfl) h0
  obtain ⟨n2, rfl, rfl, rfl, wn2⟩ := open_int Tryd.underlying3 (hval 1 3 v1 rfl rfl) h1
  obtain ⟨k3, a3, b3, s3, rfl, wk3, wa3, wb3, ws3⟩ := open_raw (hval 2 41 v2 rfl rfl) h2
  obtain ⟨k4, a4, b4, s4, rfl, wk4, wa4, wb4, ws4⟩ := open_raw (hval 3 41 v3 rfl rfl) h3
  refine (walk n1 n2 k3 a3 b3 k4 a4 b4 s3 s4 W hG).mono fun e W' ⟨he, hN⟩ => ?_
  subst he
  exact ⟨_, rfl, law_post laidOut (by kernel_rfl) (by kernel_rfl) Tryd.underlying4 rfl hW' rfl hN⟩

theorem holds : Rows.SignOtherSaid :=
  OpenClaim.holds_of_wide 4 Tryd.f4 rfl rfl rfl rfl rfl rfl rfl ⟨rfl, rfl, rfl, rfl, rfl⟩ rfl rfl rfl rfl rfl (by kernel_rfl) Tryd.func4 (by kernel_rfl)
    (of_decide_eq_true (by kernel_rfl)) (by unfold Func.isWrapper; first | (rw [if_pos (by decide +kernel)]; kernel_rfl) | (rw [if_neg (by decide +kernel)]; exact ⟨rfl, rfl⟩))
    (fun os started H enc _ => lifted os started H enc)

theorem card : Rows.SignOtherCardSaid :=
  Claim7.holds_tied_plain_at .later [] [.data, .data] true (true, "29af32c4023fc41b5f8275659b6b95ffe93a7825744bc9c4c95444fa2dc7017c") false
    holds (fun _ h => by cases h) (by kernel_rfl) (fun _ h => by cases h) signOther_row_tie rfl ⟨rfl, rfl⟩ (by kernel_rfl) rfl
    (fun f fn hf hfn => by
      obtain rfl : f = 4 := Option.some.inj ((show Tryd.prog.funcNamed "bascule/basculekeep.SignOther" = some 4 by kernel_rfl).symm.trans hf) |>.symm
      obtain rfl : fn = Tryd.f4 := (Option.some.inj (Tryd.func4.symm.trans hfn)).symm
      exact ⟨by kernel_rfl, fun j t ht => by
        rw [Tryd.params4] at ht
        have hall : (Tryd.f4.params.all fun u => !Tryd.prog.wantsStandIn u) = true := by kernel_rfl
        have hm := Array.mem_of_getElem? ht
        rw [Tryd.params4] at hall
        exact (show Tryd.prog.wantsStandIn t = false by simpa using Array.all_eq_true_iff_forall_mem.1 hall t hm)⟩)
    (by kernel_rfl)
#print axioms card
end Go.Proofs.YtpdhbddkcnffbaaDoor.signOther
