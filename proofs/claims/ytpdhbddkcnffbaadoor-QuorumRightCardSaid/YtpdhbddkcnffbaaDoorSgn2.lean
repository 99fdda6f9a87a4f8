/- Recover tells a point by which the signature is right, or says that the signature is none. Conditions: a small curve; its points' table; the signature's numbers below the order. -/
import Derived.Test.YtpdhbddkcnffbaaDoorSgn1
import Derived.Test.YtpdhbddkcnffbaaDoorWord
namespace Go.Proofs.YtpdhbddkcnffbaaDoor
open Go.RowKit
set_option linter.unusedVariables false
set_option maxRecDepth 100000
--nrm pt_all pt_x pt_y cv_all cv_p cv_a cv_b cv_n cv_g cv_gx pt_len cv_len rg_len ren_rl rl_all rl_m rl_len rl_nil pt_nil ptD_all ptD_nil ptD_len sg_all sg_r sg_s sg_len

theorem T_eqm {p b n gx gy : Nat} {T : Nat → P3} (G : Grp p b n gx gy T) {i j : Nat} (h : GM.Eqm n i j) : T i = T j := by
  rw [← G.per i, ← G.per j, GM.Eqm.to_mod (by have := G.good.h1; omega) h]
theorem base_D {p b n gx gy : Nat} {T : Nat → P3} (G : Grp p b n gx gy T) : pt gx gy false = ptD (T 1) := by rw [G.t1]; rfl
/-- the check's sum is the point of the nonce -/
theorem check_eq {n z r s i iv jv u v u' v' : Nat} (hi : GM.Eqm n ((iv : Int) * r) 1) (hj : GM.Eqm n ((jv : Int) * s) 1) (hu : GM.Eqm n u ((s : Int) * iv)) (hv : GM.Eqm n v (0 - (z : Int) * iv)) (hu' : GM.Eqm n u' ((z : Int) * jv)) (hv' : GM.Eqm n v' ((r : Int) * jv)) :
    GM.Eqm n ((u' * 1 + v' * (u * i + v * 1) : Nat) : Int) i := by
  have e1 := (hu.mul (GM.Eqm.refl (i : Int))).add hv
  have e2 := hu'.add (hv'.mul e1)
  have e3 := (hi.mul hj).mul (GM.Eqm.refl (i : Int))
  have e4 := (hi.mul (GM.Eqm.refl ((z : Int) * jv)))
  have e5 := (e2.add (e4.sub (GM.Eqm.refl _ : GM.Eqm n ((z : Int) * jv) ((z : Int) * jv))))
  refine GM.Eqm.trans (b := (z : Int) * jv + (r : Int) * jv * ((s : Int) * iv * i + (0 - (z : Int) * iv)) ) ?_ ?_
  · rw [show ((u' * 1 + v' * (u * i + v * 1) : Nat) : Int) = (u' : Int) + (v' : Int) * ((u : Int) * i + v) from by push_cast; grind]
    exact e2
  · have e6 := e3.sub (e4.sub (GM.Eqm.refl ((z : Int) * jv)))
    refine GM.Eqm.trans (b := (iv : Int) * r * ((jv : Int) * s) * i - ((iv : Int) * r * ((z : Int) * jv) - (z : Int) * jv)) ?_ ?_
    · exact ⟨0, by grind⟩
    · exact e6.trans ⟨0, by grind⟩

section
variable {p b n gx gy : Nat} {T : Nat → P3}

theorem rec_form (G : Grp p b n gx gy T) (l : List UInt8) (r s : Nat) (o : Int) (hf : Pur Tryd.prog 41 [.agg (cv p 0 b n gx gy false), .agg (sg r s o)] (.bool false)) : Pur Tryd.prog 19 [.agg (cv p 0 b n gx gy false), .agg (bs l), .agg (sg r s o)] (.tup [.agg (pt 0 0 false), .int .i64 10]) := by
  refine pur_intro Tryd.func19 rfl Tryd.ntmps19 rfl (by first | rfl | assumption | exact bs_cl _) fun B => ?_
  repeat (first | with_reducible (first | refine W_seq ?_ | refine q_then ?_ | refine q_thenr ?_ | refine q_thenx ?_ | refine W_block ?_ | refine q_block ?_ | refine q_blockr ?_ | refine q_blockx ?_ | refine W_ret ?_ | refine W_skip ?_ | refine W_label ?_ | refine W_exit ?_ | refine W_scope ?_ | refine q_scope ?_ | refine q_scoper ?_ | refine q_scopex ?_) | (with_reducible refine R_nil ?_; try dsimp only [slots0, slots_ud, pt_all, pt_x, pt_y, cv_all, cv_p, cv_a, cv_b, cv_n, cv_g, cv_gx, pt_len, cv_len, rg_len, ren_rl, rl_all, rl_m, rl_len, rl_nil, pt_nil, ptD_all, ptD_nil, ptD_len, sg_all, sg_r, sg_s, sg_len, cells_U, agg_ud, drop0, dropS, takeS, take0, ud_nil, take_ud, take_ud0, drop_ud, drop_ud0, take_udk, D.cells, D.fz, D.fzs, List.take_succ_cons, List.take_zero, List.drop_succ_cons, List.drop_zero, List.cons_append, List.nil_append, List.append_eq, List.length_cons, List.length_nil, Nat.reduceAdd, Nat.reduceMul, Nat.reduceSub, Int.reduceAdd, Int.reduceSub, Int.reduceToNat, Int.reduceNeg, Int.reduceMul]) | refine q_blocky rfl ?_ | refine W_plain rfl ?_ | refine W_drawn mixed rfl ?_ | refine and_chk (by kernel_rfl) ?_ | refine k_move rfl rfl ?_ | refine k_assign rfl rfl ?_ | refine k_load rfl rfl rfl rfl ?_ | refine k_alloc rfl ?_ | refine k_box rfl rfl rfl ?_ | refine k_store rfl rfl rfl rfl rfl rfl rfl ?_ | refine k_extract rfl rfl rfl ?_ | refine k_fieldAddr rfl rfl rfl ?_ | refine k_build rfl rfl rfl ?_ | refine k_call rfl (Check_ok G.good) rfl rfl rfl rfl ?_ | refine k_call rfl hf rfl rfl rfl rfl ?_ | refine k_loade rfl rfl rfl ?_ | refine k_fieldAddre rfl rfl rfl rfl ?_ | refine k_pickT rfl rfl rfl ?_ | refine k_pickF rfl rfl rfl ?_ | refine k_not rfl rfl rfl ?_ | refine k_geqT rfl rfl rfl (by omega) ?_ | refine k_geqF rfl rfl rfl (by omega) ?_ | refine k_eqlT rfl rfl rfl (by omega) ?_ | refine k_eqlF rfl rfl rfl (by omega) ?_ | refine k_neqT rfl rfl rfl (by omega) ?_ | refine k_neqF rfl rfl rfl (by omega) ?_ | refine k_eqa rfl rfl rfl rfl rfl rfl ?_ | refine k_nea rfl rfl rfl rfl rfl rfl ?_ | refine k_skip rfl ?_ | refine k_skip0 rfl ?_ | refine k_pick rfl rfl rfl rfl rfl ?_ | refine W_yes rfl ?_ | refine W_no rfl ?_)
  (first | with_reducible refine q_endr ?_ | with_reducible refine q_endn ?_); refine rets2 Tryd.results19 (by first | exact RetV.tmp _ _ rfl | exact RetV.cell _ _ _ _ _ _ _ _ inferInstance rfl rfl rfl) (by first | exact RetV.tmp _ _ rfl | exact RetV.cell _ _ _ _ _ _ _ _ inferInstance rfl rfl rfl) ?_ ?_
  · rfl
  · rfl
set_option maxHeartbeats 4000000 in
theorem rec_big (G : Grp p b n gx gy T) (hn : n < 1000) (l : List UInt8) (r s x : Nat) (hr : r < n) (o : Int) (ov : Bool) (hov : decide (o ≥ 2) = ov) (hx : cond ov (r + n) r = x) (hxp : p ≤ x) (hp : p < 1000) (hf : Pur Tryd.prog 41 [.agg (cv p 0 b n gx gy false), .agg (sg r s o)] (.bool true)) : Pur Tryd.prog 19 [.agg (cv p 0 b n gx gy false), .agg (bs l), .agg (sg r s o)] (.tup [.agg (pt 0 0 false), .int .i64 10]) := by
  have hM : 2000 < M256 := by decide
  have hc : ∃ c, cmpI x p = c ∧ decide (c ≥ 0) = true := by
    rcases Nat.lt_or_ge p x with h | h
    · exact ⟨1, cmp_p1 h, by decide⟩
    · exact ⟨0, cmp_00 (by omega), by decide⟩
  obtain ⟨c, hc, hc0⟩ := hc
  have hxM : x < M256 := by revert hx; cases ov <;> simp <;> omega
  have wc := p_cmp x p c hxM (by omega) hc
  have wa := p_wadd r n (r + n) false (by omega) (by omega) (Nat.mod_eq_of_lt (by omega)) (by simp; omega)
  cases ov
  all_goals
    simp only [cond_false, cond_true] at hx
    subst hx
    refine pur_intro Tryd.func19 rfl Tryd.ntmps19 rfl (by first | rfl | assumption | exact bs_cl _) fun B => ?_
    repeat (first | with_reducible (first | refine W_seq ?_ | refine q_then ?_ | refine q_thenr ?_ | refine q_thenx ?_ | refine W_block ?_ | refine q_block ?_ | refine q_blockr ?_ | refine q_blockx ?_ | refine W_ret ?_ | refine W_skip ?_ | refine W_label ?_ | refine W_exit ?_ | refine W_scope ?_ | refine q_scope ?_ | refine q_scoper ?_ | refine q_scopex ?_) | (with_reducible refine R_nil ?_; try dsimp only [slots0, slots_ud, pt_all, pt_x, pt_y, cv_all, cv_p, cv_a, cv_b, cv_n, cv_g, cv_gx, pt_len, cv_len, rg_len, ren_rl, rl_all, rl_m, rl_len, rl_nil, pt_nil, ptD_all, ptD_nil, ptD_len, sg_all, sg_r, sg_s, sg_len, cells_U, agg_ud, drop0, dropS, takeS, take0, ud_nil, take_ud, take_ud0, drop_ud, drop_ud0, take_udk, D.cells, D.fz, D.fzs, List.take_succ_cons, List.take_zero, List.drop_succ_cons, List.drop_zero, List.cons_append, List.nil_append, List.append_eq, List.length_cons, List.length_nil, Nat.reduceAdd, Nat.reduceMul, Nat.reduceSub, Int.reduceAdd, Int.reduceSub, Int.reduceToNat, Int.reduceNeg, Int.reduceMul]) | refine q_blocky rfl ?_ | refine W_plain rfl ?_ | refine W_drawn mixed rfl ?_ | refine and_chk (by kernel_rfl) ?_ | refine k_move rfl rfl ?_ | refine k_assign rfl rfl ?_ | refine k_load rfl rfl rfl rfl ?_ | refine k_alloc rfl ?_ | refine k_box rfl rfl rfl ?_ | refine k_store rfl rfl rfl rfl rfl rfl rfl ?_ | refine k_extract rfl rfl rfl ?_ | refine k_fieldAddr rfl rfl rfl ?_ | refine k_build rfl rfl rfl ?_ | refine k_call rfl (Check_ok G.good) rfl rfl rfl rfl ?_ | refine k_call rfl hf rfl rfl rfl rfl ?_ | refine k_geq rfl rfl rfl hov ?_ | refine k_call rfl wa rfl rfl rfl rfl ?_ | refine k_call rfl wc rfl rfl rfl rfl ?_ | refine k_geq rfl rfl rfl hc0 ?_ | refine k_loade rfl rfl rfl ?_ | refine k_fieldAddre rfl rfl rfl rfl ?_ | refine k_pickT rfl rfl rfl ?_ | refine k_pickF rfl rfl rfl ?_ | refine k_not rfl rfl rfl ?_ | refine k_geqT rfl rfl rfl (by omega) ?_ | refine k_geqF rfl rfl rfl (by omega) ?_ | refine k_eqlT rfl rfl rfl (by omega) ?_ | refine k_eqlF rfl rfl rfl (by omega) ?_ | refine k_neqT rfl rfl rfl (by omega) ?_ | refine k_neqF rfl rfl rfl (by omega) ?_ | refine k_eqa rfl rfl rfl rfl rfl rfl ?_ | refine k_nea rfl rfl rfl rfl rfl rfl ?_ | refine k_skip rfl ?_ | refine k_skip0 rfl ?_ | refine k_pick rfl rfl rfl rfl rfl ?_ | refine W_yes rfl ?_ | refine W_no rfl ?_)
    (first | with_reducible refine q_endr ?_ | with_reducible refine q_endn ?_); refine rets2 Tryd.results19 (by first | exact RetV.tmp _ _ rfl | exact RetV.cell _ _ _ _ _ _ _ _ inferInstance rfl rfl rfl) (by first | exact RetV.tmp _ _ rfl | exact RetV.cell _ _ _ _ _ _ _ _ inferInstance rfl rfl rfl) ?_ ?_
    · rfl
    · rfl
set_option maxHeartbeats 4000000 in
theorem rec_lift (G : Grp p b n gx gy T) (hn : n < 1000) (l : List UInt8) (r s x : Nat) (hr : r < n) (o e : Int) (ov odd : Bool) (hov : decide (o ≥ 2) = ov) (hx : cond ov (r + n) r = x) (hxp : x < p) (hp : p < 1000) (he : o.tmod 2 = e) (hod : decide (e = 1) = odd) (hf : Pur Tryd.prog 41 [.agg (cv p 0 b n gx gy false), .agg (sg r s o)] (.bool true))
    (hl : Pur Tryd.prog 42 [.agg (cv p 0 b n gx gy false), U x, .bool odd] (.tup [.agg (pt 0 0 false), .int .i64 16])) : Pur Tryd.prog 19 [.agg (cv p 0 b n gx gy false), .agg (bs l), .agg (sg r s o)] (.tup [.agg (pt 0 0 false), .int .i64 10]) := by
  have hM : 2000 < M256 := by decide
  have wc := p_cmp x p (-1) (by omega) (by omega) (cmp_m1 hxp)
  have wa := p_wadd r n (r + n) false (by omega) (by omega) (Nat.mod_eq_of_lt (by omega)) (by simp; omega)
  cases ov
  all_goals
    simp only [cond_false, cond_true] at hx
    subst hx
    refine pur_intro Tryd.func19 rfl Tryd.ntmps19 rfl (by first | rfl | assumption | exact bs_cl _) fun B => ?_
    repeat (first | with_reducible (first | refine W_seq ?_ | refine q_then ?_ | refine q_thenr ?_ | refine q_thenx ?_ | refine W_block ?_ | refine q_block ?_ | refine q_blockr ?_ | refine q_blockx ?_ | refine W_ret ?_ | refine W_skip ?_ | refine W_label ?_ | refine W_exit ?_ | refine W_scope ?_ | refine q_scope ?_ | refine q_scoper ?_ | refine q_scopex ?_) | (with_reducible refine R_nil ?_; try dsimp only [slots0, slots_ud, pt_all, pt_x, pt_y, cv_all, cv_p, cv_a, cv_b, cv_n, cv_g, cv_gx, pt_len, cv_len, rg_len, ren_rl, rl_all, rl_m, rl_len, rl_nil, pt_nil, ptD_all, ptD_nil, ptD_len, sg_all, sg_r, sg_s, sg_len, cells_U, agg_ud, drop0, dropS, takeS, take0, ud_nil, take_ud, take_ud0, drop_ud, drop_ud0, take_udk, D.cells, D.fz, D.fzs, List.take_succ_cons, List.take_zero, List.drop_succ_cons, List.drop_zero, List.cons_append, List.nil_append, List.append_eq, List.length_cons, List.length_nil, Nat.reduceAdd, Nat.reduceMul, Nat.reduceSub, Int.reduceAdd, Int.reduceSub, Int.reduceToNat, Int.reduceNeg, Int.reduceMul]) | refine q_blocky rfl ?_ | refine W_plain rfl ?_ | refine W_drawn mixed rfl ?_ | refine and_chk (by kernel_rfl) ?_ | refine k_move rfl rfl ?_ | refine k_assign rfl rfl ?_ | refine k_load rfl rfl rfl rfl ?_ | refine k_alloc rfl ?_ | refine k_box rfl rfl rfl ?_ | refine k_store rfl rfl rfl rfl rfl rfl rfl ?_ | refine k_extract rfl rfl rfl ?_ | refine k_fieldAddr rfl rfl rfl ?_ | refine k_build rfl rfl rfl ?_ | refine k_call rfl (Check_ok G.good) rfl rfl rfl rfl ?_ | refine k_call rfl hf rfl rfl rfl rfl ?_ | refine k_geq rfl rfl rfl hov ?_ | refine k_call rfl wa rfl rfl rfl rfl ?_ | refine k_call rfl wc rfl rfl rfl rfl ?_ | refine k_rem rfl rfl rfl (by decide) he ?_ | refine k_eql rfl rfl rfl hod ?_ | refine k_call rfl hl rfl rfl rfl rfl ?_ | refine k_loade rfl rfl rfl ?_ | refine k_fieldAddre rfl rfl rfl rfl ?_ | refine k_pickT rfl rfl rfl ?_ | refine k_pickF rfl rfl rfl ?_ | refine k_not rfl rfl rfl ?_ | refine k_geqT rfl rfl rfl (by omega) ?_ | refine k_geqF rfl rfl rfl (by omega) ?_ | refine k_eqlT rfl rfl rfl (by omega) ?_ | refine k_eqlF rfl rfl rfl (by omega) ?_ | refine k_neqT rfl rfl rfl (by omega) ?_ | refine k_neqF rfl rfl rfl (by omega) ?_ | refine k_eqa rfl rfl rfl rfl rfl rfl ?_ | refine k_nea rfl rfl rfl rfl rfl rfl ?_ | refine k_skip rfl ?_ | refine k_skip0 rfl ?_ | refine k_pick rfl rfl rfl rfl rfl ?_ | refine W_yes rfl ?_ | refine W_no rfl ?_)
    (first | with_reducible refine q_endr ?_ | with_reducible refine q_endn ?_); refine rets2 Tryd.results19 (by first | exact RetV.tmp _ _ rfl | exact RetV.cell _ _ _ _ _ _ _ _ inferInstance rfl rfl rfl) (by first | exact RetV.tmp _ _ rfl | exact RetV.cell _ _ _ _ _ _ _ _ inferInstance rfl rfl rfl) ?_ ?_
    · rfl
    · rfl
set_option maxHeartbeats 8000000 in
theorem rec_at (G : Grp p b n gx gy T) (hn : n < 1000) (l : List UInt8) (hll : l.length = 32) (r s x i m : Nat) (iv u v z w : Nat) (q : List D) (hr : r < n) (hs : s < n) (o e : Int) (ov odd far : Bool) (hov : decide (o ≥ 2) = ov) (hx : cond ov (r + n) r = x) (hxp : x < p) (hp : p < 1000) (he : o.tmod 2 = e) (hod : decide (e = 1) = odd) (hf : Pur Tryd.prog 41 [.agg (cv p 0 b n gx gy false), .agg (sg r s o)] (.bool true))
    (hl : Pur Tryd.prog 42 [.agg (cv p 0 b n gx gy false), U x, .bool odd] (.tup [.agg (ptD (T i)), .int .i64 0]))
    (hiv : iv < n) (hi1 : iv * r % n = 1) (hig : Nat.gcd n r = 1) (hu : s * iv % n = u) (hz : nm l % n = z) (hw : z * iv % n = w) (hv : (0 + n - w) % n = v) (hm : T (u * i + v * 1) = T m) (a c : Nat) (hT : T m = (a, c, far)) (hq : cond far (.tup [.agg (pt 0 0 false), .int .i64 10]) (.tup [.agg (pt a c far), .int .i64 0]) = D.tup q) : Pur Tryd.prog 19 [.agg (cv p 0 b n gx gy false), .agg (bs l), .agg (sg r s o)] (.tup q) := by
  have hM : 2000 < M256 := by decide
  have h1 := G.good.h1
  have h0 : 0 < n := by omega
  have hun : u < n := by rw [← hu]; exact Nat.mod_lt _ h0
  have hzn : z < n := by rw [← hz]; exact Nat.mod_lt _ h0
  have hwn : w < n := by rw [← hw]; exact Nat.mod_lt _ h0
  have hvn : v < n := by rw [← hv]; exact Nat.mod_lt _ h0
  have wc := p_cmp x p (-1) (by omega) (by omega) (cmp_m1 hxp)
  have wa := p_wadd r n (r + n) false (by omega) (by omega) (Nat.mod_eq_of_lt (by omega)) (by simp; omega)
  have wi := p_finv r n iv (by omega) hr hiv (by rw [hi1, Nat.mod_eq_of_lt h1]) hig
  have mu := p_fmul s iv n u (by omega) hs hiv hu
  have fr := From_ok l hll
  have re := rest_ok (nm l) n z (nm_lt32 l hll) (by omega) h0 hz
  have mw := p_fmul z iv n w (by omega) hzn hiv hw
  have ms := p_fsub 0 w n v (by omega) h0 hwn hv
  have su := sum2_ok G u v i 1 m (by omega) (by omega) hm
  rw [← base_D G, hT] at su
  rw [U_zero] at ms
  cases ov <;> cases far
  all_goals
    simp only [cond_false, cond_true] at hx hq
    injection hq with hq
    subst hx
    subst hq
    refine pur_intro Tryd.func19 rfl Tryd.ntmps19 rfl (by first | rfl | assumption | exact bs_cl _) fun B => ?_
    repeat (first | with_reducible (first | refine W_seq ?_ | refine q_then ?_ | refine q_thenr ?_ | refine q_thenx ?_ | refine W_block ?_ | refine q_block ?_ | refine q_blockr ?_ | refine q_blockx ?_ | refine W_ret ?_ | refine W_skip ?_ | refine W_label ?_ | refine W_exit ?_ | refine W_scope ?_ | refine q_scope ?_ | refine q_scoper ?_ | refine q_scopex ?_) | (with_reducible refine R_nil ?_; try dsimp only [slots0, slots_ud, pt_all, pt_x, pt_y, cv_all, cv_p, cv_a, cv_b, cv_n, cv_g, cv_gx, pt_len, cv_len, rg_len, ren_rl, rl_all, rl_m, rl_len, rl_nil, pt_nil, ptD_all, ptD_nil, ptD_len, sg_all, sg_r, sg_s, sg_len, cells_U, agg_ud, drop0, dropS, takeS, take0, ud_nil, take_ud, take_ud0, drop_ud, drop_ud0, take_udk, D.cells, D.fz, D.fzs, List.take_succ_cons, List.take_zero, List.drop_succ_cons, List.drop_zero, List.cons_append, List.nil_append, List.append_eq, List.length_cons, List.length_nil, Nat.reduceAdd, Nat.reduceMul, Nat.reduceSub, Int.reduceAdd, Int.reduceSub, Int.reduceToNat, Int.reduceNeg, Int.reduceMul]) | refine q_blocky rfl ?_ | refine W_plain rfl ?_ | refine W_drawn mixed rfl ?_ | refine and_chk (by kernel_rfl) ?_ | refine k_move rfl rfl ?_ | refine k_assign rfl rfl ?_ | refine k_load rfl rfl rfl rfl ?_ | refine k_alloc rfl ?_ | refine k_box rfl rfl rfl ?_ | refine k_store rfl rfl rfl rfl rfl rfl rfl ?_ | refine k_extract rfl rfl rfl ?_ | refine k_fieldAddr rfl rfl rfl ?_ | refine k_build rfl rfl rfl ?_ | refine k_call rfl (Check_ok G.good) rfl rfl rfl rfl ?_ | refine k_call rfl hf rfl rfl rfl rfl ?_ | refine k_geq rfl rfl rfl hov ?_ | refine k_call rfl wa rfl rfl rfl rfl ?_ | refine k_call rfl wc rfl rfl rfl rfl ?_ | refine k_rem rfl rfl rfl (by decide) he ?_ | refine k_eql rfl rfl rfl hod ?_ | refine k_call rfl hl rfl rfl rfl rfl ?_ | refine k_call rfl wi rfl rfl rfl rfl ?_ | refine k_call rfl mu rfl rfl rfl rfl ?_ | refine k_load rfl rfl rfl (by exact b_cut hll _) ?_ | refine k_call rfl fr rfl (b_fz1 _) (b_cl1 _) rfl ?_ | refine k_call rfl re rfl rfl rfl rfl ?_ | refine k_call rfl mw rfl rfl rfl rfl ?_ | refine k_call rfl ms rfl rfl rfl rfl ?_ | refine k_call rfl su rfl rfl rfl rfl ?_ | refine k_loade rfl rfl rfl ?_ | refine k_fieldAddre rfl rfl rfl rfl ?_ | refine k_pickT rfl rfl rfl ?_ | refine k_pickF rfl rfl rfl ?_ | refine k_not rfl rfl rfl ?_ | refine k_geqT rfl rfl rfl (by omega) ?_ | refine k_geqF rfl rfl rfl (by omega) ?_ | refine k_eqlT rfl rfl rfl (by omega) ?_ | refine k_eqlF rfl rfl rfl (by omega) ?_ | refine k_neqT rfl rfl rfl (by omega) ?_ | refine k_neqF rfl rfl rfl (by omega) ?_ | refine k_eqa rfl rfl rfl rfl rfl rfl ?_ | refine k_nea rfl rfl rfl rfl rfl rfl ?_ | refine k_skip rfl ?_ | refine k_skip0 rfl ?_ | refine k_pick rfl rfl rfl rfl rfl ?_ | refine W_yes rfl ?_ | refine W_no rfl ?_)
    (first | with_reducible refine q_endr ?_ | with_reducible refine q_endn ?_); refine rets2 Tryd.results19 (by first | exact RetV.tmp _ _ rfl | exact RetV.cell _ _ _ _ _ _ _ _ inferInstance rfl rfl rfl) (by first | exact RetV.tmp _ _ rfl | exact RetV.cell _ _ _ _ _ _ _ _ inferInstance rfl rfl rfl) ?_ ?_
    · rfl
    · rfl
set_option maxHeartbeats 8000000 in
theorem check_at (G : Grp p b n gx gy T) (hn : n < 1000) (l : List UInt8) (hll : l.length = 32) (r s x y i m : Nat) (jv u v z : Nat) (hr : r < n) (hs : s < n) (o : Int) (hxp : x < 2000) (hxr : x % n = r) (hf : Pur Tryd.prog 41 [.agg (cv p 0 b n gx gy false), .agg (sg r s o)] (.bool true))
    (hT : T i = (x, y, false)) (hjv : jv < n) (hj1 : jv * s % n = 1) (hjg : Nat.gcd n s = 1) (hz : nm l % n = z) (hu : z * jv % n = u) (hv : r * jv % n = v) (hm : T (u * 1 + v * m) = T i) (hfar : (T m).2.2 = false) : Pur Tryd.prog 21 [.agg (cv p 0 b n gx gy false), .agg (ptD (T m)), .agg (bs l), .agg (sg r s o)] (.int .i64 0) := by
  have hM : 2000 < M256 := by decide
  have h1 := G.good.h1
  have h0 : 0 < n := by omega
  have hun : u < n := by rw [← hu]; exact Nat.mod_lt _ h0
  have hzn : z < n := by rw [← hz]; exact Nat.mod_lt _ h0
  have hvn : v < n := by rw [← hv]; exact Nat.mod_lt _ h0
  have wi := p_finv s n jv (by omega) hs hjv (by rw [hj1, Nat.mod_eq_of_lt h1]) hjg
  have fr := From_ok l hll
  have re := rest_ok (nm l) n z (nm_lt32 l hll) (by omega) h0 hz
  have mu := p_fmul z jv n u (by omega) hzn hjv hu
  have mv := p_fmul r jv n v (by omega) hr hjv hv
  have su := sum2_ok G u v 1 m i (by omega) (by omega) hm
  have rx := rest_ok x n r (by omega) (by omega) h0 hxr
  have on := On_T G m
  rw [← base_D G, hT] at su
  have hne : (!deqs (ud r) (ud r)) = false := by rw [deqs_ud _ _ (by omega) (by omega)]; simp
  generalize T m = t at *
  obtain ⟨tx, ty, tf⟩ := t
  simp only at hfar
  subst hfar
  refine pur_intro Tryd.func21 rfl Tryd.ntmps21 rfl (by first | rfl | assumption | exact bs_cl _) fun B => ?_
  repeat (first | with_reducible (first | refine W_seq ?_ | refine q_then ?_ | refine q_thenr ?_ | refine q_thenx ?_ | refine W_block ?_ | refine q_block ?_ | refine q_blockr ?_ | refine q_blockx ?_ | refine W_ret ?_ | refine W_skip ?_ | refine W_label ?_ | refine W_exit ?_ | refine W_scope ?_ | refine q_scope ?_ | refine q_scoper ?_ | refine q_scopex ?_) | (with_reducible refine R_nil ?_; try dsimp only [slots0, slots_ud, pt_all, pt_x, pt_y, cv_all, cv_p, cv_a, cv_b, cv_n, cv_g, cv_gx, pt_len, cv_len, rg_len, ren_rl, rl_all, rl_m, rl_len, rl_nil, pt_nil, ptD_all, ptD_nil, ptD_len, sg_all, sg_r, sg_s, sg_len, cells_U, agg_ud, drop0, dropS, takeS, take0, ud_nil, take_ud, take_ud0, drop_ud, drop_ud0, take_udk, D.cells, D.fz, D.fzs, List.take_succ_cons, List.take_zero, List.drop_succ_cons, List.drop_zero, List.cons_append, List.nil_append, List.append_eq, List.length_cons, List.length_nil, Nat.reduceAdd, Nat.reduceMul, Nat.reduceSub, Int.reduceAdd, Int.reduceSub, Int.reduceToNat, Int.reduceNeg, Int.reduceMul]) | refine q_blocky rfl ?_ | refine W_plain rfl ?_ | refine W_drawn mixed rfl ?_ | refine and_chk (by kernel_rfl) ?_ | refine k_move rfl rfl ?_ | refine k_assign rfl rfl ?_ | refine k_load rfl rfl rfl rfl ?_ | refine k_alloc rfl ?_ | refine k_box rfl rfl rfl ?_ | refine k_store rfl rfl rfl rfl rfl rfl rfl ?_ | refine k_extract rfl rfl rfl ?_ | refine k_fieldAddr rfl rfl rfl ?_ | refine k_call rfl on rfl rfl rfl rfl ?_ | refine k_call rfl hf rfl rfl rfl rfl ?_ | refine k_call rfl wi rfl rfl rfl rfl ?_ | refine k_load rfl rfl rfl (by exact b_cut hll _) ?_ | refine k_call rfl fr rfl (b_fz1 _) (b_cl1 _) rfl ?_ | refine k_call rfl re rfl rfl rfl rfl ?_ | refine k_call rfl mu rfl rfl rfl rfl ?_ | refine k_call rfl mv rfl rfl rfl rfl ?_ | refine k_call rfl su rfl rfl rfl rfl ?_ | refine k_call rfl rx rfl rfl rfl rfl ?_ | refine k_nea rfl rfl rfl rfl rfl hne ?_ | refine k_loade rfl rfl rfl ?_ | refine k_fieldAddre rfl rfl rfl rfl ?_ | refine k_pickT rfl rfl rfl ?_ | refine k_pickF rfl rfl rfl ?_ | refine k_not rfl rfl rfl ?_ | refine k_neqT rfl rfl rfl (by omega) ?_ | refine k_neqF rfl rfl rfl (by omega) ?_ | refine k_nea rfl rfl rfl rfl rfl rfl ?_ | refine k_skip rfl ?_ | refine k_skip0 rfl ?_ | refine k_pick rfl rfl rfl rfl rfl ?_ | refine W_yes rfl ?_ | refine W_no rfl ?_)
  (first | with_reducible refine q_endr ?_ | with_reducible refine q_endn ?_); refine rets1 Tryd.results21 (by first | exact RetV.tmp _ _ rfl | exact RetV.cell _ _ _ _ _ _ _ _ inferInstance rfl rfl rfl) ?_
  rfl

theorem Recover_any (G : Grp p b n gx gy T) (E : Extra p b n T) (C : Cover p b n T) (hn : n < 1000) (h2 : 2 < n) (hp : p < 1000) (l : List UInt8) (hll : l.length = 32) (r s : Nat) (hr0 : r ≠ 0) (hr : r < n) (hs0 : s ≠ 0) (hs : s ≤ n / 2) (o : Int) (ho : 0 ≤ o) :
    Pur Tryd.prog 19 [.agg (cv p 0 b n gx gy false), .agg (bs l), .agg (sg r s o)] (.tup [.agg (pt 0 0 false), .int .i64 10]) ∨
    ∃ q, Pur Tryd.prog 19 [.agg (cv p 0 b n gx gy false), .agg (bs l), .agg (sg r s o)] (.tup [.agg (ptD q), .int .i64 0]) ∧ Pur Tryd.prog 21 [.agg (cv p 0 b n gx gy false), .agg (ptD q), .agg (bs l), .agg (sg r s o)] (.int .i64 0) := by
  have hM : 2000 < M256 := by decide
  have hf := formed_ok p 0 b n gx gy r s false o (by omega) hr0 hr hs0 hs ho _ rfl
  rcases Bool.eq_false_or_eq_true (decide (o ≤ 3)) with h3 | h3
  · rw [h3] at hf
    obtain ⟨x, hx⟩ : ∃ x, cond (decide (o ≥ 2)) (r + n) r = x := ⟨_, rfl⟩
    have hx2 : x < 2000 ∧ x % n = r := by
      rw [← hx]
      cases decide (o ≥ 2)
      · exact ⟨by simp; omega, by simp [Nat.mod_eq_of_lt hr]⟩
      · exact ⟨by simp; omega, by simp [Nat.mod_eq_of_lt hr]⟩
    rcases Nat.lt_or_ge x p with hxp | hxp
    · rcases lift_any G E C x hxp (decide (o.tmod 2 = 1)) with hl | ⟨i, y, hi, hT, hl⟩
      · exact .inl (rec_lift G hn l r s x hr o _ _ _ rfl hx hxp hp rfl rfl hf hl)
      · obtain ⟨iv, hiv, hi1, hig⟩ := E.inv r hr hr0
        obtain ⟨jv, hjv, hj1, hjg⟩ := E.inv s (by omega) hs0
        obtain ⟨z, hz⟩ : ∃ z, nm l % n = z := ⟨_, rfl⟩
        obtain ⟨u, hu⟩ : ∃ u, s * iv % n = u := ⟨_, rfl⟩
        obtain ⟨w, hw⟩ : ∃ w, z * iv % n = w := ⟨_, rfl⟩
        obtain ⟨v, hv⟩ : ∃ v, (0 + n - w) % n = v := ⟨_, rfl⟩
        obtain ⟨u', hu'⟩ : ∃ u', z * jv % n = u' := ⟨_, rfl⟩
        obtain ⟨v', hv'⟩ : ∃ v', r * jv % n = v' := ⟨_, rfl⟩
        obtain ⟨m, hm⟩ : ∃ m, u * i + v * 1 = m := ⟨_, rfl⟩
        have hwn : w < n := by rw [← hw]; exact Nat.mod_lt _ (by omega)
        have hl' : Pur Tryd.prog 42 [.agg (cv p 0 b n gx gy false), U x, .bool (decide (o.tmod 2 = 1))] (.tup [.agg (ptD (T i)), .int .i64 0]) := by rw [hT]; exact hl
        by_cases hm0 : m % n = 0
        · have hTm : T m = (0, 0, true) := by rw [← G.per m, hm0, G.t0]
          exact .inl (rec_at G hn l hll r s x i m iv u v z w _ hr (by omega) o _ _ _ true rfl hx hxp hp rfl rfl hf hl' hiv hi1 hig hu hz hw hv (by rw [hm]) 0 0 hTm rfl)
        · have hfar := G.fin m hm0
          refine .inr ⟨T m, ?_, ?_⟩
          · exact rec_at G hn l hll r s x i m iv u v z w _ hr (by omega) o _ _ _ false rfl hx hxp hp rfl rfl hf hl' hiv hi1 hig hu hz hw hv (by rw [hm]) (T m).1 (T m).2.1 (by rw [← hfar]) (by show D.tup [D.agg (pt (T m).1 (T m).2.1 false), _] = D.tup [D.agg (pt (T m).1 (T m).2.1 (T m).2.2), _]; rw [hfar])
          · have c1 : GM.Eqm n ((iv : Int) * r) 1 := by have := GM.Eqm.mod (p := n) (iv * r); rw [hi1] at this; exact this.symm.trans ⟨0, by push_cast; omega⟩
            have c2 : GM.Eqm n ((jv : Int) * s) 1 := by have := GM.Eqm.mod (p := n) (jv * s); rw [hj1] at this; exact this.symm.trans ⟨0, by push_cast; omega⟩
            have c3 : GM.Eqm n u ((s : Int) * iv) := by rw [← hu]; exact GM.Eqm.mod _
            have c4 : GM.Eqm n w ((z : Int) * iv) := by rw [← hw]; exact GM.Eqm.mod _
            have c5 : GM.Eqm n v (0 - (z : Int) * iv) := by
              have := GM.Eqm.sb (p := n) (a := 0) (b := w) (by omega)
              rw [hv] at this
              exact this.trans ((GM.Eqm.refl _).sub c4)
            have c6 : GM.Eqm n u' ((z : Int) * jv) := by rw [← hu']; exact GM.Eqm.mod _
            have c7 : GM.Eqm n v' ((r : Int) * jv) := by rw [← hv']; exact GM.Eqm.mod _
            have ce := check_eq (i := i) c1 c2 c3 c5 c6 c7
            rw [hm] at ce
            exact check_at G hn l hll r s x y i m jv u' v' z hr (by omega) o hx2.1 hx2.2 hf hT hjv hj1 hjg hz hu' hv' (T_eqm G ce) hfar
    · exact .inl (rec_big G hn l r s x hr o _ rfl hx hxp hp hf)
  · rw [h3] at hf
    exact .inl (rec_form G l r s o hf)
end
end Go.Proofs.YtpdhbddkcnffbaaDoor
