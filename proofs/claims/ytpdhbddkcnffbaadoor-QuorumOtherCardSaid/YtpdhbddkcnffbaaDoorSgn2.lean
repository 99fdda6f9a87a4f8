/- Recover tells a point by which the signature is right, or says that the signature is none. Conditions: a small curve; its points' table; the signature's numbers below the order. -/
import Derived.Test.YtpdhbddkcnffbaaDoorSgn1
import Derived.Test.YtpdhbddkcnffbaaDoorWord
namespace Go.Proofs.YtpdhbddkcnffbaaDoor
open Go.RowKit
set_option linter.unusedVariables false
set_option linter.unusedVariables false
set_option maxRecDepth 100000
--nrm pt_all pt_x pt_y cv_all cv_p cv_a cv_b cv_n cv_g cv_gx pt_len cv_len rg_len ren_rl rl_all rl_m rl_len rl_nil pt_nil ptD_all ptD_nil ptD_len sg_all sg_r sg_s sg_len

theorem T_eqm {p b n gx gy : Nat} {T : Nat → P3} (G : Grp p b n gx gy T) {i j : Nat} (h : GM.Eqm n i j) : T i = T j := by
  rw [← G.per i, ← G.per j, GM.Eqm.to_mod (by have := G.good.h1; omega) h]
theorem base_D {p b n gx gy : Nat} {T : Nat → P3} (G : Grp p b n gx gy T) : pt gx gy false = ptD (T 1) := by rw [G.t1]; rfl
section
variable {p b n gx gy : Nat} {T : Nat → P3}

set_option maxHeartbeats 8000000 in
theorem rec_at (G : Grp p b n gx gy T) (hn : n < 1000) (l : List UInt8) (hll : l.length = 32) (r s x i m : Nat) (iv u v z w : Nat) (q : List D) (hr : r < n) (hs : s < n) (o e : Int) (ov odd far : Bool) (hov : decide (o ≥ 2) = ov) (hx : cond ov (r + n) r = x) (hxp : x < p) (hp : p < 1000) (he : o.tmod 2 = e) (hod : decide (e = 1) = odd) (hf : Pur Tryd.prog 41 [.agg (cv p 0 b n gx gy false), .agg (sg r s o)] (.bool true))
    (hl : Pur Tryd.prog 42 [.agg (cv p 0 b n gx gy false), U x, .bool odd] (.tup [.agg (ptD (T i)), .int .i64 0]))
    (hiv : iv < n) (hi1 : iv * r % n = 1) (hig : Nat.gcd n r = 1) (hu : s * iv % n = u) (hz : nm l % n = z) (hw : z * iv % n = w) (hv : (0 + n - w) % n = v) (hm : T (u * i + v * 1) = T m) (a c : Nat) (hT : T m = (a, c, far)) (hq : cond far (.tup [.agg (pt 0 0 false), .int .i64 10]) (.tup [.agg (pt a c far), .int .i64 0]) = D.tup q) : Pur Tryd.prog 19 [.agg (cv p 0 b n gx gy false), .agg (bs l), .agg (sg r s o)] (.tup q) := by
  have hM : 2000 < M256 := by decide
  have h1 := G.good.h1
  have h0 : 0 < n := by omega
  have hun : u < n := by rw [← hu]; exact Nat.mod_lt _ h0
  have hzn : z < n := by rw [← hz]; exact Nat.mod_lt _ h0
  have hwn : w < n := by rw [← hw]; exact Nat.mod_lt _ h0
  have hvn : v < n := by rw [← hv]; exact Nat.mod_lt _ h0
  have wc := p_cmp x p (-1) (by omega) (by omega) (cmp_m1 hxp)
  have wa := p_wadd r n (r + n) false (by omega) (by omega) (Nat.mod_eq_of_lt (by omega)) (by simp; omega)
  have wi := p_finv r n iv (by omega) hr hiv (by rw [hi1, Nat.mod_eq_of_lt h1]) hig
  have mu := p_fmul s iv n u (by omega) hs hiv hu
  have fr := From_ok l hll
  have re := rest_ok (nm l) n z (nm_lt32 l hll) (by omega) h0 hz
  have mw := p_fmul z iv n w (by omega) hzn hiv hw
  have ms := p_fsub 0 w n v (by omega) h0 hwn hv
  have su := sum2_ok G u v i 1 m (by omega) (by omega) hm
  rw [← base_D G, hT] at su
  rw [U_zero] at ms
  cases ov <;> cases far
  all_goals
    simp only [cond_false, cond_true] at hx hq
    injection hq with hq
    subst hx
    subst hq
    refine pur_intro Tryd.func19 rfl Tryd.ntmps19 rfl (by first | rfl | assumption | exact bs_cl _) fun B => ?_
    repeat (first | with_reducible (first | refine W_seq ?_ | refine q_then ?_ | refine q_thenr ?_ | refine q_thenx ?_ | refine W_block ?_ | refine q_block ?_ | refine q_blockr ?_ | refine q_blockx ?_ | refine W_ret ?_ | refine W_skip ?_ | refine W_label ?_ | refine W_exit ?_ | refine W_scope ?_ | refine q_scope ?_ | refine q_scoper ?_ | refine q_scopex ?_) | (with_reducible refine R_nil ?_; try dsimp only [slots0, slots_ud, pt_all, pt_x, pt_y, cv_all, cv_p, cv_a, cv_b, cv_n, cv_g, cv_gx, pt_len, cv_len, rg_len, ren_rl, rl_all, rl_m, rl_len, rl_nil, pt_nil, ptD_all, ptD_nil, ptD_len, sg_all, sg_r, sg_s, sg_len, cells_U, agg_ud, drop0, dropS, takeS, take0, ud_nil, take_ud, take_ud0, drop_ud, drop_ud0, take_udk, D.cells, D.fz, D.fzs, List.take_succ_cons, List.take_zero, List.drop_succ_cons, List.drop_zero, List.cons_append, List.nil_append, List.append_eq, List.length_cons, List.length_nil, Nat.reduceAdd, Nat.reduceMul, Nat.reduceSub, Int.reduceAdd, Int.reduceSub, Int.reduceToNat, Int.reduceNeg, Int.reduceMul]) | refine q_blocky rfl ?_ | refine W_plain rfl ?_ | refine W_drawn mixed rfl ?_ | refine and_chk (by kernel_rfl) ?_ | refine k_move rfl rfl ?_ | refine k_assign rfl rfl ?_ | refine k_load rfl rfl rfl rfl ?_ | refine k_alloc rfl ?_ | refine k_box rfl rfl rfl ?_ | refine k_store rfl rfl rfl rfl rfl rfl rfl ?_ | refine k_extract rfl rfl rfl ?_ | refine k_fieldAddr rfl rfl rfl ?_ | refine k_build rfl rfl rfl ?_ | refine k_call rfl (Check_ok G.good) rfl rfl rfl rfl ?_ | refine k_call rfl hf rfl rfl rfl rfl ?_ | refine k_geq rfl rfl rfl hov ?_ | refine k_call rfl wa rfl rfl rfl rfl ?_ | refine k_call rfl wc rfl rfl rfl rfl ?_ | (refine k_rem rfl rfl rfl ?_ he ?_; (decide)) | refine k_eql rfl rfl rfl hod ?_ | refine k_call rfl hl rfl rfl rfl rfl ?_ | refine k_call rfl wi rfl rfl rfl rfl ?_ | refine k_call rfl mu rfl rfl rfl rfl ?_ | refine k_load rfl rfl rfl (b_cut hll _) ?_ | refine k_call rfl fr rfl (b_fz1 _) (b_cl1 _) rfl ?_ | refine k_call rfl re rfl rfl rfl rfl ?_ | refine k_call rfl mw rfl rfl rfl rfl ?_ | refine k_call rfl ms rfl rfl rfl rfl ?_ | refine k_call rfl su rfl rfl rfl rfl ?_ | refine k_loade rfl rfl rfl ?_ | refine k_fieldAddre rfl rfl rfl rfl ?_ | refine k_pickT rfl rfl rfl ?_ | refine k_pickF rfl rfl rfl ?_ | refine k_not rfl rfl rfl ?_ | (refine k_geqT rfl rfl rfl ?_ ?_; (omega)) | (refine k_geqF rfl rfl rfl ?_ ?_; (omega)) | (refine k_eqlT rfl rfl rfl ?_ ?_; (omega)) | (refine k_eqlF rfl rfl rfl ?_ ?_; (omega)) | (refine k_neqT rfl rfl rfl ?_ ?_; (omega)) | (refine k_neqF rfl rfl rfl ?_ ?_; (omega)) | refine k_eqa rfl rfl rfl rfl rfl rfl ?_ | refine k_nea rfl rfl rfl rfl rfl rfl ?_ | refine k_skip rfl ?_ | refine k_skip0 rfl ?_ | refine k_pick rfl rfl rfl rfl rfl ?_ | refine W_yes rfl ?_ | refine W_no rfl ?_)
    (first | with_reducible refine q_endr ?_ | with_reducible refine q_endn ?_); refine rets2 Tryd.results19 (by first | exact RetV.tmp _ _ rfl | exact RetV.cell _ _ _ _ _ _ _ _ inferInstance rfl rfl rfl) (by first | exact RetV.tmp _ _ rfl | exact RetV.cell _ _ _ _ _ _ _ _ inferInstance rfl rfl rfl) ?_ ?_
    · rfl
    · rfl
end
end Go.Proofs.YtpdhbddkcnffbaaDoor
