/- A signature whose s is high is none. Conditions: a small curve of odd order; numbers below the order. -/
import Derived.Test.YtpdhbddkcnffbaaDoorSgn4
namespace Go.Proofs.YtpdhbddkcnffbaaDoor
open Go.RowKit Go.Lib
set_option linter.unusedVariables false
set_option maxRecDepth 100000
--nrm pt_all pt_x pt_y cv_all cv_p cv_a cv_b cv_n cv_g cv_gx pt_len cv_len rg_len ren_rl rl_all rl_m rl_len rl_nil pt_nil ptD_all ptD_nil ptD_len sg_all sg_r sg_s sg_len

theorem fz3 (cs z : List D) (l : List UInt8) (hz : D.fzs z = z) (hc : D.fzs cs = cs) : D.fzs [D.agg cs, D.agg (bs l), D.agg z] = [D.agg cs, D.agg (bs l), D.agg z] := by
  show [D.agg (D.fzs cs), D.agg (D.fzs (bs l)), D.agg (D.fzs z)] = _
  rw [bs_fzs, hz, hc]
theorem cl3 (cs z : List D) (l : List UInt8) (hz : D.cls z = true) (hc : D.cls cs = true) : D.cls [D.agg cs, D.agg (bs l), D.agg z] = true := by
  show (D.cls cs && (D.cls (bs l) && (D.cls z && true))) = true
  rw [bs_cl, hz, hc]; rfl
theorem fz4 (cs q z : List D) (l : List UInt8) (hz : D.fzs z = z) (hc : D.fzs cs = cs) (hq : D.fzs q = q) : D.fzs [D.agg cs, D.agg q, D.agg (bs l), D.agg z] = [D.agg cs, D.agg q, D.agg (bs l), D.agg z] := by
  show [D.agg (D.fzs cs), D.agg (D.fzs q), D.agg (D.fzs (bs l)), D.agg (D.fzs z)] = _
  rw [bs_fzs, hz, hc, hq]
theorem cl4 (cs q z : List D) (l : List UInt8) (hz : D.cls z = true) (hc : D.cls cs = true) (hq : D.cls q = true) : D.cls [D.agg cs, D.agg q, D.agg (bs l), D.agg z] = true := by
  show (D.cls cs && (D.cls q && (D.cls (bs l) && (D.cls z && true)))) = true
  rw [bs_cl, hz, hc, hq]; rfl
theorem fzm (cs q : List D) (l : List UInt8) (hc : D.fzs cs = cs) (hq : D.fzs q = q) : D.fzs [D.agg cs, D.agg q, D.agg (bs l)] = [D.agg cs, D.agg q, D.agg (bs l)] := by
  show [D.agg (D.fzs cs), D.agg (D.fzs q), D.agg (D.fzs (bs l))] = _
  rw [bs_fzs, hc, hq]
theorem clm (cs q : List D) (l : List UInt8) (hc : D.cls cs = true) (hq : D.cls q = true) : D.cls [D.agg cs, D.agg q, D.agg (bs l)] = true := by
  show (D.cls cs && (D.cls q && (D.cls (bs l) && true))) = true
  rw [bs_cl, hc, hq]; rfl
section
variable {p b n gx gy : Nat} {T : Nat → P3}
theorem formed_high (s t : Nat) (o : Int) (hn : n < M256) (hs0 : s ≠ 0) (hs : s < n) (ht0 : n / 2 < t) (ht : t < n) : Pur Tryd.prog 41 [.agg (cv p 0 b n gx gy false), .agg (sg s t o)] (.bool false) := by
  have h1 := secret_ok p 0 b n gx gy s false true hn (by omega) (by simp; omega)
  have h2 := secret_ok p 0 b n gx gy t false true hn (by omega) (by simp; omega)
  have h3 := low_ok p 0 b n gx gy t false false hn (by omega) (by simp; omega)
  refine pur_intro Tryd.func41 rfl Tryd.ntmps41 rfl (by first | rfl | assumption | exact bs_cl _) fun B => ?_
  repeat (first | with_reducible (first | refine W_seq ?_ | refine q_then ?_ | refine q_thenr ?_ | refine q_thenx ?_ | refine W_block ?_ | refine q_block ?_ | refine q_blockr ?_ | refine q_blockx ?_ | refine W_ret ?_ | refine W_skip ?_ | refine W_label ?_ | refine W_exit ?_ | refine W_scope ?_ | refine q_scope ?_ | refine q_scoper ?_ | refine q_scopex ?_) | (with_reducible refine R_nil ?_; try dsimp only [slots0, slots_ud, pt_all, pt_x, pt_y, cv_all, cv_p, cv_a, cv_b, cv_n, cv_g, cv_gx, pt_len, cv_len, rg_len, ren_rl, rl_all, rl_m, rl_len, rl_nil, pt_nil, ptD_all, ptD_nil, ptD_len, sg_all, sg_r, sg_s, sg_len, cells_U, agg_ud, drop0, dropS, takeS, take0, ud_nil, take_ud, take_ud0, drop_ud, drop_ud0, take_udk, D.cells, D.fz, D.fzs, List.take_succ_cons, List.take_zero, List.drop_succ_cons, List.drop_zero, List.cons_append, List.nil_append, List.append_eq, List.length_cons, List.length_nil, Nat.reduceAdd, Nat.reduceMul, Nat.reduceSub, Int.reduceAdd, Int.reduceSub, Int.reduceToNat, Int.reduceNeg, Int.reduceMul]) | refine q_blocky rfl ?_ | refine W_plain rfl ?_ | refine W_drawn mixed rfl ?_ | refine and_chk (by kernel_rfl) ?_ | refine k_move rfl rfl ?_ | refine k_assign rfl rfl ?_ | refine k_load rfl rfl rfl rfl ?_ | refine k_box rfl rfl rfl ?_ | refine k_fieldAddr rfl rfl rfl ?_ | refine k_call rfl h1 rfl rfl rfl rfl ?_ | refine k_call rfl h2 rfl rfl rfl rfl ?_ | refine k_call rfl h3 rfl rfl rfl rfl ?_ | refine k_loade rfl rfl rfl ?_ | refine k_fieldAddre rfl rfl rfl rfl ?_ | refine k_pickT rfl rfl rfl ?_ | refine k_pickF rfl rfl rfl ?_ | refine k_leqT rfl rfl rfl (by omega) ?_ | refine k_leqF rfl rfl rfl (by omega) ?_ | refine k_geqT rfl rfl rfl (by omega) ?_ | refine k_geqF rfl rfl rfl (by omega) ?_ | refine k_skip rfl ?_ | refine k_skip0 rfl ?_ | refine k_pick rfl rfl rfl rfl rfl ?_ | refine W_yes rfl ?_ | refine W_no rfl ?_)
  (first | with_reducible refine q_endr ?_ | with_reducible refine q_endn ?_); refine rets1 Tryd.results41 (by first | exact RetV.tmp _ _ rfl | exact RetV.cell _ _ _ _ _ _ _ _ inferInstance rfl rfl rfl) ?_
  rfl
theorem chk_form (G : Grp p b n gx gy T) (l : List UInt8) (r s d : Nat) (o : Int) (hd : d % n ≠ 0) (hf : Pur Tryd.prog 41 [.agg (cv p 0 b n gx gy false), .agg (sg r s o)] (.bool false)) : Pur Tryd.prog 21 [.agg (cv p 0 b n gx gy false), .agg (ptD (T d)), .agg (bs l), .agg (sg r s o)] (.int .i64 10) := by
  have on := On_T G d
  have hfar := G.fin d hd
  generalize T d = t at *
  obtain ⟨tx, ty, tf⟩ := t
  simp only at hfar
  subst hfar
  refine pur_intro Tryd.func21 rfl Tryd.ntmps21 rfl (by first | rfl | assumption | exact bs_cl _) fun B => ?_
  repeat (first | with_reducible (first | refine W_seq ?_ | refine q_then ?_ | refine q_thenr ?_ | refine q_thenx ?_ | refine W_block ?_ | refine q_block ?_ | refine q_blockr ?_ | refine q_blockx ?_ | refine W_ret ?_ | refine W_skip ?_ | refine W_label ?_ | refine W_exit ?_ | refine W_scope ?_ | refine q_scope ?_ | refine q_scoper ?_ | refine q_scopex ?_) | (with_reducible refine R_nil ?_; try dsimp only [slots0, slots_ud, pt_all, pt_x, pt_y, cv_all, cv_p, cv_a, cv_b, cv_n, cv_g, cv_gx, pt_len, cv_len, rg_len, ren_rl, rl_all, rl_m, rl_len, rl_nil, pt_nil, ptD_all, ptD_nil, ptD_len, sg_all, sg_r, sg_s, sg_len, cells_U, agg_ud, drop0, dropS, takeS, take0, ud_nil, take_ud, take_ud0, drop_ud, drop_ud0, take_udk, D.cells, D.fz, D.fzs, List.take_succ_cons, List.take_zero, List.drop_succ_cons, List.drop_zero, List.cons_append, List.nil_append, List.append_eq, List.length_cons, List.length_nil, Nat.reduceAdd, Nat.reduceMul, Nat.reduceSub, Int.reduceAdd, Int.reduceSub, Int.reduceToNat, Int.reduceNeg, Int.reduceMul]) | refine q_blocky rfl ?_ | refine W_plain rfl ?_ | refine W_drawn mixed rfl ?_ | refine and_chk (by kernel_rfl) ?_ | refine k_move rfl rfl ?_ | refine k_assign rfl rfl ?_ | refine k_load rfl rfl rfl rfl ?_ | refine k_alloc rfl ?_ | refine k_box rfl rfl rfl ?_ | refine k_store rfl rfl rfl rfl rfl rfl rfl ?_ | refine k_extract rfl rfl rfl ?_ | refine k_fieldAddr rfl rfl rfl ?_ | refine k_call rfl on rfl rfl rfl rfl ?_ | refine k_call rfl hf rfl rfl rfl rfl ?_ | refine k_loade rfl rfl rfl ?_ | refine k_fieldAddre rfl rfl rfl rfl ?_ | refine k_pickT rfl rfl rfl ?_ | refine k_pickF rfl rfl rfl ?_ | refine k_not rfl rfl rfl ?_ | refine k_neqT rfl rfl rfl (by omega) ?_ | refine k_neqF rfl rfl rfl (by omega) ?_ | refine k_nea rfl rfl rfl rfl rfl rfl ?_ | refine k_skip rfl ?_ | refine k_skip0 rfl ?_ | refine k_pick rfl rfl rfl rfl rfl ?_ | refine W_yes rfl ?_ | refine W_no rfl ?_)
  (first | with_reducible refine q_endr ?_ | with_reducible refine q_endn ?_); refine rets1 Tryd.results21 (by first | exact RetV.tmp _ _ rfl | exact RetV.cell _ _ _ _ _ _ _ _ inferInstance rfl rfl rfl) ?_
  rfl
end
end Go.Proofs.YtpdhbddkcnffbaaDoor
