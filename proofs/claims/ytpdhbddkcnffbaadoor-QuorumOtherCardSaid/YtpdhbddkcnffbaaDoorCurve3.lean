/- A curve that may be passes. Conditions: Good. -/
import Derived.Test.YtpdhbddkcnffbaaDoorCurve2
import Derived.Test.YtpdhbddkcnffbaaDoorGd
namespace Go.Proofs.YtpdhbddkcnffbaaDoor
open Go.RowKit
set_option linter.unusedVariables false
set_option linter.unusedVariables false
set_option maxRecDepth 100000
--nrm pt_all pt_x pt_y cv_all cv_p cv_a cv_b cv_n cv_g cv_gx pt_len cv_len rg_len ren_rl rl_all rl_m rl_len rl_nil pt_nil

set_option maxHeartbeats 2000000 in
theorem Check_ok {p a b n gx gy : Nat} (g : Good p a b n gx gy) : Pur Tryd.prog 28 [.agg (cv p a b n gx gy false)] (.int .i64 0) := by
  have hp := g.hp
  have h0 : 0 < p := by have := g.h3; omega
  have hl := low4 p g.h4
  have hd : deqs (ud ((4 % p * (a * (a * a % p) % p) % p + 27 % p * (b * b % p) % p) % p)) (ud 0) = false := by
    rw [deqs_ud _ _ (Nat.lt_trans (Nat.mod_lt _ h0) hp) (by decide)]; simpa using g.hd
  have hon := on_ok p a b n gx gy gx gy false hp h0 g.ha g.hb g.hgx g.hgy
  rw [g.hon] at hon
  refine pur_intro Tryd.func28 rfl Tryd.ntmps28 rfl (by first | rfl | assumption | exact bs_cl _) fun B => ?_
  repeat (first | with_reducible (first | refine W_seq ?_ | refine q_then ?_ | refine q_thenr ?_ | refine q_thenx ?_ | refine W_block ?_ | refine q_block ?_ | refine q_blockr ?_ | refine q_blockx ?_ | refine W_ret ?_ | refine W_skip ?_ | refine W_label ?_ | refine W_exit ?_ | refine W_scope ?_ | refine q_scope ?_ | refine q_scoper ?_ | refine q_scopex ?_) | (with_reducible refine R_nil ?_; try dsimp only [slots0, slots_ud, pt_all, pt_x, pt_y, cv_all, cv_p, cv_a, cv_b, cv_n, cv_g, cv_gx, pt_len, cv_len, rg_len, ren_rl, rl_all, rl_m, rl_len, rl_nil, pt_nil, cells_U, agg_ud, drop0, dropS, takeS, take0, ud_nil, take_ud, take_ud0, drop_ud, drop_ud0, take_udk, D.cells, D.fz, D.fzs, List.take_succ_cons, List.take_zero, List.drop_succ_cons, List.drop_zero, List.cons_append, List.nil_append, List.append_eq, List.length_cons, List.length_nil, Nat.reduceAdd, Nat.reduceMul, Nat.reduceSub, Int.reduceAdd, Int.reduceSub, Int.reduceToNat, Int.reduceNeg, Int.reduceMul]) | refine q_blocky rfl ?_ | refine W_plain rfl ?_ | refine W_drawn mixed rfl ?_ | refine and_chk (by kernel_rfl) ?_ | refine k_move rfl rfl ?_ | refine k_assign rfl rfl ?_ | refine k_load rfl rfl rfl rfl ?_ | refine k_alloc rfl ?_ | refine k_box rfl rfl rfl ?_ | refine k_store rfl rfl rfl rfl rfl rfl rfl ?_ | refine k_fieldAddr rfl rfl rfl ?_ | refine k_build rfl rfl rfl ?_ | refine k_call rfl (p_cmp p 3 1 hp (by decide) (cmp_p1 g.h3)) rfl rfl rfl rfl ?_ | refine k_call rfl (p_cmp n 1 1 g.hn (by decide) (cmp_p1 g.h1)) rfl rfl rfl rfl ?_ | refine k_call rfl (p_cmp a p (-1) (Nat.lt_trans g.ha hp) hp (cmp_m1 g.ha)) rfl rfl rfl rfl ?_ | refine k_call rfl (p_cmp b p (-1) (Nat.lt_trans g.hb hp) hp (cmp_m1 g.hb)) rfl rfl rfl rfl ?_ | (refine k_rem rfl rfl rfl ?_ hl ?_; (decide)) | refine k_calln rfl (ringOf_ok _ _ _ _ _ _ _) rfl rfl rfl rfl rfl rfl ?_ | refine k_call rfl (small_ok p 4 _ 4 rfl (by decide) hp h0 rfl) rfl rfl rfl rfl ?_ | refine k_call rfl (small_ok p 27 _ 27 rfl (by decide) hp h0 rfl) rfl rfl rfl rfl ?_ | refine k_call rfl (rmul _ _ _ _ hp (by first | exact g.ha | exact g.hb | exact Nat.mod_lt _ h0) (by first | exact g.ha | exact g.hb | exact Nat.mod_lt _ h0) rfl) rfl rfl rfl rfl ?_ | refine k_call rfl (radd _ _ _ _ hp (Nat.mod_lt _ h0) (Nat.mod_lt _ h0) rfl) rfl rfl rfl rfl ?_ | refine k_call rfl hon rfl rfl rfl rfl ?_ | refine k_eqa rfl rfl rfl rfl rfl hd ?_ | (refine k_indexAddr rfl rfl rfl ⟨?_, ?_⟩ ?_; (omega); (omega)) | (refine k_indexAddrs rfl rfl rfl ⟨?_, ?_⟩ rfl ?_; (omega); (omega)) | refine k_loade rfl rfl rfl ?_ | refine k_fieldAddre rfl rfl rfl rfl ?_ | refine k_pickT rfl rfl rfl ?_ | refine k_pickF rfl rfl rfl ?_ | refine k_not rfl rfl rfl ?_ | (refine k_leqT rfl rfl rfl ?_ ?_; (omega)) | (refine k_leqF rfl rfl rfl ?_ ?_; (omega)) | (refine k_geqT rfl rfl rfl ?_ ?_; (omega)) | (refine k_geqF rfl rfl rfl ?_ ?_; (omega)) | (refine k_eqlT rfl rfl rfl ?_ ?_; (omega)) | (refine k_eqlF rfl rfl rfl ?_ ?_; (omega)) | (refine k_neqT rfl rfl rfl ?_ ?_; (omega)) | (refine k_neqF rfl rfl rfl ?_ ?_; (omega)) | refine k_eqa rfl rfl rfl rfl rfl rfl ?_ | refine k_nea rfl rfl rfl rfl rfl rfl ?_ | refine k_skip rfl ?_ | refine k_skip0 rfl ?_ | refine k_pick rfl rfl rfl rfl rfl ?_ | refine W_yes rfl ?_ | refine W_no rfl ?_)
  (first | with_reducible refine q_endr ?_ | with_reducible refine q_endn ?_); refine rets1 Tryd.results28 (by first | exact RetV.tmp _ _ rfl | exact RetV.cell _ _ _ _ _ _ _ _ inferInstance rfl rfl rfl) ?_
  rfl
end Go.Proofs.YtpdhbddkcnffbaaDoor
