/- 'Lift': a point by its first number, and by whether its second one is odd. Conditions: Good; the number is below the modulus. -/
import Derived.Test.YtpdhbddkcnffbaaDoorGrpX
namespace Go.Proofs.YtpdhbddkcnffbaaDoor
open Go.RowKit
set_option linter.unusedVariables false
set_option linter.unusedVariables false
set_option maxRecDepth 100000
--nrm pt_all pt_x pt_y cv_all cv_p cv_a cv_b cv_n cv_g cv_gx pt_len cv_len rg_len ren_rl rl_all rl_m rl_len rl_nil pt_nil ptD_all ptD_nil ptD_len

theorem tmod2 (r : Nat) : (lim r 0).tmod 2 = ((r % 2 : Nat) : Int) := by
  simp only [lim0]
  rw [Int.tmod_eq_emod_of_nonneg (by omega)]; omega

section
variable {p b n gx gy : Nat} (g : Good p 0 b n gx gy) (x r : Nat) (hx : x < p) (hr : sideN p 0 b x ^ (p / 4 + 1) % p = r)
include g

include hr hx
set_option maxHeartbeats 4000000 in
theorem Lift_C (odd ob : Bool) (ho : decide (r % 2 = 1) = odd) (hob : onN p 0 b x r = ob) : Pur Tryd.prog 42 [.agg (cv p 0 b n gx gy false), U x, .bool odd] (cond ob (.tup [.agg (pt x r false), .int .i64 0]) (.tup [.agg (pt 0 0 false), .int .i64 16])) := by
  have hp := g.hp
  have h3 := g.h3
  have h0 : 0 < p := by omega
  have hrl : r < p := by rw [← hr]; exact Nat.mod_lt _ h0
  have hsl : sideN p 0 b x < p := Nat.mod_lt _ h0
  have t1 := tmod2 r
  have sd := side_ok p 0 b n gx gy x _ false hp h0 h0 g.hb hx rfl
  have dv := p_div p 4 (p / 4) _ hp (by decide) (by decide) rfl rfl
  have wa := p_wadd (p / 4) 1 (p / 4 + 1) false (by unfold M256 at *; omega) (by decide) (by unfold M256 at *; omega) (by unfold M256 at *; simp; omega)
  have pw := p_fpow _ (p / 4 + 1) p r hp hsl (by unfold M256 at *; omega) hr
  have hon := on_ok p 0 b n gx gy x r false hp h0 h0 g.hb hx hrl
  rw [hob] at hon
  clear hr
  cases odd <;> cases ob
  all_goals
    simp at ho
    refine pur_intro Tryd.func42 rfl Tryd.ntmps42 rfl (by first | rfl | assumption | exact bs_cl _) fun B => ?_
    repeat (first | with_reducible (first | refine W_seq ?_ | refine q_then ?_ | refine q_thenr ?_ | refine q_thenx ?_ | refine W_block ?_ | refine q_block ?_ | refine q_blockr ?_ | refine q_blockx ?_ | refine W_ret ?_ | refine W_skip ?_ | refine W_label ?_ | refine W_exit ?_ | refine W_scope ?_ | refine q_scope ?_ | refine q_scoper ?_ | refine q_scopex ?_) | (with_reducible refine R_nil ?_; try dsimp only [slots0, slots_ud, pt_all, pt_x, pt_y, cv_all, cv_p, cv_a, cv_b, cv_n, cv_g, cv_gx, pt_len, cv_len, rg_len, ren_rl, rl_all, rl_m, rl_len, rl_nil, pt_nil, ptD_all, ptD_nil, ptD_len, cells_U, agg_ud, drop0, dropS, takeS, take0, ud_nil, take_ud, take_ud0, drop_ud, drop_ud0, take_udk, D.cells, D.fz, D.fzs, List.take_succ_cons, List.take_zero, List.drop_succ_cons, List.drop_zero, List.cons_append, List.nil_append, List.append_eq, List.length_cons, List.length_nil, Nat.reduceAdd, Nat.reduceMul, Nat.reduceSub, Int.reduceAdd, Int.reduceSub, Int.reduceToNat, Int.reduceNeg, Int.reduceMul]) | refine q_blocky rfl ?_ | refine W_plain rfl ?_ | refine W_drawn mixed rfl ?_ | refine and_chk (by kernel_rfl) ?_ | refine k_move rfl rfl ?_ | refine k_assign rfl rfl ?_ | refine k_load rfl rfl rfl rfl ?_ | refine k_alloc rfl ?_ | refine k_box rfl rfl rfl ?_ | refine k_store rfl rfl rfl rfl rfl rfl rfl ?_ | refine k_extract rfl rfl rfl ?_ | refine k_fieldAddr rfl rfl rfl ?_ | refine k_build rfl rfl rfl ?_ | refine k_call rfl (Check_ok g) rfl rfl rfl rfl ?_ | refine k_call rfl (p_cmp x p (-1) (Nat.lt_trans hx hp) hp (cmp_m1 hx)) rfl rfl rfl rfl ?_ | refine k_calln rfl (ringOf_ok _ _ _ _ _ _ _) rfl rfl rfl rfl rfl rfl ?_ | refine k_call rfl dv rfl rfl rfl rfl ?_ | refine k_call rfl wa rfl rfl rfl rfl ?_ | refine k_call rfl sd rfl rfl rfl rfl ?_ | refine k_call rfl pw rfl rfl rfl rfl ?_ | refine k_call rfl (take_ok _ _) rfl rfl rfl rfl ?_ | refine k_call rfl hon rfl rfl rfl rfl ?_ | (refine k_rem rfl rfl rfl ?_ t1 ?_; (decide)) | refine k_neb rfl Tryd.underlying4 rfl rfl rfl ?_ | (refine k_indexAddr rfl rfl rfl ⟨?_, ?_⟩ ?_; (omega); (omega)) | (refine k_indexAddrs rfl rfl rfl ⟨?_, ?_⟩ rfl ?_; (omega); (omega)) | refine k_loade rfl rfl rfl ?_ | refine k_fieldAddre rfl rfl rfl rfl ?_ | refine k_pickT rfl rfl rfl ?_ | refine k_pickF rfl rfl rfl ?_ | refine k_not rfl rfl rfl ?_ | (refine k_geqT rfl rfl rfl ?_ ?_; (omega)) | (refine k_geqF rfl rfl rfl ?_ ?_; (omega)) | (refine k_eqlT rfl rfl rfl ?_ ?_; (omega)) | (refine k_eqlF rfl rfl rfl ?_ ?_; (omega)) | (refine k_neqT rfl rfl rfl ?_ ?_; (omega)) | (refine k_neqF rfl rfl rfl ?_ ?_; (omega)) | refine k_eqa rfl rfl rfl rfl rfl rfl ?_ | refine k_nea rfl rfl rfl rfl rfl rfl ?_ | refine k_skip rfl ?_ | refine k_skip0 rfl ?_ | refine k_pick rfl rfl rfl rfl rfl ?_ | refine W_yes rfl ?_ | refine W_no rfl ?_)
    (first | with_reducible refine q_endr ?_ | with_reducible refine q_endn ?_); refine rets2 Tryd.results42 (by first | exact RetV.tmp _ _ rfl | exact RetV.cell _ _ _ _ _ _ _ _ inferInstance rfl rfl rfl) (by first | exact RetV.tmp _ _ rfl | exact RetV.cell _ _ _ _ _ _ _ _ inferInstance rfl rfl rfl) ?_ ?_
    · rfl
    · rfl

set_option maxHeartbeats 4000000 in
theorem Lift_A (odd ob : Bool) (ho : decide (r % 2 = 1) = !odd) (hr0 : r ≠ 0) (hob : onN p 0 b x (p - r) = ob) : Pur Tryd.prog 42 [.agg (cv p 0 b n gx gy false), U x, .bool odd] (cond ob (.tup [.agg (pt x (p - r) false), .int .i64 0]) (.tup [.agg (pt 0 0 false), .int .i64 16])) := by
  have hp := g.hp
  have h3 := g.h3
  have h4 := g.h4
  have h0 : 0 < p := by omega
  have hrl : r < p := by rw [← hr]; exact Nat.mod_lt _ h0
  have hsl : sideN p 0 b x < p := Nat.mod_lt _ h0
  have t1 := tmod2 r
  obtain ⟨y, ey⟩ : ∃ y, p - r = y := ⟨_, rfl⟩
  have t2 := tmod2 y
  have sd := side_ok p 0 b n gx gy x _ false hp h0 h0 g.hb hx rfl
  have dv := p_div p 4 (p / 4) _ hp (by decide) (by decide) rfl rfl
  have wa := p_wadd (p / 4) 1 (p / 4 + 1) false (by unfold M256 at *; omega) (by decide) (by unfold M256 at *; omega) (by unfold M256 at *; simp; omega)
  have pw := p_fpow _ (p / 4 + 1) p r hp hsl (by unfold M256 at *; omega) hr
  have ws := p_wsub p r y false hp (Nat.lt_trans hrl hp) (by unfold M256 at *; omega) (by simp; omega)
  have hz : (!deqs (ud r) (ud 0)) = true := by rw [deqs_ud _ _ (Nat.lt_trans hrl hp) (by decide)]; simpa using hr0
  rw [ey] at hob ⊢
  have hyl : y < p := by omega
  have hon := on_ok p 0 b n gx gy x y false hp h0 h0 g.hb hx hyl
  rw [hob] at hon
  clear hr hob
  have hpar : y % 2 = 1 - r % 2 := by omega
  cases odd <;> cases ob
  all_goals
    simp at ho
    refine pur_intro Tryd.func42 rfl Tryd.ntmps42 rfl (by first | rfl | assumption | exact bs_cl _) fun B => ?_
    repeat (first | with_reducible (first | refine W_seq ?_ | refine q_then ?_ | refine q_thenr ?_ | refine q_thenx ?_ | refine W_block ?_ | refine q_block ?_ | refine q_blockr ?_ | refine q_blockx ?_ | refine W_ret ?_ | refine W_skip ?_ | refine W_label ?_ | refine W_exit ?_ | refine W_scope ?_ | refine q_scope ?_ | refine q_scoper ?_ | refine q_scopex ?_) | (with_reducible refine R_nil ?_; try dsimp only [slots0, slots_ud, pt_all, pt_x, pt_y, cv_all, cv_p, cv_a, cv_b, cv_n, cv_g, cv_gx, pt_len, cv_len, rg_len, ren_rl, rl_all, rl_m, rl_len, rl_nil, pt_nil, ptD_all, ptD_nil, ptD_len, cells_U, agg_ud, drop0, dropS, takeS, take0, ud_nil, take_ud, take_ud0, drop_ud, drop_ud0, take_udk, D.cells, D.fz, D.fzs, List.take_succ_cons, List.take_zero, List.drop_succ_cons, List.drop_zero, List.cons_append, List.nil_append, List.append_eq, List.length_cons, List.length_nil, Nat.reduceAdd, Nat.reduceMul, Nat.reduceSub, Int.reduceAdd, Int.reduceSub, Int.reduceToNat, Int.reduceNeg, Int.reduceMul]) | refine q_blocky rfl ?_ | refine W_plain rfl ?_ | refine W_drawn mixed rfl ?_ | refine and_chk (by kernel_rfl) ?_ | refine k_move rfl rfl ?_ | refine k_assign rfl rfl ?_ | refine k_load rfl rfl rfl rfl ?_ | refine k_alloc rfl ?_ | refine k_box rfl rfl rfl ?_ | refine k_store rfl rfl rfl rfl rfl rfl rfl ?_ | refine k_extract rfl rfl rfl ?_ | refine k_fieldAddr rfl rfl rfl ?_ | refine k_build rfl rfl rfl ?_ | refine k_call rfl (Check_ok g) rfl rfl rfl rfl ?_ | refine k_call rfl (p_cmp x p (-1) (Nat.lt_trans hx hp) hp (cmp_m1 hx)) rfl rfl rfl rfl ?_ | refine k_calln rfl (ringOf_ok _ _ _ _ _ _ _) rfl rfl rfl rfl rfl rfl ?_ | refine k_call rfl dv rfl rfl rfl rfl ?_ | refine k_call rfl wa rfl rfl rfl rfl ?_ | refine k_call rfl sd rfl rfl rfl rfl ?_ | refine k_call rfl pw rfl rfl rfl rfl ?_ | refine k_call rfl (take_ok _ _) rfl rfl rfl rfl ?_ | refine k_call rfl ws rfl rfl rfl rfl ?_ | refine k_call rfl hon rfl rfl rfl rfl ?_ | (refine k_rem rfl rfl rfl ?_ t1 ?_; (decide)) | (refine k_rem rfl rfl rfl ?_ t2 ?_; (decide)) | refine k_nea rfl rfl rfl rfl rfl hz ?_ | refine k_neb rfl Tryd.underlying4 rfl rfl rfl ?_ | (refine k_indexAddr rfl rfl rfl ⟨?_, ?_⟩ ?_; (omega); (omega)) | (refine k_indexAddrs rfl rfl rfl ⟨?_, ?_⟩ rfl ?_; (omega); (omega)) | refine k_loade rfl rfl rfl ?_ | refine k_fieldAddre rfl rfl rfl rfl ?_ | refine k_pickT rfl rfl rfl ?_ | refine k_pickF rfl rfl rfl ?_ | refine k_not rfl rfl rfl ?_ | (refine k_geqT rfl rfl rfl ?_ ?_; (omega)) | (refine k_geqF rfl rfl rfl ?_ ?_; (omega)) | (refine k_eqlT rfl rfl rfl ?_ ?_; (omega)) | (refine k_eqlF rfl rfl rfl ?_ ?_; (omega)) | (refine k_neqT rfl rfl rfl ?_ ?_; (omega)) | (refine k_neqF rfl rfl rfl ?_ ?_; (omega)) | refine k_eqa rfl rfl rfl rfl rfl rfl ?_ | refine k_nea rfl rfl rfl rfl rfl rfl ?_ | refine k_skip rfl ?_ | refine k_skip0 rfl ?_ | refine k_pick rfl rfl rfl rfl rfl ?_ | refine W_yes rfl ?_ | refine W_no rfl ?_)
    (first | with_reducible refine q_endr ?_ | with_reducible refine q_endn ?_); refine rets2 Tryd.results42 (by first | exact RetV.tmp _ _ rfl | exact RetV.cell _ _ _ _ _ _ _ _ inferInstance rfl rfl rfl) (by first | exact RetV.tmp _ _ rfl | exact RetV.cell _ _ _ _ _ _ _ _ inferInstance rfl rfl rfl) ?_ ?_
    · rfl
    · rfl

end
end Go.Proofs.YtpdhbddkcnffbaaDoor
