/- What try makes of a nonce. Conditions: a small curve; its points' table; numbers below the order. -/
import Derived.Test.YtpdhbddkcnffbaaDoorSgnE
namespace Go.Proofs.YtpdhbddkcnffbaaDoor
open Go.RowKit
set_option linter.unusedVariables false
set_option linter.unusedVariables false
set_option maxRecDepth 100000
--nrm pt_all pt_x pt_y cv_all cv_p cv_a cv_b cv_n cv_g cv_gx pt_len cv_len rg_len ren_rl rl_all rl_m rl_len rl_nil pt_nil ptD_all ptD_nil ptD_len sg_all sg_r sg_s sg_len

/-- what try gives -/
def trD : Option (Nat × Nat × Nat) → D
  | none => .tup [.agg (sg 0 0 0), .bool false, .int .i64 0]
  | some (r, s, o) => .tup [.agg (sg r s o), .bool true, .int .i64 0]

theorem xor_i64 (a : Nat) (h : a < 4) : bitw .xor .i64 (a : Int) 1 = ((a ^^^ 1 : Nat) : Int) := by
  obtain rfl | rfl | rfl | rfl : a = 0 ∨ a = 1 ∨ a = 2 ∨ a = 3 := by omega
  all_goals decide
section
variable {p b n gx gy : Nat} {T : Nat → P3}
theorem try_zero (G : Grp p b n gx gy T) (d z : Nat) : Pur Tryd.prog 35 [.agg (cv p 0 b n gx gy false), U d, U z, U 0] (trD none) := by
  have hq : deqs (ud 0) (ud 0) = true := rfl
  show Pur Tryd.prog 35 [.agg (cv p 0 b n gx gy false), U d, U z, U 0] (.tup [.agg (sg 0 0 0), .bool false, .int .i64 0])
  refine pur_intro Tryd.func35 rfl Tryd.ntmps35 rfl (by first | rfl | assumption | exact bs_cl _) fun B => ?_
  repeat (first | with_reducible (first | refine W_seq ?_ | refine q_then ?_ | refine q_thenr ?_ | refine q_thenx ?_ | refine W_block ?_ | refine q_block ?_ | refine q_blockr ?_ | refine q_blockx ?_ | refine W_ret ?_ | refine W_skip ?_ | refine W_label ?_ | refine W_exit ?_ | refine W_scope ?_ | refine q_scope ?_ | refine q_scoper ?_ | refine q_scopex ?_) | (with_reducible refine R_nil ?_; try dsimp only [slots0, slots_ud, pt_all, pt_x, pt_y, cv_all, cv_p, cv_a, cv_b, cv_n, cv_g, cv_gx, pt_len, cv_len, rg_len, ren_rl, rl_all, rl_m, rl_len, rl_nil, pt_nil, ptD_all, ptD_nil, ptD_len, sg_all, sg_r, sg_s, sg_len, cells_U, agg_ud, drop0, dropS, takeS, take0, ud_nil, take_ud, take_ud0, drop_ud, drop_ud0, take_udk, D.cells, D.fz, D.fzs, List.take_succ_cons, List.take_zero, List.drop_succ_cons, List.drop_zero, List.cons_append, List.nil_append, List.append_eq, List.length_cons, List.length_nil, Nat.reduceAdd, Nat.reduceMul, Nat.reduceSub, Int.reduceAdd, Int.reduceSub, Int.reduceToNat, Int.reduceNeg, Int.reduceMul]) | refine q_blocky rfl ?_ | refine W_plain rfl ?_ | refine W_drawn mixed rfl ?_ | refine and_chk (by kernel_rfl) ?_ | refine k_move rfl rfl ?_ | refine k_assign rfl rfl ?_ | refine k_load rfl rfl rfl rfl ?_ | refine k_alloc rfl ?_ | refine k_box rfl rfl rfl ?_ | refine k_store rfl rfl rfl rfl rfl rfl rfl ?_ | refine k_extract rfl rfl rfl ?_ | refine k_fieldAddr rfl rfl rfl ?_ | refine k_build rfl rfl rfl ?_ | refine k_eqa rfl rfl rfl rfl rfl hq ?_ | (refine k_indexAddr rfl rfl rfl ⟨?_, ?_⟩ ?_; (omega); (omega)) | (refine k_indexAddrs rfl rfl rfl ⟨?_, ?_⟩ rfl ?_; (omega); (omega)) | refine k_loade rfl rfl rfl ?_ | refine k_fieldAddre rfl rfl rfl rfl ?_ | refine k_pickT rfl rfl rfl ?_ | refine k_pickF rfl rfl rfl ?_ | (refine k_addi rfl rfl rfl ?_ ?_; (omega)) | refine k_not rfl rfl rfl ?_ | (refine k_geqT rfl rfl rfl ?_ ?_; (omega)) | (refine k_geqF rfl rfl rfl ?_ ?_; (omega)) | (refine k_eqlT rfl rfl rfl ?_ ?_; (omega)) | (refine k_eqlF rfl rfl rfl ?_ ?_; (omega)) | (refine k_neqT rfl rfl rfl ?_ ?_; (omega)) | (refine k_neqF rfl rfl rfl ?_ ?_; (omega)) | refine k_eqa rfl rfl rfl rfl rfl rfl ?_ | refine k_nea rfl rfl rfl rfl rfl rfl ?_ | refine k_skip rfl ?_ | refine k_skip0 rfl ?_ | refine k_pick rfl rfl rfl rfl rfl ?_ | refine W_yes rfl ?_ | refine W_no rfl ?_)
  (first | with_reducible refine q_endr ?_ | with_reducible refine q_endn ?_); refine rets3 Tryd.results35 (by first | exact RetV.tmp _ _ rfl | exact RetV.cell _ _ _ _ _ _ _ _ inferInstance rfl rfl rfl) (by first | exact RetV.tmp _ _ rfl | exact RetV.cell _ _ _ _ _ _ _ _ inferInstance rfl rfl rfl) (by first | exact RetV.tmp _ _ rfl | exact RetV.cell _ _ _ _ _ _ _ _ inferInstance rfl rfl rfl) ?_ ?_ ?_
  all_goals rfl
set_option maxHeartbeats 8000000 in
theorem try_r0 (G : Grp p b n gx gy T) (hn : n < 1000) (hp : p < 1000) (d z k x y : Nat) (hk : k < n) (hk0 : k ≠ 0) (hT : T k = (x, y, false)) (hx : x < p) (hy : y < p) (hr : x % n = 0) : Pur Tryd.prog 35 [.agg (cv p 0 b n gx gy false), U d, U z, U k] (trD none) := by
  have hM : 2000 < M256 := by decide
  have h1 := G.good.h1
  have hq : deqs (ud k) (ud 0) = false := by rw [deqs_ud _ _ (by omega) (by decide)]; simpa using hk0
  have hm := Mult_T G k 1 k (by omega) (by rw [Nat.mul_one])
  rw [← base_D G, hT] at hm
  have hre := rest_ok x n 0 (by omega) (by omega) (by omega) hr
  have hy2 := tmod2 y
  have hc : IntKind.i64.wrap ((y % 2 : Nat) : Int) = ((y % 2 : Nat) : Int) := Go.IntWalk.i64_in _ (by omega)
  have hq0 : deqs (ud 0) (ud 0) = true := rfl
  show Pur Tryd.prog 35 [.agg (cv p 0 b n gx gy false), U d, U z, U k] (.tup [.agg (sg 0 0 0), .bool false, .int .i64 0])
  refine pur_intro Tryd.func35 rfl Tryd.ntmps35 rfl (by first | rfl | assumption | exact bs_cl _) fun B => ?_
  repeat (first | with_reducible (first | refine W_seq ?_ | refine q_then ?_ | refine q_thenr ?_ | refine q_thenx ?_ | refine W_block ?_ | refine q_block ?_ | refine q_blockr ?_ | refine q_blockx ?_ | refine W_ret ?_ | refine W_skip ?_ | refine W_label ?_ | refine W_exit ?_ | refine W_scope ?_ | refine q_scope ?_ | refine q_scoper ?_ | refine q_scopex ?_) | (with_reducible refine R_nil ?_; try dsimp only [slots0, slots_ud, pt_all, pt_x, pt_y, cv_all, cv_p, cv_a, cv_b, cv_n, cv_g, cv_gx, pt_len, cv_len, rg_len, ren_rl, rl_all, rl_m, rl_len, rl_nil, pt_nil, ptD_all, ptD_nil, ptD_len, sg_all, sg_r, sg_s, sg_len, cells_U, agg_ud, drop0, dropS, takeS, take0, ud_nil, take_ud, take_ud0, drop_ud, drop_ud0, take_udk, D.cells, D.fz, D.fzs, List.take_succ_cons, List.take_zero, List.drop_succ_cons, List.drop_zero, List.cons_append, List.nil_append, List.append_eq, List.length_cons, List.length_nil, Nat.reduceAdd, Nat.reduceMul, Nat.reduceSub, Int.reduceAdd, Int.reduceSub, Int.reduceToNat, Int.reduceNeg, Int.reduceMul]) | refine q_blocky rfl ?_ | refine W_plain rfl ?_ | refine W_drawn mixed rfl ?_ | refine and_chk (by kernel_rfl) ?_ | refine k_move rfl rfl ?_ | refine k_assign rfl rfl ?_ | refine k_load rfl rfl rfl rfl ?_ | refine k_alloc rfl ?_ | refine k_box rfl rfl rfl ?_ | refine k_store rfl rfl rfl rfl rfl rfl rfl ?_ | refine k_extract rfl rfl rfl ?_ | refine k_fieldAddr rfl rfl rfl ?_ | refine k_build rfl rfl rfl ?_ | refine k_eqa rfl rfl rfl rfl rfl hq ?_ | refine k_call rfl hm rfl rfl rfl rfl ?_ | refine k_call rfl hre rfl rfl rfl rfl ?_ | (refine k_rem rfl rfl rfl ?_ hy2 ?_; (decide)) | refine k_conv rfl rfl hc ?_ | refine k_eqa rfl rfl rfl rfl rfl hq0 ?_ | (refine k_indexAddr rfl rfl rfl ⟨?_, ?_⟩ ?_; (omega); (omega)) | (refine k_indexAddrs rfl rfl rfl ⟨?_, ?_⟩ rfl ?_; (omega); (omega)) | refine k_loade rfl rfl rfl ?_ | refine k_fieldAddre rfl rfl rfl rfl ?_ | refine k_pickT rfl rfl rfl ?_ | refine k_pickF rfl rfl rfl ?_ | (refine k_addi rfl rfl rfl ?_ ?_; (omega)) | refine k_not rfl rfl rfl ?_ | (refine k_geqT rfl rfl rfl ?_ ?_; (omega)) | (refine k_geqF rfl rfl rfl ?_ ?_; (omega)) | (refine k_eqlT rfl rfl rfl ?_ ?_; (omega)) | (refine k_eqlF rfl rfl rfl ?_ ?_; (omega)) | (refine k_neqT rfl rfl rfl ?_ ?_; (omega)) | (refine k_neqF rfl rfl rfl ?_ ?_; (omega)) | refine k_eqa rfl rfl rfl rfl rfl rfl ?_ | refine k_nea rfl rfl rfl rfl rfl rfl ?_ | refine k_skip rfl ?_ | refine k_skip0 rfl ?_ | refine k_pick rfl rfl rfl rfl rfl ?_ | refine W_yes rfl ?_ | refine W_no rfl ?_)
  (first | with_reducible refine q_endr ?_ | with_reducible refine q_endn ?_); refine rets3 Tryd.results35 (by first | exact RetV.tmp _ _ rfl | exact RetV.cell _ _ _ _ _ _ _ _ inferInstance rfl rfl rfl) (by first | exact RetV.tmp _ _ rfl | exact RetV.cell _ _ _ _ _ _ _ _ inferInstance rfl rfl rfl) (by first | exact RetV.tmp _ _ rfl | exact RetV.cell _ _ _ _ _ _ _ _ inferInstance rfl rfl rfl) ?_ ?_ ?_
  all_goals rfl
set_option maxHeartbeats 16000000 in
theorem try_at (G : Grp p b n gx gy T) (hn : n < 1000) (hp : p < 1000) (d z k x y r t iv rd su c : Nat) (o1 o2 : Nat) (hd : d < n) (hz : z < n) (hk : k < n) (hk0 : k ≠ 0) (hT : T k = (x, y, false)) (hx : x < p) (hy : y < p) (hr : x % n = r) (hr0 : r ≠ 0) (ge lo : Bool) (hge : decide (n ≤ x) = ge)
    (hiv : iv < n) (hi1 : iv * k % n = 1) (hig : Nat.gcd n k = 1) (hrd : r * d % n = rd) (hsu : (z + rd) % n = su) (ht : iv * su % n = t) (q : D)
    (ho1 : o1 = y % 2 + cond ge 2 0) (hlo : decide (t ≤ n / 2) = lo) (ho2 : o1 ^^^ 1 = o2) (hc : n - t = c)
    (hq : q = cond (decide (t = 0)) (.tup [.agg (sg 0 0 0), .bool false, .int .i64 0]) (cond lo (.tup [.agg (sg r t o1), .bool true, .int .i64 0]) (.tup [.agg (sg r c o2), .bool true, .int .i64 0]))) : Pur Tryd.prog 35 [.agg (cv p 0 b n gx gy false), U d, U z, U k] q := by
  have hM : 2000 < M256 := by decide
  have h1 := G.good.h1
  have h0 : 0 < n := by omega
  have hrn : r < n := by rw [← hr]; exact Nat.mod_lt _ h0
  have hrdn : rd < n := by rw [← hrd]; exact Nat.mod_lt _ h0
  have hsun : su < n := by rw [← hsu]; exact Nat.mod_lt _ h0
  have htn : t < n := by rw [← ht]; exact Nat.mod_lt _ h0
  have hqk : deqs (ud k) (ud 0) = false := by rw [deqs_ud _ _ (by omega) (by decide)]; simpa using hk0
  have hqr : deqs (ud r) (ud 0) = false := by rw [deqs_ud _ _ (by omega) (by decide)]; simpa using hr0
  have hm := Mult_T G k 1 k (by omega) (by rw [Nat.mul_one])
  rw [← base_D G, hT] at hm
  have hre := rest_ok x n r (by omega) (by omega) (by omega) hr
  have hy2 := tmod2 y
  have hcv : IntKind.i64.wrap ((y % 2 : Nat) : Int) = ((y % 2 : Nat) : Int) := Go.IntWalk.i64_in _ (by omega)
  have wi := p_finv k n iv (by omega) hk hiv (by rw [hi1, Nat.mod_eq_of_lt h1]) hig
  have m1 := p_fmul r d n rd (by omega) hrn hd hrd
  have m2 := p_fadd z rd n su (by omega) hz hrdn hsu
  have m3 := p_fmul iv su n t (by omega) hiv hsun ht
  have hcc : ∃ e, cmpI x n = e ∧ decide (e ≥ 0) = ge := by
    rcases Nat.lt_trichotomy x n with h | h | h
    · exact ⟨-1, cmp_m1 h, by rw [← hge]; simp; omega⟩
    · exact ⟨0, cmp_00 h, by rw [← hge]; simp; omega⟩
    · exact ⟨1, cmp_p1 h, by rw [← hge]; simp; omega⟩
  obtain ⟨e, he, hge0⟩ := hcc
  have wc := p_cmp x n e (by omega) (by omega) he
  have hlow := low_ok p 0 b n gx gy t false lo (by omega) (by omega) hlo
  have hsb := p_wsub n t c false (by omega) (by omega) (by rw [← hc, show n + M256 - t = (n - t) + M256 from by omega, Nat.add_mod_right, Nat.mod_eq_of_lt (by omega)]) (by simp; omega)
  have o4 : o1 < 4 := by rw [ho1]; cases ge <;> simp <;> omega
  have hxor := xor_i64 o1 o4
  rw [ho2] at hxor
  have hqt : deqs (ud t) (ud 0) = decide (t = 0) := by rw [deqs_ud _ _ (by omega) (by decide)]
  have hadd : (y % 2 : Nat) + (2 : Int) = ((y % 2 + 2 : Nat) : Int) := by push_cast; rfl
  have hy22 : y % 2 < 2 := Nat.mod_lt _ (by decide)
  have hwr : IntKind.i64.wrap (((y % 2 : Nat) : Int) + 2) = ((y % 2 + 2 : Nat) : Int) := by rw [hadd]; exact Go.IntWalk.i64_in _ (by omega)
  generalize y % 2 = y2 at *
  subst ho1
  by_cases ht0 : t = 0
  · rw [decide_eq_true ht0, cond_true] at hq
    rw [decide_eq_true ht0] at hqt
    subst hq
    cases ge
    all_goals
      simp only [cond_true, cond_false, Nat.add_zero] at hxor
      refine pur_intro Tryd.func35 rfl Tryd.ntmps35 rfl (by first | rfl | assumption | exact bs_cl _) fun B => ?_
      repeat (first | with_reducible (first | refine W_seq ?_ | refine q_then ?_ | refine q_thenr ?_ | refine q_thenx ?_ | refine W_block ?_ | refine q_block ?_ | refine q_blockr ?_ | refine q_blockx ?_ | refine W_ret ?_ | refine W_skip ?_ | refine W_label ?_ | refine W_exit ?_ | refine W_scope ?_ | refine q_scope ?_ | refine q_scoper ?_ | refine q_scopex ?_) | (with_reducible refine R_nil ?_; try dsimp only [slots0, slots_ud, pt_all, pt_x, pt_y, cv_all, cv_p, cv_a, cv_b, cv_n, cv_g, cv_gx, pt_len, cv_len, rg_len, ren_rl, rl_all, rl_m, rl_len, rl_nil, pt_nil, ptD_all, ptD_nil, ptD_len, sg_all, sg_r, sg_s, sg_len, cells_U, agg_ud, drop0, dropS, takeS, take0, ud_nil, take_ud, take_ud0, drop_ud, drop_ud0, take_udk, D.cells, D.fz, D.fzs, List.take_succ_cons, List.take_zero, List.drop_succ_cons, List.drop_zero, List.cons_append, List.nil_append, List.append_eq, List.length_cons, List.length_nil, Nat.reduceAdd, Nat.reduceMul, Nat.reduceSub, Int.reduceAdd, Int.reduceSub, Int.reduceToNat, Int.reduceNeg, Int.reduceMul]) | refine q_blocky rfl ?_ | refine W_plain rfl ?_ | refine W_drawn mixed rfl ?_ | refine and_chk (by kernel_rfl) ?_ | refine k_move rfl rfl ?_ | refine k_assign rfl rfl ?_ | refine k_load rfl rfl rfl rfl ?_ | refine k_alloc rfl ?_ | refine k_box rfl rfl rfl ?_ | refine k_store rfl rfl rfl rfl rfl rfl rfl ?_ | refine k_extract rfl rfl rfl ?_ | refine k_fieldAddr rfl rfl rfl ?_ | refine k_build rfl rfl rfl ?_ | refine k_eqa rfl rfl rfl rfl rfl hqk ?_ | refine k_call rfl hm rfl rfl rfl rfl ?_ | refine k_call rfl hre rfl rfl rfl rfl ?_ | (refine k_rem rfl rfl rfl ?_ hy2 ?_; (decide)) | refine k_conv rfl rfl hcv ?_ | refine k_eqa rfl rfl rfl rfl rfl hqr ?_ | refine k_call rfl wc rfl rfl rfl rfl ?_ | refine k_geq rfl rfl rfl hge0 ?_ | refine k_add rfl rfl rfl hwr ?_ | refine k_call rfl wi rfl rfl rfl rfl ?_ | refine k_call rfl m1 rfl rfl rfl rfl ?_ | refine k_call rfl m2 rfl rfl rfl rfl ?_ | refine k_call rfl m3 rfl rfl rfl rfl ?_ | refine k_eqa rfl rfl rfl rfl rfl hqt ?_ | (refine k_indexAddr rfl rfl rfl ⟨?_, ?_⟩ ?_; (omega); (omega)) | (refine k_indexAddrs rfl rfl rfl ⟨?_, ?_⟩ rfl ?_; (omega); (omega)) | refine k_loade rfl rfl rfl ?_ | refine k_fieldAddre rfl rfl rfl rfl ?_ | refine k_pickT rfl rfl rfl ?_ | refine k_pickF rfl rfl rfl ?_ | (refine k_addi rfl rfl rfl ?_ ?_; (omega)) | refine k_not rfl rfl rfl ?_ | (refine k_geqT rfl rfl rfl ?_ ?_; (omega)) | (refine k_geqF rfl rfl rfl ?_ ?_; (omega)) | (refine k_eqlT rfl rfl rfl ?_ ?_; (omega)) | (refine k_eqlF rfl rfl rfl ?_ ?_; (omega)) | (refine k_neqT rfl rfl rfl ?_ ?_; (omega)) | (refine k_neqF rfl rfl rfl ?_ ?_; (omega)) | refine k_eqa rfl rfl rfl rfl rfl rfl ?_ | refine k_nea rfl rfl rfl rfl rfl rfl ?_ | refine k_skip rfl ?_ | refine k_skip0 rfl ?_ | refine k_pick rfl rfl rfl rfl rfl ?_ | refine W_yes rfl ?_ | refine W_no rfl ?_)
      (first | with_reducible refine q_endr ?_ | with_reducible refine q_endn ?_); refine rets3 Tryd.results35 (by first | exact RetV.tmp _ _ rfl | exact RetV.cell _ _ _ _ _ _ _ _ inferInstance rfl rfl rfl) (by first | exact RetV.tmp _ _ rfl | exact RetV.cell _ _ _ _ _ _ _ _ inferInstance rfl rfl rfl) (by first | exact RetV.tmp _ _ rfl | exact RetV.cell _ _ _ _ _ _ _ _ inferInstance rfl rfl rfl) ?_ ?_ ?_
      all_goals rfl
  · rw [decide_eq_false ht0, cond_false] at hq
    rw [decide_eq_false ht0] at hqt
    subst hq
    cases ge <;> cases lo
    all_goals
      simp only [cond_true, cond_false, Nat.add_zero] at hxor ⊢
      refine pur_intro Tryd.func35 rfl Tryd.ntmps35 rfl (by first | rfl | assumption | exact bs_cl _) fun B => ?_
      repeat (first | with_reducible (first | refine W_seq ?_ | refine q_then ?_ | refine q_thenr ?_ | refine q_thenx ?_ | refine W_block ?_ | refine q_block ?_ | refine q_blockr ?_ | refine q_blockx ?_ | refine W_ret ?_ | refine W_skip ?_ | refine W_label ?_ | refine W_exit ?_ | refine W_scope ?_ | refine q_scope ?_ | refine q_scoper ?_ | refine q_scopex ?_) | (with_reducible refine R_nil ?_; try dsimp only [slots0, slots_ud, pt_all, pt_x, pt_y, cv_all, cv_p, cv_a, cv_b, cv_n, cv_g, cv_gx, pt_len, cv_len, rg_len, ren_rl, rl_all, rl_m, rl_len, rl_nil, pt_nil, ptD_all, ptD_nil, ptD_len, sg_all, sg_r, sg_s, sg_len, cells_U, agg_ud, drop0, dropS, takeS, take0, ud_nil, take_ud, take_ud0, drop_ud, drop_ud0, take_udk, D.cells, D.fz, D.fzs, List.take_succ_cons, List.take_zero, List.drop_succ_cons, List.drop_zero, List.cons_append, List.nil_append, List.append_eq, List.length_cons, List.length_nil, Nat.reduceAdd, Nat.reduceMul, Nat.reduceSub, Int.reduceAdd, Int.reduceSub, Int.reduceToNat, Int.reduceNeg, Int.reduceMul]) | refine q_blocky rfl ?_ | refine W_plain rfl ?_ | refine W_drawn mixed rfl ?_ | refine and_chk (by kernel_rfl) ?_ | refine k_move rfl rfl ?_ | refine k_assign rfl rfl ?_ | refine k_load rfl rfl rfl rfl ?_ | refine k_alloc rfl ?_ | refine k_box rfl rfl rfl ?_ | refine k_store rfl rfl rfl rfl rfl rfl rfl ?_ | refine k_extract rfl rfl rfl ?_ | refine k_fieldAddr rfl rfl rfl ?_ | refine k_build rfl rfl rfl ?_ | refine k_eqa rfl rfl rfl rfl rfl hqk ?_ | refine k_call rfl hm rfl rfl rfl rfl ?_ | refine k_call rfl hre rfl rfl rfl rfl ?_ | (refine k_rem rfl rfl rfl ?_ hy2 ?_; (decide)) | refine k_conv rfl rfl hcv ?_ | refine k_eqa rfl rfl rfl rfl rfl hqr ?_ | refine k_call rfl wc rfl rfl rfl rfl ?_ | refine k_geq rfl rfl rfl hge0 ?_ | refine k_add rfl rfl rfl hwr ?_ | refine k_call rfl wi rfl rfl rfl rfl ?_ | refine k_call rfl m1 rfl rfl rfl rfl ?_ | refine k_call rfl m2 rfl rfl rfl rfl ?_ | refine k_call rfl m3 rfl rfl rfl rfl ?_ | refine k_eqa rfl rfl rfl rfl rfl hqt ?_ | refine k_call rfl hlow rfl rfl rfl rfl ?_ | refine k_call rfl hsb rfl rfl rfl rfl ?_ | refine k_bits rfl rfl rfl rfl hxor ?_ | (refine k_indexAddr rfl rfl rfl ⟨?_, ?_⟩ ?_; (omega); (omega)) | (refine k_indexAddrs rfl rfl rfl ⟨?_, ?_⟩ rfl ?_; (omega); (omega)) | refine k_loade rfl rfl rfl ?_ | refine k_fieldAddre rfl rfl rfl rfl ?_ | refine k_pickT rfl rfl rfl ?_ | refine k_pickF rfl rfl rfl ?_ | (refine k_addi rfl rfl rfl ?_ ?_; (omega)) | refine k_not rfl rfl rfl ?_ | (refine k_geqT rfl rfl rfl ?_ ?_; (omega)) | (refine k_geqF rfl rfl rfl ?_ ?_; (omega)) | (refine k_eqlT rfl rfl rfl ?_ ?_; (omega)) | (refine k_eqlF rfl rfl rfl ?_ ?_; (omega)) | (refine k_neqT rfl rfl rfl ?_ ?_; (omega)) | (refine k_neqF rfl rfl rfl ?_ ?_; (omega)) | refine k_eqa rfl rfl rfl rfl rfl rfl ?_ | refine k_nea rfl rfl rfl rfl rfl rfl ?_ | refine k_skip rfl ?_ | refine k_skip0 rfl ?_ | refine k_pick rfl rfl rfl rfl rfl ?_ | refine W_yes rfl ?_ | refine W_no rfl ?_)
      (first | with_reducible refine q_endr ?_ | with_reducible refine q_endn ?_); refine rets3 Tryd.results35 (by first | exact RetV.tmp _ _ rfl | exact RetV.cell _ _ _ _ _ _ _ _ inferInstance rfl rfl rfl) (by first | exact RetV.tmp _ _ rfl | exact RetV.cell _ _ _ _ _ _ _ _ inferInstance rfl rfl rfl) (by first | exact RetV.tmp _ _ rfl | exact RetV.cell _ _ _ _ _ _ _ _ inferInstance rfl rfl rfl) ?_ ?_ ?_
      all_goals rfl

/-- try, of any nonce -/
theorem try_ok (G : Grp p b n gx gy T) (E : Extra p b n T) (hn : n < 1000) (hp : p < 1000) {iv : Nat → Nat} (hiv : Ivs n iv) (d z k : Nat) (hd : d < n) (hz : z < n) (hk : k < n) : Pur Tryd.prog 35 [.agg (cv p 0 b n gx gy false), U d, U z, U k] (trD (trS n T iv d z k)) := by
  have h1 := G.good.h1
  by_cases hk0 : k = 0
  · subst hk0
    have : trS n T iv d z 0 = none := by unfold trS; rw [if_pos rfl]
    rw [this]
    exact try_zero G d z
  · have hkn : k % n ≠ 0 := by rw [Nat.mod_eq_of_lt hk]; exact hk0
    obtain ⟨x, y, e1, _, hy0, hy, hx⟩ := E.opp k (n - k) (by rw [show k + (n - k) = n from by omega, Nat.mod_self]) hkn
    unfold trS
    rw [if_neg hk0]
    have ex : (T k).1 = x := by rw [e1]
    have ey : (T k).2.1 = y := by rw [e1]
    by_cases hr0 : x % n = 0
    · rw [ex, if_pos hr0]
      exact try_r0 G hn hp d z k x y hk hk0 e1 hx hy hr0
    · rw [ex, if_neg hr0]
      obtain ⟨v1, v2, v3⟩ := hiv k hk hk0
      have et : trN n T iv d z k = iv k * ((z + x % n * d % n) % n) % n := by unfold trN; rw [ex]
      have eo : trO n T k = y % 2 + cond (decide (n ≤ x)) 2 0 := by
        unfold trO; rw [ex, ey]
        by_cases h : n ≤ x
        · rw [if_pos h, decide_eq_true h, cond_true]
        · rw [if_neg h, decide_eq_false h, cond_false]
      refine try_at G hn hp d z k x y (x % n) (trN n T iv d z k) (iv k) _ _ (n - trN n T iv d z k) (trO n T k) (trO n T k ^^^ 1) hd hz hk hk0 e1 hx hy rfl hr0 _ _ rfl v1 v2 v3 rfl rfl et.symm _ eo rfl rfl rfl ?_
      by_cases ht : trN n T iv d z k = 0
      · rw [if_pos ht, decide_eq_true ht]; rfl
      · rw [if_neg ht, decide_eq_false ht, cond_false]
        by_cases hl : trN n T iv d z k ≤ n / 2
        · rw [if_pos hl, decide_eq_true hl]; rfl
        · rw [if_neg hl, decide_eq_false hl]; rfl
end
end Go.Proofs.YtpdhbddkcnffbaaDoor
