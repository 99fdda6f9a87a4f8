/- A curve's equation: what 'small', 'side', 'on' make of numbers. Conditions: the numbers are below the modulus. -/
import Derived.Test.YtpdhbddkcnffbaaDoorCurve1
namespace Go.Proofs.YtpdhbddkcnffbaaDoor
open Go.RowKit
set_option linter.unusedVariables false
set_option linter.unusedVariables false
set_option maxRecDepth 100000
--nrm pt_all pt_x pt_y cv_all cv_p cv_a cv_b cv_n cv_g cv_gx pt_len cv_len rg_len ren_rl rl_all rl_m rl_len rl_nil pt_nil

def sideN (p a b x : Nat) : Nat := ((x * (x * x % p) % p + a * x % p) % p + b) % p
def onN (p a b x y : Nat) : Bool := decide (y * y % p = sideN p a b x)

theorem cmp_m1 {a b : Nat} (h : a < b) : cmpI a b = -1 := by unfold cmpI; rw [if_pos h]
theorem cmp_p1 {a b : Nat} (h : b < a) : cmpI a b = 1 := by unfold cmpI; rw [if_neg (by omega), if_pos h]
theorem cmp_00 {a b : Nat} (h : a = b) : cmpI a b = 0 := by unfold cmpI; rw [if_neg (by omega), if_neg (by omega)]

theorem U_lit (n : Nat) (h : n < 18446744073709551616) : D.agg [.int .u64 (n : Int), .int .u64 0, .int .u64 0, .int .u64 0] = U n := by
  have e : lim n 0 = n ∧ lim n 1 = 0 ∧ lim n 2 = 0 ∧ lim n 3 = 0 := ⟨by simp only [lim0]; omega, by simp only [lim1]; omega, by simp only [lim2]; omega, by simp only [lim3]; omega⟩
  unfold U ud
  rw [e.1, e.2.1, e.2.2.1, e.2.2.2]

/-- a small number, that is told as one limb -/
theorem p_div_small (a b r : Nat) (x : Int) (hx : x = a) (ha : a < 18446744073709551616) (hb : b < M256) (hb0 : 0 < b) (hr : a % b = r) : Pur Tryd.prog 17 [.agg [.int .u64 x, .int .u64 0, .int .u64 0, .int .u64 0], U b] (.tup [U (a / b), U r, .int .i64 0]) := by
  subst hx
  rw [U_lit a ha]
  exact p_div a b _ r (by unfold M256; omega) hb hb0 rfl hr

theorem small_ok (m k r : Nat) (x : Int) (hx : x = k) (hk : k < 18446744073709551616) (hm : m < M256) (h0 : 0 < m) (hr : k % m = r) : Pur Tryd.prog 51 [.agg (rg m), .int .u64 x] (U r) := by
  refine pur_intro Tryd.func51 rfl Tryd.ntmps51 rfl (by first | rfl | assumption | exact bs_cl _) fun B => ?_
  repeat (first | with_reducible (first | refine W_seq ?_ | refine q_then ?_ | refine q_thenr ?_ | refine q_thenx ?_ | refine W_block ?_ | refine q_block ?_ | refine q_blockr ?_ | refine q_blockx ?_ | refine W_ret ?_ | refine W_skip ?_ | refine W_label ?_ | refine W_exit ?_ | refine W_scope ?_ | refine q_scope ?_ | refine q_scoper ?_ | refine q_scopex ?_) | (with_reducible refine R_nil ?_; try dsimp only [slots0, slots_ud, pt_all, pt_x, pt_y, cv_all, cv_p, cv_a, cv_b, cv_n, cv_g, cv_gx, pt_len, cv_len, rg_len, ren_rl, rl_all, rl_m, rl_len, rl_nil, pt_nil, cells_U, agg_ud, drop0, dropS, takeS, take0, ud_nil, take_ud, take_ud0, drop_ud, drop_ud0, take_udk, D.cells, D.fz, D.fzs, List.take_succ_cons, List.take_zero, List.drop_succ_cons, List.drop_zero, List.cons_append, List.nil_append, List.append_eq, List.length_cons, List.length_nil, Nat.reduceAdd, Nat.reduceMul, Nat.reduceSub, Int.reduceAdd, Int.reduceSub, Int.reduceToNat, Int.reduceNeg, Int.reduceMul]) | refine q_blocky rfl ?_ | refine W_plain rfl ?_ | refine W_drawn mixed rfl ?_ | refine and_chk (by kernel_rfl) ?_ | refine k_move rfl rfl ?_ | refine k_assign rfl rfl ?_ | refine k_load rfl rfl rfl rfl ?_ | refine k_alloc rfl ?_ | refine k_box rfl rfl rfl ?_ | refine k_store rfl rfl rfl rfl rfl rfl rfl ?_ | refine k_extract rfl rfl rfl ?_ | refine k_fieldAddr rfl rfl rfl ?_ | refine k_build rfl rfl rfl ?_ | refine k_call rfl (p_div_small k _ _ _ hx hk hm h0 hr) rfl rfl rfl rfl ?_ | refine k_loade rfl rfl rfl ?_ | refine k_fieldAddre rfl rfl rfl rfl ?_ | refine W_yes rfl ?_ | refine W_no rfl ?_)
  (first | with_reducible refine q_endr ?_ | with_reducible refine q_endn ?_); refine rets1 Tryd.results51 (by first | exact RetV.tmp _ _ rfl | exact RetV.cell _ _ _ _ _ _ _ _ inferInstance rfl rfl rfl) ?_
  rfl

theorem side_ok (p a b n gx gy x r : Nat) (f : Bool) (hp : p < M256) (h0 : 0 < p) (ha : a < p) (hb : b < p) (hx : x < p) (hr : sideN p a b x = r) : Pur Tryd.prog 65 [.agg (cv p a b n gx gy f), .agg (rg p), U x] (U r) := by
  subst hr
  refine pur_intro Tryd.func65 rfl Tryd.ntmps65 rfl (by first | rfl | assumption | exact bs_cl _) fun B => ?_
  repeat (first | with_reducible (first | refine W_seq ?_ | refine q_then ?_ | refine q_thenr ?_ | refine q_thenx ?_ | refine W_block ?_ | refine q_block ?_ | refine q_blockr ?_ | refine q_blockx ?_ | refine W_ret ?_ | refine W_skip ?_ | refine W_label ?_ | refine W_exit ?_ | refine W_scope ?_ | refine q_scope ?_ | refine q_scoper ?_ | refine q_scopex ?_) | (with_reducible refine R_nil ?_; try dsimp only [slots0, slots_ud, pt_all, pt_x, pt_y, cv_all, cv_p, cv_a, cv_b, cv_n, cv_g, cv_gx, pt_len, cv_len, rg_len, ren_rl, rl_all, rl_m, rl_len, rl_nil, pt_nil, cells_U, agg_ud, drop0, dropS, takeS, take0, ud_nil, take_ud, take_ud0, drop_ud, drop_ud0, take_udk, D.cells, D.fz, D.fzs, List.take_succ_cons, List.take_zero, List.drop_succ_cons, List.drop_zero, List.cons_append, List.nil_append, List.append_eq, List.length_cons, List.length_nil, Nat.reduceAdd, Nat.reduceMul, Nat.reduceSub, Int.reduceAdd, Int.reduceSub, Int.reduceToNat, Int.reduceNeg, Int.reduceMul]) | refine q_blocky rfl ?_ | refine W_plain rfl ?_ | refine W_drawn mixed rfl ?_ | refine and_chk (by kernel_rfl) ?_ | refine k_load rfl rfl rfl rfl ?_ | refine k_alloc rfl ?_ | refine k_box rfl rfl rfl ?_ | refine k_store rfl rfl rfl rfl rfl rfl rfl ?_ | refine k_fieldAddr rfl rfl rfl ?_ | refine k_call rfl (rmul _ _ _ _ hp (by first | assumption | exact Nat.mod_lt _ h0) (by first | assumption | exact Nat.mod_lt _ h0) rfl) rfl rfl rfl rfl ?_ | refine k_call rfl (radd _ _ _ _ hp (by first | assumption | exact Nat.mod_lt _ h0) (by first | assumption | exact Nat.mod_lt _ h0) rfl) rfl rfl rfl rfl ?_ | refine k_loade rfl rfl rfl ?_ | refine k_fieldAddre rfl rfl rfl rfl ?_ | refine W_yes rfl ?_ | refine W_no rfl ?_)
  (first | with_reducible refine q_endr ?_ | with_reducible refine q_endn ?_); refine rets1 Tryd.results65 (by first | exact RetV.tmp _ _ rfl | exact RetV.cell _ _ _ _ _ _ _ _ inferInstance rfl rfl rfl) ?_
  rfl

theorem on_ok (p a b n gx gy x y : Nat) (f : Bool) (hp : p < M256) (h0 : 0 < p) (ha : a < p) (hb : b < p) (hx : x < p) (hy : y < p) : Pur Tryd.prog 53 [.agg (cv p a b n gx gy f), .agg (pt x y false)] (.bool (onN p a b x y)) := by
  refine pur_intro Tryd.func53 rfl Tryd.ntmps53 rfl (by first | rfl | assumption | exact bs_cl _) fun B => ?_
  repeat (first | with_reducible (first | refine W_seq ?_ | refine q_then ?_ | refine q_thenr ?_ | refine q_thenx ?_ | refine W_block ?_ | refine q_block ?_ | refine q_blockr ?_ | refine q_blockx ?_ | refine W_ret ?_ | refine W_skip ?_ | refine W_label ?_ | refine W_exit ?_ | refine W_scope ?_ | refine q_scope ?_ | refine q_scoper ?_ | refine q_scopex ?_) | (with_reducible refine R_nil ?_; try dsimp only [slots0, slots_ud, pt_all, pt_x, pt_y, cv_all, cv_p, cv_a, cv_b, cv_n, cv_g, cv_gx, pt_len, cv_len, rg_len, ren_rl, rl_all, rl_m, rl_len, rl_nil, pt_nil, cells_U, agg_ud, drop0, dropS, takeS, take0, ud_nil, take_ud, take_ud0, drop_ud, drop_ud0, take_udk, D.cells, D.fz, D.fzs, List.take_succ_cons, List.take_zero, List.drop_succ_cons, List.drop_zero, List.cons_append, List.nil_append, List.append_eq, List.length_cons, List.length_nil, Nat.reduceAdd, Nat.reduceMul, Nat.reduceSub, Int.reduceAdd, Int.reduceSub, Int.reduceToNat, Int.reduceNeg, Int.reduceMul]) | refine q_blocky rfl ?_ | refine W_plain rfl ?_ | refine W_drawn mixed rfl ?_ | refine and_chk (by kernel_rfl) ?_ | refine k_move rfl rfl ?_ | refine k_assign rfl rfl ?_ | refine k_load rfl rfl rfl rfl ?_ | refine k_alloc rfl ?_ | refine k_box rfl rfl rfl ?_ | refine k_store rfl rfl rfl rfl rfl rfl rfl ?_ | refine k_fieldAddr rfl rfl rfl ?_ | refine k_build rfl rfl rfl ?_ | refine k_call rfl (p_cmp _ _ (-1) (Nat.lt_trans hx hp) hp (cmp_m1 hx)) rfl rfl rfl rfl ?_ | refine k_call rfl (p_cmp _ _ (-1) (Nat.lt_trans hy hp) hp (cmp_m1 hy)) rfl rfl rfl rfl ?_ | refine k_calln rfl (ringOf_ok _ _ _ _ _ _ _) rfl rfl rfl rfl rfl rfl ?_ | refine k_call rfl (rmul _ _ _ _ hp hy hy rfl) rfl rfl rfl rfl ?_ | refine k_call rfl (side_ok _ _ _ _ _ _ _ _ _ hp h0 ha hb hx rfl) rfl rfl rfl rfl ?_ | refine k_loade rfl rfl rfl ?_ | refine k_fieldAddre rfl rfl rfl rfl ?_ | refine k_pickT rfl rfl rfl ?_ | refine k_pickF rfl rfl rfl ?_ | (refine k_geqT rfl rfl rfl ?_ ?_; (omega)) | (refine k_geqF rfl rfl rfl ?_ ?_; (omega)) | (refine k_eqlT rfl rfl rfl ?_ ?_; (omega)) | (refine k_eqlF rfl rfl rfl ?_ ?_; (omega)) | refine k_eqa rfl rfl rfl rfl rfl rfl ?_ | refine k_skip rfl ?_ | refine k_skip0 rfl ?_ | refine k_pick rfl rfl rfl rfl rfl ?_ | refine W_yes rfl ?_ | refine W_no rfl ?_)
  (first | with_reducible refine q_endr ?_ | with_reducible refine q_endn ?_); refine rets1 Tryd.results53 (by first | exact RetV.tmp _ _ rfl | exact RetV.cell _ _ _ _ _ _ _ _ inferInstance rfl rfl rfl) ?_
  show D.bool _ = _
  have hs : sideN p a b x < p := Nat.mod_lt _ h0
  rw [deqs_ud _ _ (Nat.lt_trans (Nat.mod_lt _ h0) hp) (Nat.lt_trans hs hp)]
  rfl
theorem on_far (p a b n gx gy : Nat) (f : Bool) : Pur Tryd.prog 53 [.agg (cv p a b n gx gy f), .agg (pt 0 0 true)] (.bool true) := by
  refine pur_intro Tryd.func53 rfl Tryd.ntmps53 rfl (by first | rfl | assumption | exact bs_cl _) fun B => ?_
  repeat (first | with_reducible (first | refine W_seq ?_ | refine q_then ?_ | refine q_thenr ?_ | refine q_thenx ?_ | refine W_block ?_ | refine q_block ?_ | refine q_blockr ?_ | refine q_blockx ?_ | refine W_ret ?_ | refine W_skip ?_ | refine W_label ?_ | refine W_exit ?_ | refine W_scope ?_ | refine q_scope ?_ | refine q_scoper ?_ | refine q_scopex ?_) | (with_reducible refine R_nil ?_; try dsimp only [slots0, slots_ud, pt_all, pt_x, pt_y, cv_all, cv_p, cv_a, cv_b, cv_n, cv_g, cv_gx, pt_len, cv_len, rg_len, ren_rl, rl_all, rl_m, rl_len, rl_nil, pt_nil, cells_U, agg_ud, drop0, dropS, takeS, take0, ud_nil, take_ud, take_ud0, drop_ud, drop_ud0, take_udk, D.cells, D.fz, D.fzs, List.take_succ_cons, List.take_zero, List.drop_succ_cons, List.drop_zero, List.cons_append, List.nil_append, List.append_eq, List.length_cons, List.length_nil, Nat.reduceAdd, Nat.reduceMul, Nat.reduceSub, Int.reduceAdd, Int.reduceSub, Int.reduceToNat, Int.reduceNeg, Int.reduceMul]) | refine q_blocky rfl ?_ | refine W_plain rfl ?_ | refine W_drawn mixed rfl ?_ | refine and_chk (by kernel_rfl) ?_ | refine k_move rfl rfl ?_ | refine k_assign rfl rfl ?_ | refine k_load rfl rfl rfl rfl ?_ | refine k_alloc rfl ?_ | refine k_box rfl rfl rfl ?_ | refine k_store rfl rfl rfl rfl rfl rfl rfl ?_ | refine k_fieldAddr rfl rfl rfl ?_ | refine k_build rfl rfl rfl ?_ | refine k_eqa rfl rfl rfl rfl rfl (show deqs (ud 0) (ud 0) = true from rfl) ?_ | refine k_loade rfl rfl rfl ?_ | refine k_fieldAddre rfl rfl rfl rfl ?_ | refine k_pickT rfl rfl rfl ?_ | refine k_pickF rfl rfl rfl ?_ | (refine k_geqT rfl rfl rfl ?_ ?_; (omega)) | (refine k_geqF rfl rfl rfl ?_ ?_; (omega)) | (refine k_eqlT rfl rfl rfl ?_ ?_; (omega)) | (refine k_eqlF rfl rfl rfl ?_ ?_; (omega)) | refine k_eqa rfl rfl rfl rfl rfl rfl ?_ | refine k_skip rfl ?_ | refine k_skip0 rfl ?_ | refine k_pick rfl rfl rfl rfl rfl ?_ | refine W_yes rfl ?_ | refine W_no rfl ?_)
  (first | with_reducible refine q_endr ?_ | with_reducible refine q_endn ?_); refine rets1 Tryd.results53 (by first | exact RetV.tmp _ _ rfl | exact RetV.cell _ _ _ _ _ _ _ _ inferInstance rfl rfl rfl) ?_
  rfl

/-- a curve that may be -/
structure Good (p a b n gx gy : Nat) : Prop where
  hp : p < M256
  h3 : 3 < p
  h4 : p % 4 = 3
  ha : a < p
  hb : b < p
  hn : n < M256
  h1 : 1 < n
  hd : (4 % p * (a * (a * a % p) % p) % p + 27 % p * (b * b % p) % p) % p ≠ 0
  hgx : gx < p
  hgy : gy < p
  hon : onN p a b gx gy = true

theorem low4 (p : Nat) (h : p % 4 = 3) : (lim p 0).tmod 4 = 3 := by
  simp only [lim0]
  rw [Int.tmod_eq_emod_of_nonneg (by omega)]; omega
end Go.Proofs.YtpdhbddkcnffbaaDoor
