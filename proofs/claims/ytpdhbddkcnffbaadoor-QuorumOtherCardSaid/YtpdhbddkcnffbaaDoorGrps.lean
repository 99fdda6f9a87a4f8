/- The eight small curves are groups, and what the laws' helpers make of them: point, Secret, Mult, curveTells. Conditions: none but that numbers are ints. -/
import Derived.Test.YtpdhbddkcnffbaaDoorGe
import Derived.Test.YtpdhbddkcnffbaaDoorTab
namespace Go.Proofs.YtpdhbddkcnffbaaDoor
open Go.RowKit
set_option linter.unusedVariables false
set_option linter.unusedVariables false
set_option maxRecDepth 100000
--nrm pt_all pt_x pt_y cv_all cv_p cv_a cv_b cv_n cv_g cv_gx pt_len cv_len rg_len ren_rl rl_all rl_m rl_len rl_nil pt_nil ptD_all ptD_nil ptD_len

theorem good_of {p b n gx gy : Nat} (hp : p < 1000) (h3 : 3 < p) (h4 : p % 4 = 3) (hb : b < p) (hn : n < 1000) (h1 : 1 < n) (hd : (4 % p * (0 * (0 * 0 % p) % p) % p + 27 % p * (b * b % p) % p) % p ≠ 0) (hgx : gx < p) (hgy : gy < p) (hon : onN p 0 b gx gy = true) : Good p 0 b n gx gy :=
  ⟨by unfold M256; omega, h3, h4, by omega, hb, by unfold M256; omega, h1, hd, hgx, hgy, hon⟩

section
variable {p b n gx gy : Nat} {T : Nat → P3}

theorem Add_T (G : Grp p b n gx gy T) (i j s : Nat) (hs : T (i + j) = T s) : Pur Tryd.prog 70 [.agg (cv p 0 b n gx gy false), .agg (ptD (T i)), .agg (ptD (T j))] (.tup [.agg (ptD (T s)), .int .i64 0]) := by
  rw [← hs]; exact Add_ok G.good _ _ _ (G.on i) (G.on j) (G.add i j)
theorem Mult_T (G : Grp p b n gx gy T) (k i s : Nat) (hk : k < M256) (hs : T (k * i) = T s) : Pur Tryd.prog 30 [.agg (cv p 0 b n gx gy false), U k, .agg (ptD (T i))] (.tup [.agg (ptD (T s)), .int .i64 0]) := by
  have := Mult_ok G.good (fun j => T (j * i)) k hk (by rw [Nat.zero_mul]; exact G.t0) (by rw [Nat.one_mul]; exact G.on i)
    (fun j _ => by have := G.add (j * i) (j * i); rwa [show j * i + j * i = 2 * j * i from by rw [Nat.mul_assoc, Nat.two_mul]] at this)
    (fun j _ => by have := G.add (2 * j * i) i; rw [show 2 * j * i + i = (2 * j + 1) * i from by rw [Nat.add_mul, Nat.one_mul]] at this; simp only [Nat.one_mul]; exact this)
  simp only [Nat.one_mul] at this
  rw [← hs]; exact this
theorem lim0_small (n : Nat) (h : n < 9223372036854775808) : lim n 0 = n ∧ IntKind.i64.wrap (lim n 0) = n ∧ IntKind.u64.wrap (n : Int) = n := by
  have e : lim n 0 = n := by simp only [lim0]; omega
  rw [e, IntKind.wrap_i64, IntKind.wrap_u64]
  exact ⟨rfl, by omega, by omega⟩

theorem Secret_ok (G : Grp p b n gx gy T) (hn : n < 1000) (h1 : 2 < n) (z : Int) (q : Nat) (hq : z % ((n : Int) - 1) + 1 = q) : Pur Tryd.prog 14 [.agg (cv p 0 b n gx gy false), .int .i64 z] (U q) := by
  have hl := (lim0_small n (by omega)).2.1
  have hqn := Int.emod_lt_of_pos z (show (0 : Int) < n - 1 by omega)
  have hq0 := Int.emod_nonneg z (show (n : Int) - 1 ≠ 0 by omega)
  have hw : IntKind.u64.wrap (z % ((n : Int) - 1)) = z % ((n : Int) - 1) := by rw [IntKind.wrap_u64]; omega
  have hw2 : IntKind.u64.wrap (1 + z % ((n : Int) - 1)) = q := by rw [IntKind.wrap_u64]; omega
  refine pur_intro Tryd.func14 rfl Tryd.ntmps14 rfl (by first | rfl | assumption | exact bs_cl _) fun B => ?_
  repeat (first | with_reducible (first | refine W_seq ?_ | refine q_then ?_ | refine q_thenr ?_ | refine q_thenx ?_ | refine W_block ?_ | refine q_block ?_ | refine q_blockr ?_ | refine q_blockx ?_ | refine W_ret ?_ | refine W_skip ?_ | refine W_label ?_ | refine W_exit ?_ | refine W_scope ?_ | refine q_scope ?_ | refine q_scoper ?_ | refine q_scopex ?_) | (with_reducible refine R_nil ?_; try dsimp only [slots0, slots_ud, pt_all, pt_x, pt_y, cv_all, cv_p, cv_a, cv_b, cv_n, cv_g, cv_gx, pt_len, cv_len, rg_len, ren_rl, rl_all, rl_m, rl_len, rl_nil, pt_nil, ptD_all, ptD_nil, ptD_len, cells_U, agg_ud, drop0, dropS, takeS, take0, ud_nil, take_ud, take_ud0, drop_ud, drop_ud0, take_udk, D.cells, D.fz, D.fzs, List.take_succ_cons, List.take_zero, List.drop_succ_cons, List.drop_zero, List.cons_append, List.nil_append, List.append_eq, List.length_cons, List.length_nil, Nat.reduceAdd, Nat.reduceMul, Nat.reduceSub, Int.reduceAdd, Int.reduceSub, Int.reduceToNat, Int.reduceNeg, Int.reduceMul]) | refine q_blocky rfl ?_ | refine W_plain rfl ?_ | refine W_drawn mixed rfl ?_ | refine and_chk (by kernel_rfl) ?_ | refine k_move rfl rfl ?_ | refine k_load rfl rfl rfl rfl ?_ | refine k_alloc rfl ?_ | refine k_box rfl rfl rfl ?_ | refine k_store rfl rfl rfl rfl rfl rfl rfl ?_ | refine k_fieldAddr rfl rfl rfl ?_ | refine k_build rfl rfl rfl ?_ | refine k_conv rfl rfl hl ?_ | refine k_call rfl (p_picked z (n - 1) _ (by omega) (by omega) rfl) rfl rfl rfl rfl ?_ | refine k_conv rfl rfl hw ?_ | refine k_add rfl rfl rfl hw2 ?_ | (refine k_indexAddr rfl rfl rfl ⟨?_, ?_⟩ ?_; (omega); (omega)) | (refine k_indexAddrs rfl rfl rfl ⟨?_, ?_⟩ rfl ?_; (omega); (omega)) | refine k_loade rfl rfl rfl ?_ | refine k_fieldAddre rfl rfl rfl rfl ?_ | (refine k_addi rfl rfl rfl ?_ ?_; (omega)) | (refine k_subi rfl rfl rfl ?_ ?_; (omega)) | refine W_yes rfl ?_ | refine W_no rfl ?_)
  (first | with_reducible refine q_endr ?_ | with_reducible refine q_endn ?_); refine rets1 Tryd.results14 (by first | exact RetV.tmp _ _ rfl | exact RetV.cell _ _ _ _ _ _ _ _ inferInstance rfl rfl rfl) ?_
  exact (U_lit q (by omega))

end

end Go.Proofs.YtpdhbddkcnffbaaDoor
