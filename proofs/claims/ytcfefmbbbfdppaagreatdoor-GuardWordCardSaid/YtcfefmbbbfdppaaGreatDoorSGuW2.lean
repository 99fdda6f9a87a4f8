/- guard.same, guard.Sign. Conditions: as said. -/
import Derived.Test.YtcfefmbbbfdppaaGreatDoorSBytes
import Derived.Test.YtcfefmbbbfdppaaGreatDoorSBit
import Derived.Test.YtcfefmbbbfdppaaGreatDoorSDCpy
import Derived.Test.YtcfefmbbbfdppaaGreatDoorSSgn4
namespace Go.Proofs.YtcfefmbbbfdppaaGreatDoor
open Go.RowKit Go.Lib Go.IntWalk
set_option linter.unusedVariables false
set_option maxRecDepth 100000
--nrm pt_all pt_x pt_y cv_all cv_p cv_a cv_b cv_n cv_g cv_gx pt_len cv_len rg_len ren_rl rl_all rl_m rl_len rl_nil pt_nil ptD_all ptD_nil ptD_len sg_all sg_r sg_s sg_len
set_option maxHeartbeats 8000000 in
theorem gsame_ok (a b : BodyT) (ha : a.e.length = 32) (hb : b.e.length = 32) (c : Bool) (hc : c = true ↔ a = b) : Pur Tryz.prog 23 [.agg a.cells, .agg b.cells] (.bool c) := by
  obtain ⟨c1, h1⟩ : ∃ c1, decide ((a.t : Int) = b.t) = c1 := ⟨_, rfl⟩
  obtain ⟨c2, h2⟩ : ∃ c1, decide ((a.n : Int) = b.n) = c1 := ⟨_, rfl⟩
  obtain ⟨c3, h3⟩ : ∃ c1, decide ((a.c : Int) = b.c) = c1 := ⟨_, rfl⟩
  obtain ⟨c4, h4⟩ : ∃ c1, deqs (bs a.e) (bs b.e) = c1 := ⟨_, rfl⟩
  obtain ⟨c5, h5⟩ : ∃ c1, decide ((a.u : Int) = b.u) = c1 := ⟨_, rfl⟩
  obtain ⟨c6, h6⟩ : ∃ c1, decide ((a.v : Int) = b.v) = c1 := ⟨_, rfl⟩
  obtain ⟨c7, h7⟩ : ∃ c1, ((⟨a.l.toArray⟩ : ByteArray).toList == (⟨b.l.toArray⟩ : ByteArray).toList) = c1 := ⟨_, rfl⟩
  have hcc : c = (c1 && c2 && c3 && c4 && c5 && c6 && c7) := by
    rw [← h1, ← h2, ← h3, ← h4, ← h5, ← h6, ← h7, ba_mk, ba_mk, deqs_bs _ _ (by rw [ha, hb])]
    rw [Bool.eq_iff_iff, hc]
    cases a; cases b
    simp only [decide_eq_true_eq, BodyT.mk.injEq, Bool.and_eq_true, beq_iff_eq, Int.natCast_inj]
    grind
  clear hc
  subst hcc
  have k1 := lks_bs 32 a.e ha
  have k2 := lks_bs 32 b.e hb
  have la := bd_len ha
  have lb := bd_len hb
  have pa := bd_put ha
  have pb := bd_put hb
  have ua := bd_at ha 0 _ rfl
  have va := bd_at ha 1 _ rfl
  have da := bd_at ha 2 _ rfl
  have ea := bd_e ha
  have ub := bd_at hb 0 _ rfl
  have vb := bd_at hb 1 _ rfl
  have db := bd_at hb 2 _ rfl
  have eb := bd_e hb
  have t_ : ∀ (b : BodyT) ze, cut ⟨false, 1, ze⟩ 0 b.cells = some (.int .i64 b.t) := fun _ _ => rfl
  have n_ : ∀ (b : BodyT) ze, cut ⟨false, 1, ze⟩ 1 b.cells = some (.int .i64 b.n) := fun _ _ => rfl
  have c_ : ∀ (b : BodyT) ze, cut ⟨false, 1, ze⟩ 2 b.cells = some (.int .i64 b.c) := fun _ _ => rfl
  have ta := t_ a; have tb := t_ b; have na := n_ a; have nb := n_ b; have ca := c_ a; have cb := c_ b
  clear t_ n_ c_
  generalize a.cells = x at *
  generalize b.cells = y at *
  refine pur_intro Tryz.func23 rfl Tryz.ntmps23 rfl (by first | rfl | assumption | exact bs_cl _) fun B => ?_
  repeat (first | (with_reducible refine R_nil ?_; try dsimp only [slots0, slots_ud, pt_all, pt_x, pt_y, cv_all, cv_p, cv_a, cv_b, cv_n, cv_g, cv_gx, pt_len, cv_len, rg_len, ren_rl, rl_all, rl_m, rl_len, rl_nil, pt_nil, ptD_all, ptD_nil, ptD_len, sg_all, sg_r, sg_s, sg_len, cells_U, agg_ud, drop0, dropS, takeS, take0, ud_nil, take_ud, take_ud0, drop_ud, drop_ud0, take_udk, D.cells, D.fz, D.fzs, List.take_succ_cons, List.take_zero, List.drop_succ_cons, List.drop_zero, List.cons_append, List.nil_append, List.append_eq, List.length_cons, List.length_nil, Nat.reduceAdd, Nat.reduceMul, Nat.reduceSub, Int.reduceAdd, Int.reduceSub, Int.reduceToNat, Int.reduceNeg, Int.reduceMul]) | refine zC ?_ | refine k_load rfl rfl rfl (ta _) ?_ | refine k_load rfl rfl rfl (tb _) ?_ | refine zA ?_ | refine k_eql rfl rfl rfl h1 ?_ | refine zB ?_)
  cases c1
  · repeat (first | (with_reducible refine R_nil ?_; try dsimp only [slots0, slots_ud, pt_all, pt_x, pt_y, cv_all, cv_p, cv_a, cv_b, cv_n, cv_g, cv_gx, pt_len, cv_len, rg_len, ren_rl, rl_all, rl_m, rl_len, rl_nil, pt_nil, ptD_all, ptD_nil, ptD_len, sg_all, sg_r, sg_s, sg_len, cells_U, agg_ud, drop0, dropS, takeS, take0, ud_nil, take_ud, take_ud0, drop_ud, drop_ud0, take_udk, D.cells, D.fz, D.fzs, List.take_succ_cons, List.take_zero, List.drop_succ_cons, List.drop_zero, List.cons_append, List.nil_append, List.append_eq, List.length_cons, List.length_nil, Nat.reduceAdd, Nat.reduceMul, Nat.reduceSub, Int.reduceAdd, Int.reduceSub, Int.reduceToNat, Int.reduceNeg, Int.reduceMul]) | refine zC ?_ | refine zAB ?_)
    (first | with_reducible refine q_endr ?_); refine rets1 Tryz.results23 (by exact zv) ?_
    rfl
  repeat (first | (with_reducible refine R_nil ?_; try dsimp only [slots0, slots_ud, pt_all, pt_x, pt_y, cv_all, cv_p, cv_a, cv_b, cv_n, cv_g, cv_gx, pt_len, cv_len, rg_len, ren_rl, rl_all, rl_m, rl_len, rl_nil, pt_nil, ptD_all, ptD_nil, ptD_len, sg_all, sg_r, sg_s, sg_len, cells_U, agg_ud, drop0, dropS, takeS, take0, ud_nil, take_ud, take_ud0, drop_ud, drop_ud0, take_udk, D.cells, D.fz, D.fzs, List.take_succ_cons, List.take_zero, List.drop_succ_cons, List.drop_zero, List.cons_append, List.nil_append, List.append_eq, List.length_cons, List.length_nil, Nat.reduceAdd, Nat.reduceMul, Nat.reduceSub, Int.reduceAdd, Int.reduceSub, Int.reduceToNat, Int.reduceNeg, Int.reduceMul]) | refine zC ?_ | refine k_load rfl rfl rfl (na _) ?_ | refine k_load rfl rfl rfl (nb _) ?_ | refine zA ?_ | refine k_eql rfl rfl rfl h2 ?_ | refine zB ?_)
  cases c2
  · repeat (first | (with_reducible refine R_nil ?_; try dsimp only [slots0, slots_ud, pt_all, pt_x, pt_y, cv_all, cv_p, cv_a, cv_b, cv_n, cv_g, cv_gx, pt_len, cv_len, rg_len, ren_rl, rl_all, rl_m, rl_len, rl_nil, pt_nil, ptD_all, ptD_nil, ptD_len, sg_all, sg_r, sg_s, sg_len, cells_U, agg_ud, drop0, dropS, takeS, take0, ud_nil, take_ud, take_ud0, drop_ud, drop_ud0, take_udk, D.cells, D.fz, D.fzs, List.take_succ_cons, List.take_zero, List.drop_succ_cons, List.drop_zero, List.cons_append, List.nil_append, List.append_eq, List.length_cons, List.length_nil, Nat.reduceAdd, Nat.reduceMul, Nat.reduceSub, Int.reduceAdd, Int.reduceSub, Int.reduceToNat, Int.reduceNeg, Int.reduceMul]) | refine zC ?_ | refine zAB ?_)
    (first | with_reducible refine q_endr ?_); refine rets1 Tryz.results23 (by exact zv) ?_
    rfl
  repeat (first | (with_reducible refine R_nil ?_; try dsimp only [slots0, slots_ud, pt_all, pt_x, pt_y, cv_all, cv_p, cv_a, cv_b, cv_n, cv_g, cv_gx, pt_len, cv_len, rg_len, ren_rl, rl_all, rl_m, rl_len, rl_nil, pt_nil, ptD_all, ptD_nil, ptD_len, sg_all, sg_r, sg_s, sg_len, cells_U, agg_ud, drop0, dropS, takeS, take0, ud_nil, take_ud, take_ud0, drop_ud, drop_ud0, take_udk, D.cells, D.fz, D.fzs, List.take_succ_cons, List.take_zero, List.drop_succ_cons, List.drop_zero, List.cons_append, List.nil_append, List.append_eq, List.length_cons, List.length_nil, Nat.reduceAdd, Nat.reduceMul, Nat.reduceSub, Int.reduceAdd, Int.reduceSub, Int.reduceToNat, Int.reduceNeg, Int.reduceMul]) | refine zC ?_ | refine k_load rfl rfl rfl (ca _) ?_ | refine k_load rfl rfl rfl (cb _) ?_ | refine zA ?_ | refine k_eql rfl rfl rfl h3 ?_ | refine zB ?_)
  cases c3
  · repeat (first | (with_reducible refine R_nil ?_; try dsimp only [slots0, slots_ud, pt_all, pt_x, pt_y, cv_all, cv_p, cv_a, cv_b, cv_n, cv_g, cv_gx, pt_len, cv_len, rg_len, ren_rl, rl_all, rl_m, rl_len, rl_nil, pt_nil, ptD_all, ptD_nil, ptD_len, sg_all, sg_r, sg_s, sg_len, cells_U, agg_ud, drop0, dropS, takeS, take0, ud_nil, take_ud, take_ud0, drop_ud, drop_ud0, take_udk, D.cells, D.fz, D.fzs, List.take_succ_cons, List.take_zero, List.drop_succ_cons, List.drop_zero, List.cons_append, List.nil_append, List.append_eq, List.length_cons, List.length_nil, Nat.reduceAdd, Nat.reduceMul, Nat.reduceSub, Int.reduceAdd, Int.reduceSub, Int.reduceToNat, Int.reduceNeg, Int.reduceMul]) | refine zC ?_ | refine zAB ?_)
    (first | with_reducible refine q_endr ?_); refine rets1 Tryz.results23 (by exact zv) ?_
    rfl
  repeat (first | (with_reducible refine R_nil ?_; try dsimp only [slots0, slots_ud, pt_all, pt_x, pt_y, cv_all, cv_p, cv_a, cv_b, cv_n, cv_g, cv_gx, pt_len, cv_len, rg_len, ren_rl, rl_all, rl_m, rl_len, rl_nil, pt_nil, ptD_all, ptD_nil, ptD_len, sg_all, sg_r, sg_s, sg_len, cells_U, agg_ud, drop0, dropS, takeS, take0, ud_nil, take_ud, take_ud0, drop_ud, drop_ud0, take_udk, D.cells, D.fz, D.fzs, List.take_succ_cons, List.take_zero, List.drop_succ_cons, List.drop_zero, List.cons_append, List.nil_append, List.append_eq, List.length_cons, List.length_nil, Nat.reduceAdd, Nat.reduceMul, Nat.reduceSub, Int.reduceAdd, Int.reduceSub, Int.reduceToNat, Int.reduceNeg, Int.reduceMul]) | refine zC ?_ | refine k_load rfl rfl rfl (ea _) ?_ | refine k_load rfl rfl rfl (eb _) ?_ | refine zA ?_ | refine k_eqa rfl rfl rfl k1 k2 h4 ?_ | refine zB ?_)
  cases c4
  · repeat (first | (with_reducible refine R_nil ?_; try dsimp only [slots0, slots_ud, pt_all, pt_x, pt_y, cv_all, cv_p, cv_a, cv_b, cv_n, cv_g, cv_gx, pt_len, cv_len, rg_len, ren_rl, rl_all, rl_m, rl_len, rl_nil, pt_nil, ptD_all, ptD_nil, ptD_len, sg_all, sg_r, sg_s, sg_len, cells_U, agg_ud, drop0, dropS, takeS, take0, ud_nil, take_ud, take_ud0, drop_ud, drop_ud0, take_udk, D.cells, D.fz, D.fzs, List.take_succ_cons, List.take_zero, List.drop_succ_cons, List.drop_zero, List.cons_append, List.nil_append, List.append_eq, List.length_cons, List.length_nil, Nat.reduceAdd, Nat.reduceMul, Nat.reduceSub, Int.reduceAdd, Int.reduceSub, Int.reduceToNat, Int.reduceNeg, Int.reduceMul]) | refine zC ?_ | refine zAB ?_)
    (first | with_reducible refine q_endr ?_); refine rets1 Tryz.results23 (by exact zv) ?_
    rfl
  repeat (first | (with_reducible refine R_nil ?_; try dsimp only [slots0, slots_ud, pt_all, pt_x, pt_y, cv_all, cv_p, cv_a, cv_b, cv_n, cv_g, cv_gx, pt_len, cv_len, rg_len, ren_rl, rl_all, rl_m, rl_len, rl_nil, pt_nil, ptD_all, ptD_nil, ptD_len, sg_all, sg_r, sg_s, sg_len, cells_U, agg_ud, drop0, dropS, takeS, take0, ud_nil, take_ud, take_ud0, drop_ud, drop_ud0, take_udk, D.cells, D.fz, D.fzs, List.take_succ_cons, List.take_zero, List.drop_succ_cons, List.drop_zero, List.cons_append, List.nil_append, List.append_eq, List.length_cons, List.length_nil, Nat.reduceAdd, Nat.reduceMul, Nat.reduceSub, Int.reduceAdd, Int.reduceSub, Int.reduceToNat, Int.reduceNeg, Int.reduceMul]) | refine zC ?_ | refine k_load rfl rfl rfl (by exact ua _ _ rfl) ?_ | refine k_load rfl rfl rfl (by exact ub _ _ rfl) ?_ | refine zA ?_ | refine k_eql rfl rfl rfl h5 ?_ | refine zB ?_)
  cases c5
  · repeat (first | (with_reducible refine R_nil ?_; try dsimp only [slots0, slots_ud, pt_all, pt_x, pt_y, cv_all, cv_p, cv_a, cv_b, cv_n, cv_g, cv_gx, pt_len, cv_len, rg_len, ren_rl, rl_all, rl_m, rl_len, rl_nil, pt_nil, ptD_all, ptD_nil, ptD_len, sg_all, sg_r, sg_s, sg_len, cells_U, agg_ud, drop0, dropS, takeS, take0, ud_nil, take_ud, take_ud0, drop_ud, drop_ud0, take_udk, D.cells, D.fz, D.fzs, List.take_succ_cons, List.take_zero, List.drop_succ_cons, List.drop_zero, List.cons_append, List.nil_append, List.append_eq, List.length_cons, List.length_nil, Nat.reduceAdd, Nat.reduceMul, Nat.reduceSub, Int.reduceAdd, Int.reduceSub, Int.reduceToNat, Int.reduceNeg, Int.reduceMul]) | refine zC ?_ | refine zAB ?_)
    (first | with_reducible refine q_endr ?_); refine rets1 Tryz.results23 (by exact zv) ?_
    rfl
  repeat (first | (with_reducible refine R_nil ?_; try dsimp only [slots0, slots_ud, pt_all, pt_x, pt_y, cv_all, cv_p, cv_a, cv_b, cv_n, cv_g, cv_gx, pt_len, cv_len, rg_len, ren_rl, rl_all, rl_m, rl_len, rl_nil, pt_nil, ptD_all, ptD_nil, ptD_len, sg_all, sg_r, sg_s, sg_len, cells_U, agg_ud, drop0, dropS, takeS, take0, ud_nil, take_ud, take_ud0, drop_ud, drop_ud0, take_udk, D.cells, D.fz, D.fzs, List.take_succ_cons, List.take_zero, List.drop_succ_cons, List.drop_zero, List.cons_append, List.nil_append, List.append_eq, List.length_cons, List.length_nil, Nat.reduceAdd, Nat.reduceMul, Nat.reduceSub, Int.reduceAdd, Int.reduceSub, Int.reduceToNat, Int.reduceNeg, Int.reduceMul]) | refine zC ?_ | refine k_load rfl rfl rfl (by exact va _ _ rfl) ?_ | refine k_load rfl rfl rfl (by exact vb _ _ rfl) ?_ | refine zA ?_ | refine k_eql rfl rfl rfl h6 ?_ | refine zB ?_)
  cases c6
  · repeat (first | (with_reducible refine R_nil ?_; try dsimp only [slots0, slots_ud, pt_all, pt_x, pt_y, cv_all, cv_p, cv_a, cv_b, cv_n, cv_g, cv_gx, pt_len, cv_len, rg_len, ren_rl, rl_all, rl_m, rl_len, rl_nil, pt_nil, ptD_all, ptD_nil, ptD_len, sg_all, sg_r, sg_s, sg_len, cells_U, agg_ud, drop0, dropS, takeS, take0, ud_nil, take_ud, take_ud0, drop_ud, drop_ud0, take_udk, D.cells, D.fz, D.fzs, List.take_succ_cons, List.take_zero, List.drop_succ_cons, List.drop_zero, List.cons_append, List.nil_append, List.append_eq, List.length_cons, List.length_nil, Nat.reduceAdd, Nat.reduceMul, Nat.reduceSub, Int.reduceAdd, Int.reduceSub, Int.reduceToNat, Int.reduceNeg, Int.reduceMul]) | refine zC ?_ | refine zAB ?_)
    (first | with_reducible refine q_endr ?_); refine rets1 Tryz.results23 (by exact zv) ?_
    rfl
  repeat (first | (with_reducible refine R_nil ?_; try dsimp only [slots0, slots_ud, pt_all, pt_x, pt_y, cv_all, cv_p, cv_a, cv_b, cv_n, cv_g, cv_gx, pt_len, cv_len, rg_len, ren_rl, rl_all, rl_m, rl_len, rl_nil, pt_nil, ptD_all, ptD_nil, ptD_len, sg_all, sg_r, sg_s, sg_len, cells_U, agg_ud, drop0, dropS, takeS, take0, ud_nil, take_ud, take_ud0, drop_ud, drop_ud0, take_udk, D.cells, D.fz, D.fzs, List.take_succ_cons, List.take_zero, List.drop_succ_cons, List.drop_zero, List.cons_append, List.nil_append, List.append_eq, List.length_cons, List.length_nil, Nat.reduceAdd, Nat.reduceMul, Nat.reduceSub, Int.reduceAdd, Int.reduceSub, Int.reduceToNat, Int.reduceNeg, Int.reduceMul]) | refine zC ?_ | refine k_load rfl rfl rfl (by exact da _ _ rfl) ?_ | refine k_load rfl rfl rfl (by exact db _ _ rfl) ?_ | refine zA ?_ | refine k_b2s rfl Tryz.underlying9 Tryz.underlying5 rfl rfl ?_ | refine k_eqs rfl rfl rfl h7 ?_ | refine zB ?_)
  (first | with_reducible refine q_endr ?_); refine rets1 Tryz.results23 (by exact zv) ?_
  rfl
theorem z_put (z : List UInt8) (hz : z.length = 32) (cs : List D) (hc : cs.length = 32) : splice 0 (bs z) cs = some (bs z) := by
  unfold splice
  rw [bs_len, hz, Nat.ble_eq_true_of_le (by omega), cond_true]
  congr 1
  rw [List.take_zero, List.nil_append, List.drop_of_length_le (by omega), List.append_nil]
theorem z_all (z : List UInt8) (hz : z.length = 32) (ze : List D) : cut ⟨true, 32, ze⟩ 0 (bs z) = some (.agg (bs z)) := by
  unfold cut
  simp only [cond_true, Nat.zero_add, List.drop_zero]
  rw [bs_len, hz, List.take_of_length_le (by rw [bs_len, hz]; exact Nat.le_refl _)]
  rfl
theorem z_len (z : List UInt8) (hz : z.length = 32) : (D.agg (bs z)).cells.length = 32 := by
  show (bs z).length = 32; rw [bs_len, hz]
section
variable (p cb n gx gy : Nat) (x : GuT) (h : x.ok) (b : BodyT) (hb : b.ok)
include h hb
set_option maxHeartbeats 16000000 in
theorem gSign_no (hno : ∀ c ∈ x.dn, c ≠ b) : Pur Tryz.prog 7 [.agg (cv p 0 cb n gx gy false), .agg x.cells, .agg b.cells] (.tup [.agg [.int .u64 0, .int .u64 0, .int .u64 0, .int .u64 0, .int .u64 0, .int .u64 0, .int .u64 0, .int .u64 0, .int .i64 0], .int .i64 5]) := by
  have hln := h.dn.len
  have hcut := bdC_cut x.dn h.dn.em
  have hlen := bdC_len x.dn h.dn.em
  have hem := h.dn.em
  have hball := bd_all hb.e
  have hbput := bd_put hb.e
  have hbl := bd_len hb.e
  have hbfz1 : D.fzs b.cells = b.cells := by have := bd_fz b; simpa [D.fzs, D.fz] using this
  have hbc := bd_cls b
  unfold GuT.cells guC bD mD
  generalize bdC x.hd = y1 at *
  generalize bdC x.dn = y2 at *
  generalize bs x.la = y3 at *
  generalize bs x.si = y4 at *
  generalize qsC x.f.past = z1 at *
  generalize qsC x.f.queue = z2 at *
  generalize qsC x.g.past = z3 at *
  generalize qsC x.g.queue = z4 at *
  obtain ⟨nd, hnd⟩ : ∃ q, x.dn.length = q := ⟨_, rfl⟩
  rw [hnd] at hln hlen ⊢
  have hz1 : nd * 38 = y2.length := hlen.symm
  refine pur_intro Tryz.func7 rfl Tryz.ntmps7 rfl (by first | rfl | assumption | exact bs_cl _) fun B => ?_
  repeat (first | (with_reducible refine R_nil ?_; try dsimp only [slots0, slots_ud, pt_all, pt_x, pt_y, cv_all, cv_p, cv_a, cv_b, cv_n, cv_g, cv_gx, pt_len, cv_len, rg_len, ren_rl, rl_all, rl_m, rl_len, rl_nil, pt_nil, ptD_all, ptD_nil, ptD_len, sg_all, sg_r, sg_s, sg_len, cells_U, agg_ud, drop0, dropS, takeS, take0, ud_nil, take_ud, take_ud0, drop_ud, drop_ud0, take_udk, D.cells, D.fz, D.fzs, List.take_succ_cons, List.take_zero, List.drop_succ_cons, List.drop_zero, List.cons_append, List.nil_append, List.append_eq, List.length_cons, List.length_nil, Nat.reduceAdd, Nat.reduceMul, Nat.reduceSub, Int.reduceAdd, Int.reduceSub, Int.reduceToNat, Int.reduceNeg, Int.reduceMul]) | refine zC ?_ | refine zAB ?_)
  refine W_loopW (fun n' ρ m nx => ∃ j : Nat, j ≤ nd ∧ n' = nd - j ∧ ρ = [(15, .int .i64 (j : Int)), (14, .int .i64 (nd : Int)), (13, .slice .frozen nd y2), (7, .int .i64 0), (6, .ptr 3 0), (5, .ptr 2 0), (4, .ptr 1 0), (3, .ptr 0 0)] ∧ m = [(3, some (.var 52 [.int .u64 0, .int .u64 0, .int .u64 0, .int .u64 0, .int .u64 0, .int .u64 0, .int .u64 0, .int .u64 0, .int .i64 0])), (2, some (.var 50 b.cells)), (1, some (.var 37 [.int .u64 5, .int .u64 0, .int .u64 0, .int .u64 0, .int .i64 x.f.l0, .int .i64 x.f.l1, .int .i64 x.f.l2, .int .i64 x.f.b0, .int .i64 x.f.b1, .int .i64 x.f.b2, .int .i64 x.f.now, .slice .frozen x.f.past.length z1, .slice .frozen x.f.queue.length z2, .int .i64 x.g.l0, .int .i64 x.g.l1, .int .i64 x.g.l2, .int .i64 x.g.b0, .int .i64 x.g.b1, .int .i64 x.g.b2, .int .i64 x.g.now, .slice .frozen x.g.past.length z3, .slice .frozen x.g.queue.length z4, .slice .frozen x.la.length y3, .slice .frozen x.si.length y4, .slice .frozen x.hd.length y1, .slice .frozen nd y2])), (0, some (.var 43 (cv p 0 cb n gx gy false)))] ∧ nx = 4)
    ⟨_, _, _, _, (by exact zF (fun l => l)), 0, Nat.zero_le _, rfl, rfl, rfl, rfl⟩ ?_
  rintro n' ρ m nx ⟨j, hj, rfl, rfl, rfl, rfl⟩
  by_cases hlt : j < nd
  · obtain ⟨c, hc⟩ : ∃ c, x.dn[j]? = some c := ⟨_, List.getElem?_eq_getElem (by omega)⟩
    have hcb := hcut j c hc
    have hce := hem c (List.mem_of_getElem? hc)
    have hcball := bd_all hce
    have hcput := bd_put hce
    have hcl := bd_len hce
    have hcfz1 : D.fzs c.cells = c.cells := by have := bd_fz c; simpa [D.fzs, D.fz] using this
    have hcc := bd_cls c
    have hx2 : D.fzs [D.agg c.cells, D.agg b.cells] = [D.agg c.cells, D.agg b.cells] := by
      show [D.agg (D.fzs c.cells), D.agg (D.fzs b.cells)] = _; rw [hcfz1, hbfz1]
    have hcl2 : D.cls [D.agg c.cells, D.agg b.cells] = true := by
      show (D.cls c.cells && (D.cls b.cells && true)) = true; rw [hcc, hbc]; rfl
    have hc38 : (D.agg c.cells).cells.length = 38 := hcl
    have hsm := gsame_ok c b hce hb.e false (by simp [hno c (List.mem_of_getElem? hc)])
    repeat (first | (with_reducible refine R_nil ?_; try dsimp only [slots0, slots_ud, pt_all, pt_x, pt_y, cv_all, cv_p, cv_a, cv_b, cv_n, cv_g, cv_gx, pt_len, cv_len, rg_len, ren_rl, rl_all, rl_m, rl_len, rl_nil, pt_nil, ptD_all, ptD_nil, ptD_len, sg_all, sg_r, sg_s, sg_len, cells_U, agg_ud, drop0, dropS, takeS, take0, ud_nil, take_ud, take_ud0, drop_ud, drop_ud0, take_udk, D.cells, D.fz, D.fzs, List.take_succ_cons, List.take_zero, List.drop_succ_cons, List.drop_zero, List.cons_append, List.nil_append, List.append_eq, List.length_cons, List.length_nil, Nat.reduceAdd, Nat.reduceMul, Nat.reduceSub, Int.reduceAdd, Int.reduceSub, Int.reduceToNat, Int.reduceNeg, Int.reduceMul]) | refine zC ?_ | (refine k_indexAddrs rfl rfl rfl ⟨?_, ?_⟩ hz1 ?_; (omega); (omega)) | refine k_loade rfl rfl (hcb _) ?_ | refine k_store rfl rfl rfl rfl (by exact hc38) rfl (by exact hcput _ rfl) ?_ | refine k_load rfl rfl rfl (hcball _) ?_ | refine k_load rfl rfl rfl (hball _) ?_ | refine zA ?_ | refine k_call rfl hsm rfl hx2 hcl2 rfl ?_ | refine zB ?_)
    exact ⟨nd - (j + 1), _, _, _, (by exact zF (fun l => l)), by omega, j + 1, by omega, rfl, rfl, rfl, rfl⟩
  · have ej : j = nd := by omega
    subst ej
    repeat (first | (with_reducible refine R_nil ?_; try dsimp only [slots0, slots_ud, pt_all, pt_x, pt_y, cv_all, cv_p, cv_a, cv_b, cv_n, cv_g, cv_gx, pt_len, cv_len, rg_len, ren_rl, rl_all, rl_m, rl_len, rl_nil, pt_nil, ptD_all, ptD_nil, ptD_len, sg_all, sg_r, sg_s, sg_len, cells_U, agg_ud, drop0, dropS, takeS, take0, ud_nil, take_ud, take_ud0, drop_ud, drop_ud0, take_udk, D.cells, D.fz, D.fzs, List.take_succ_cons, List.take_zero, List.drop_succ_cons, List.drop_zero, List.cons_append, List.nil_append, List.append_eq, List.length_cons, List.length_nil, Nat.reduceAdd, Nat.reduceMul, Nat.reduceSub, Int.reduceAdd, Int.reduceSub, Int.reduceToNat, Int.reduceNeg, Int.reduceMul]) | refine zC ?_ | refine zAB ?_)
    (first | with_reducible refine q_endr ?_); refine rets2 Tryz.results7 (by exact zv) (by exact zv) ?_ ?_
    all_goals rfl
set_option maxHeartbeats 16000000 in
theorem gSign_at (i : Nat) (hi : x.dn[i]? = some b) (hfi : ∀ j c, j < i → x.dn[j]? = some c → c ≠ b) (z : List UInt8) (hzl : z.length = 32) (hsum : Pur Tryz.prog 11 [.agg b.cells] (.tup [.agg (bs z), .int .i64 0])) (r s : Nat) (oo : Int)
    (hmk : Pur Tryz.prog 24 [.agg (cv p 0 cb n gx gy false), .agg [.int .u64 5, .int .u64 0, .int .u64 0, .int .u64 0], .agg (bs z)] (.tup [.agg (sg r s oo), .int .i64 0])) : Pur Tryz.prog 7 [.agg (cv p 0 cb n gx gy false), .agg x.cells, .agg b.cells] (.tup [.agg (sg r s oo), .int .i64 0]) := by
  have hil := (List.getElem?_eq_some_iff.1 hi).1
  have hln := h.dn.len
  have hcut := bdC_cut x.dn h.dn.em
  have hlen := bdC_len x.dn h.dn.em
  have hem := h.dn.em
  have hball := bd_all hb.e
  have hbput := bd_put hb.e
  have hbl := bd_len hb.e
  have hbfz1 : D.fzs b.cells = b.cells := by have := bd_fz b; simpa [D.fzs, D.fz] using this
  have hbc := bd_cls b
  unfold GuT.cells guC bD mD
  generalize bdC x.hd = y1 at *
  generalize bdC x.dn = y2 at *
  generalize bs x.la = y3 at *
  generalize bs x.si = y4 at *
  generalize qsC x.f.past = z1 at *
  generalize qsC x.f.queue = z2 at *
  generalize qsC x.g.past = z3 at *
  generalize qsC x.g.queue = z4 at *
  obtain ⟨nd, hnd⟩ : ∃ q, x.dn.length = q := ⟨_, rfl⟩
  rw [hnd] at hln hlen ⊢
  have hz1 : nd * 38 = y2.length := hlen.symm
  rw [hnd] at hil
  have hfm : D.fzs [D.agg (cv p 0 cb n gx gy false), D.agg [.int .u64 5, .int .u64 0, .int .u64 0, .int .u64 0], D.agg (bs z)] = [D.agg (cv p 0 cb n gx gy false), D.agg [.int .u64 5, .int .u64 0, .int .u64 0, .int .u64 0], D.agg (bs z)] := by
    show D.agg (cv p 0 cb n gx gy false) :: D.agg _ :: D.agg (D.fzs (bs z)) :: _ = _
    rw [bs_fzs]; rfl
  have hcm : D.cls [D.agg (cv p 0 cb n gx gy false), D.agg [.int .u64 5, .int .u64 0, .int .u64 0, .int .u64 0], D.agg (bs z)] = true := by
    show (true && (true && (D.cls (bs z) && true))) = true
    rw [bs_cl]; rfl
  have hbf1 : D.fzs [D.agg b.cells] = [D.agg b.cells] := bd_fz b
  have hzc : D.cl (.tup [.agg (bs z), .int .i64 0]) = true := by
    show (D.cls (bs z) && (true && true)) = true
    rw [bs_cl]; rfl
  have hbc1 := bd_cl b
  refine pur_intro Tryz.func7 rfl Tryz.ntmps7 rfl (by first | rfl | assumption | exact bs_cl _) fun B => ?_
  repeat (first | (with_reducible refine R_nil ?_; try dsimp only [slots0, slots_ud, pt_all, pt_x, pt_y, cv_all, cv_p, cv_a, cv_b, cv_n, cv_g, cv_gx, pt_len, cv_len, rg_len, ren_rl, rl_all, rl_m, rl_len, rl_nil, pt_nil, ptD_all, ptD_nil, ptD_len, sg_all, sg_r, sg_s, sg_len, cells_U, agg_ud, drop0, dropS, takeS, take0, ud_nil, take_ud, take_ud0, drop_ud, drop_ud0, take_udk, D.cells, D.fz, D.fzs, List.take_succ_cons, List.take_zero, List.drop_succ_cons, List.drop_zero, List.cons_append, List.nil_append, List.append_eq, List.length_cons, List.length_nil, Nat.reduceAdd, Nat.reduceMul, Nat.reduceSub, Int.reduceAdd, Int.reduceSub, Int.reduceToNat, Int.reduceNeg, Int.reduceMul]) | refine zC ?_ | refine zAB ?_)
  refine W_loopW (fun n' ρ m nx => ∃ j : Nat, j ≤ nd ∧ j ≤ i ∧ n' = nd - j ∧ ρ = [(15, .int .i64 (j : Int)), (14, .int .i64 (nd : Int)), (13, .slice .frozen nd y2), (7, .int .i64 0), (6, .ptr 3 0), (5, .ptr 2 0), (4, .ptr 1 0), (3, .ptr 0 0)] ∧ m = [(3, some (.var 52 [.int .u64 0, .int .u64 0, .int .u64 0, .int .u64 0, .int .u64 0, .int .u64 0, .int .u64 0, .int .u64 0, .int .i64 0])), (2, some (.var 50 b.cells)), (1, some (.var 37 [.int .u64 5, .int .u64 0, .int .u64 0, .int .u64 0, .int .i64 x.f.l0, .int .i64 x.f.l1, .int .i64 x.f.l2, .int .i64 x.f.b0, .int .i64 x.f.b1, .int .i64 x.f.b2, .int .i64 x.f.now, .slice .frozen x.f.past.length z1, .slice .frozen x.f.queue.length z2, .int .i64 x.g.l0, .int .i64 x.g.l1, .int .i64 x.g.l2, .int .i64 x.g.b0, .int .i64 x.g.b1, .int .i64 x.g.b2, .int .i64 x.g.now, .slice .frozen x.g.past.length z3, .slice .frozen x.g.queue.length z4, .slice .frozen x.la.length y3, .slice .frozen x.si.length y4, .slice .frozen x.hd.length y1, .slice .frozen nd y2])), (0, some (.var 43 (cv p 0 cb n gx gy false)))] ∧ nx = 4)
    ⟨_, _, _, _, (by exact zF (fun l => l)), 0, Nat.zero_le _, Nat.zero_le _, rfl, rfl, rfl, rfl⟩ ?_
  rintro n' ρ m nx ⟨j, hj, hji, rfl, rfl, rfl, rfl⟩
  obtain ⟨c, hc⟩ : ∃ c, x.dn[j]? = some c := ⟨_, List.getElem?_eq_getElem (by omega)⟩
  by_cases hlt : j < i
  · skip
    have hcb := hcut j c hc
    have hce := hem c (List.mem_of_getElem? hc)
    have hcball := bd_all hce
    have hcput := bd_put hce
    have hcl := bd_len hce
    have hcfz1 : D.fzs c.cells = c.cells := by have := bd_fz c; simpa [D.fzs, D.fz] using this
    have hcc := bd_cls c
    have hx2 : D.fzs [D.agg c.cells, D.agg b.cells] = [D.agg c.cells, D.agg b.cells] := by
      show [D.agg (D.fzs c.cells), D.agg (D.fzs b.cells)] = _; rw [hcfz1, hbfz1]
    have hcl2 : D.cls [D.agg c.cells, D.agg b.cells] = true := by
      show (D.cls c.cells && (D.cls b.cells && true)) = true; rw [hcc, hbc]; rfl
    have hc38 : (D.agg c.cells).cells.length = 38 := hcl
    have hsm := gsame_ok c b hce hb.e false (by simp [hfi j c hlt hc])
    repeat (first | (with_reducible refine R_nil ?_; try dsimp only [slots0, slots_ud, pt_all, pt_x, pt_y, cv_all, cv_p, cv_a, cv_b, cv_n, cv_g, cv_gx, pt_len, cv_len, rg_len, ren_rl, rl_all, rl_m, rl_len, rl_nil, pt_nil, ptD_all, ptD_nil, ptD_len, sg_all, sg_r, sg_s, sg_len, cells_U, agg_ud, drop0, dropS, takeS, take0, ud_nil, take_ud, take_ud0, drop_ud, drop_ud0, take_udk, D.cells, D.fz, D.fzs, List.take_succ_cons, List.take_zero, List.drop_succ_cons, List.drop_zero, List.cons_append, List.nil_append, List.append_eq, List.length_cons, List.length_nil, Nat.reduceAdd, Nat.reduceMul, Nat.reduceSub, Int.reduceAdd, Int.reduceSub, Int.reduceToNat, Int.reduceNeg, Int.reduceMul]) | refine zC ?_ | (refine k_indexAddrs rfl rfl rfl ⟨?_, ?_⟩ hz1 ?_; (omega); (omega)) | refine k_loade rfl rfl (hcb _) ?_ | refine k_store rfl rfl rfl rfl (by exact hc38) rfl (by exact hcput _ rfl) ?_ | refine k_load rfl rfl rfl (hcball _) ?_ | refine k_load rfl rfl rfl (hball _) ?_ | refine zA ?_ | refine k_call rfl hsm rfl hx2 hcl2 rfl ?_ | refine zB ?_)
    exact ⟨nd - (j + 1), _, _, _, (by exact zF (fun l => l)), by omega, j + 1, by omega, by omega, rfl, rfl, rfl, rfl⟩
  · have ej : j = i := by omega
    subst ej
    rw [hi] at hc
    injection hc with hc
    have hc' := hi
    subst hc
    replace hc := hi
    have hcb := hcut j b hc
    have hce := hem b (List.mem_of_getElem? hc)
    have hcball := bd_all hce
    have hcput := bd_put hce
    have hcl := bd_len hce
    have hcfz1 : D.fzs b.cells = b.cells := by have := bd_fz b; simpa [D.fzs, D.fz] using this
    have hcc := bd_cls b
    have hx2 : D.fzs [D.agg b.cells, D.agg b.cells] = [D.agg b.cells, D.agg b.cells] := by
      show [D.agg (D.fzs b.cells), D.agg (D.fzs b.cells)] = _; rw [hbfz1]
    have hcl2 : D.cls [D.agg b.cells, D.agg b.cells] = true := by
      show (D.cls b.cells && (D.cls b.cells && true)) = true; rw [hbc]; rfl
    have hc38 : (D.agg b.cells).cells.length = 38 := hcl
    have hsm := gsame_ok b b hb.e hb.e true (by simp)
    repeat (first | (with_reducible refine R_nil ?_; try dsimp only [slots0, slots_ud, pt_all, pt_x, pt_y, cv_all, cv_p, cv_a, cv_b, cv_n, cv_g, cv_gx, pt_len, cv_len, rg_len, ren_rl, rl_all, rl_m, rl_len, rl_nil, pt_nil, ptD_all, ptD_nil, ptD_len, sg_all, sg_r, sg_s, sg_len, cells_U, agg_ud, drop0, dropS, takeS, take0, ud_nil, take_ud, take_ud0, drop_ud, drop_ud0, take_udk, D.cells, D.fz, D.fzs, List.take_succ_cons, List.take_zero, List.drop_succ_cons, List.drop_zero, List.cons_append, List.nil_append, List.append_eq, List.length_cons, List.length_nil, Nat.reduceAdd, Nat.reduceMul, Nat.reduceSub, Int.reduceAdd, Int.reduceSub, Int.reduceToNat, Int.reduceNeg, Int.reduceMul]) | refine zC ?_ | (refine k_indexAddrs rfl rfl rfl ⟨?_, ?_⟩ hz1 ?_; (omega); (omega)) | refine k_loade rfl rfl (hcb _) ?_ | refine k_store rfl rfl rfl rfl (by exact hc38) rfl (by exact hcput _ rfl) ?_ | refine k_load rfl rfl rfl (hcball _) ?_ | refine k_load rfl rfl rfl (hball _) ?_ | refine k_store rfl rfl rfl rfl (by exact z_len z hzl) rfl (by exact z_put z hzl _ rfl) ?_ | refine k_load rfl rfl rfl (z_all z hzl _) ?_ | refine zA ?_ | refine k_call rfl hsm rfl hx2 hcl2 rfl ?_ | refine k_call rfl hsum rfl hbf1 hbc1 hzc ?_ | refine k_call rfl hmk rfl hfm hcm rfl ?_ | refine zB ?_)
    (first | with_reducible refine q_endr ?_); refine rets2 Tryz.results7 (by exact zv) (by exact zv) ?_ ?_
    all_goals rfl
end
end Go.Proofs.YtcfefmbbbfdppaaGreatDoor
