/- Plain arithmetic of a curve's points: a table of points, held against the law of addition by cross products; no program in sight. No conditions. -/
import Derived.Test.YtcfefmbbbfdppaaGreatDoorSBytes
import Derived.Test.YtcfefmbbbfdppaaGreatDoorSCurve4
import Derived.Test.YtcfefmbbbfdppaaGreatDoorSBit
import Derived.Test.YtcfefmbbbfdppaaGreatDoorSFieldM
namespace Go.Proofs.YtcfefmbbbfdppaaGreatDoor
open Go.RowKit
set_option linter.unusedVariables false
set_option maxRecDepth 100000
--nrm pt_all pt_x pt_y cv_all cv_p cv_a cv_b cv_n cv_g cv_gx pt_len cv_len rg_len ren_rl rl_all rl_m rl_len rl_nil pt_nil ptD_all ptD_nil ptD_len
theorem ptD_nil (q : P3) : ptD q ++ [] = ptD q := rfl
def AddP (p a b n gx gy : Nat) (q r s : P3) : Prop := Pur Tryz.prog 53 [.agg (cv p a b n gx gy false), .agg (ptD q), .agg (ptD r)] (.tup [.agg (ptD s), .bool true])
set_option maxHeartbeats 1000000 in
theorem Add_ok {p a b n gx gy : Nat} (g : Good p a b n gx gy) (q r s : P3) (hq : OnP p a b q) (hr : OnP p a b r) (h : AddP p a b n gx gy q r s) : Pur Tryz.prog 74 [.agg (cv p a b n gx gy false), .agg (ptD q), .agg (ptD r)] (.tup [.agg (ptD s), .int .i64 0]) := by
  have hf := fault_okC g [q, r] (by intro x hx; simp at hx; rcases hx with rfl | rfl; exact hq; exact hr) (by simp)
  unfold AddP at h
  refine pur_intro Tryz.func74 rfl Tryz.ntmps74 rfl (by first | rfl | assumption | exact bs_cl _) fun B => ?_
  repeat (first | (with_reducible refine R_nil ?_; try dsimp only [slots0, slots_ud, pt_all, pt_x, pt_y, cv_all, cv_p, cv_a, cv_b, cv_n, cv_g, cv_gx, pt_len, cv_len, rg_len, ren_rl, rl_all, rl_m, rl_len, rl_nil, pt_nil, ptD_all, ptD_nil, ptD_len, cells_U, agg_ud, drop0, dropS, takeS, take0, ud_nil, take_ud, take_ud0, drop_ud, drop_ud0, take_udk, D.cells, D.fz, D.fzs, List.take_succ_cons, List.take_zero, List.drop_succ_cons, List.drop_zero, List.cons_append, List.nil_append, List.append_eq, List.length_cons, List.length_nil, Nat.reduceAdd, Nat.reduceMul, Nat.reduceSub, Int.reduceAdd, Int.reduceSub, Int.reduceToNat, Int.reduceNeg, Int.reduceMul]) | refine zC ?_ | refine zA ?_ | refine k_buildSlice rfl rfl rfl rfl rfl rfl rfl ?_ | refine k_call rfl hf rfl rfl rfl rfl ?_ | refine k_call rfl h rfl rfl rfl rfl ?_ | refine zB ?_)
  (first | with_reducible refine q_endr ?_); refine rets2 Tryz.results74 (by exact zv) (by exact zv) ?_ ?_
  · rfl
  · rfl
theorem On_ok {p a b n gx gy : Nat} (g : Good p a b n gx gy) (q : P3) (hq : OnP p a b q) : Pur Tryz.prog 31 [.agg (cv p a b n gx gy false), .agg (ptD q)] (.int .i64 0) := by
  have ho := on_any g q hq
  refine pur_intro Tryz.func31 rfl Tryz.ntmps31 rfl (by first | rfl | assumption | exact bs_cl _) fun B => ?_
  repeat (first | (with_reducible refine R_nil ?_; try dsimp only [slots0, slots_ud, pt_all, pt_x, pt_y, cv_all, cv_p, cv_a, cv_b, cv_n, cv_g, cv_gx, pt_len, cv_len, rg_len, ren_rl, rl_all, rl_m, rl_len, rl_nil, pt_nil, ptD_all, ptD_nil, ptD_len, cells_U, agg_ud, drop0, dropS, takeS, take0, ud_nil, take_ud, take_ud0, drop_ud, drop_ud0, take_udk, D.cells, D.fz, D.fzs, List.take_succ_cons, List.take_zero, List.drop_succ_cons, List.drop_zero, List.cons_append, List.nil_append, List.append_eq, List.length_cons, List.length_nil, Nat.reduceAdd, Nat.reduceMul, Nat.reduceSub, Int.reduceAdd, Int.reduceSub, Int.reduceToNat, Int.reduceNeg, Int.reduceMul]) | refine zC ?_ | refine zA ?_ | refine k_call rfl (Check_ok g) rfl rfl rfl rfl ?_ | refine k_call rfl ho rfl rfl rfl rfl ?_ | refine zB ?_)
  (first | with_reducible refine q_endr ?_); refine rets1 Tryz.results31 (by exact zv) ?_
  rfl
theorem fdiv_lim (k j : Nat) (bt : Nat) (hb : k / 2 ^ j % 2 = bt) : ∃ v : Int, (lim k (j / 64)).fdiv (2 ^ (min ((j % 64 : Nat) : Int).toNat IntKind.u64.bits)) = v ∧ bitw .and .u64 v 1 = (bt : Int) := by
  have ht : j % 64 < 64 := Nat.mod_lt _ (by decide)
  refine ⟨_, rfl, ?_⟩
  have e : min ((j % 64 : Nat) : Int).toNat IntKind.u64.bits = j % 64 := by
    rw [Int.toNat_natCast]; show min (j % 64) 64 = _; omega
  rw [e, Int.fdiv_eq_ediv_of_nonneg _ (Int.le_of_lt (Int.pow_pos (by decide)))]
  have h := and_one (lim k (j / 64)) (j % 64) (lim_nonneg _ _) (lim_lt _ _)
  rw [lim_bit k (j / 64) (j % 64) ht, show 64 * (j / 64) + j % 64 = j from by omega, hb] at h
  exact h
theorem cut_lim (k q : Nat) (hq : q < 4) : cut ⟨false, 1, [.int .u64 0]⟩ (0 + ((q : Nat) : Int).toNat * 1) (ud k) = some (.int .u64 (lim k q)) := by
  obtain rfl | rfl | rfl | rfl : q = 0 ∨ q = 1 ∨ q = 2 ∨ q = 3 := by omega
  all_goals rfl
set_option maxHeartbeats 2000000 in
theorem Mult_ok {p a b n gx gy : Nat} (g : Good p a b n gx gy) (S : Nat → P3) (k : Nat) (hk : k < M256) (hS0 : S 0 = (0, 0, true)) (h1 : OnP p a b (S 1)) (hd : ∀ j, 2 * j ≤ k → AddP p a b n gx gy (S j) (S j) (S (2 * j))) (hs : ∀ j, 2 * j + 1 ≤ k → AddP p a b n gx gy (S (2 * j)) (S 1) (S (2 * j + 1))) :
    Pur Tryz.prog 22 [.agg (cv p a b n gx gy false), U k, .agg (ptD (S 1))] (.tup [.agg (ptD (S k)), .int .i64 0]) := by
  have hf := fault_okC g [S 1] (by intro x hx; simp at hx; rw [hx]; exact h1) (by simp)
  refine pur_intro Tryz.func22 rfl Tryz.ntmps22 rfl (by first | rfl | assumption | exact bs_cl _) fun B => ?_
  repeat (first | (with_reducible refine R_nil ?_; try dsimp only [slots0, slots_ud, pt_all, pt_x, pt_y, cv_all, cv_p, cv_a, cv_b, cv_n, cv_g, cv_gx, pt_len, cv_len, rg_len, ren_rl, rl_all, rl_m, rl_len, rl_nil, pt_nil, ptD_all, ptD_nil, ptD_len, cells_U, agg_ud, drop0, dropS, takeS, take0, ud_nil, take_ud, take_ud0, drop_ud, drop_ud0, take_udk, D.cells, D.fz, D.fzs, List.take_succ_cons, List.take_zero, List.drop_succ_cons, List.drop_zero, List.cons_append, List.nil_append, List.append_eq, List.length_cons, List.length_nil, Nat.reduceAdd, Nat.reduceMul, Nat.reduceSub, Int.reduceAdd, Int.reduceSub, Int.reduceToNat, Int.reduceNeg, Int.reduceMul]) | refine zC ?_ | refine zA ?_ | refine k_buildSlice rfl rfl rfl rfl rfl rfl rfl ?_ | refine k_call rfl hf rfl rfl rfl rfl ?_ | refine zB ?_)
  refine W_loop (fun n' ρ m nx => ∃ i : Int, i = (n' : Int) - 1 ∧ n' ≤ 256 ∧ ρ = [(11, .int .i64 i), (10, .bool true), (9, .ptr 5 0), (7, .int .i64 0), (6, .ptr 3 0), (5, .ptr 2 0), (4, .ptr 1 0), (3, .ptr 0 0)] ∧
      m = [(5, some (.var 41 (ptD (S (k / 2 ^ n'))))), (3, some (.var 41 (pt 0 0 false))), (2, some (.var 41 (ptD (S 1)))), (1, some (.var 27 (ud k))), (0, some (.var 43 (cv p a b n gx gy false)))] ∧ nx = 6)
    ⟨256, _, _, _, (by exact zs), ?_, 255, by decide, by decide, rfl, rfl, rfl⟩ ?_
  · refine ⟨⟨?_, rfl, rfl⟩, ⟨rfl, rfl, rfl⟩, ⟨rfl, rfl, rfl⟩, ⟨rfl, rfl, rfl⟩, ⟨rfl, rfl, rfl⟩, trivial⟩
    rw [Nat.div_eq_of_lt (by unfold M256 at hk; omega), hS0]; rfl
  rintro n' ρ m nx ⟨i, hi, hn', rfl, rfl, rfl⟩
  cases n' with
  | zero =>
    obtain rfl : i = -1 := by omega
    rw [Nat.pow_zero, Nat.div_one]
    repeat (first | (with_reducible refine R_nil ?_; try dsimp only [slots0, slots_ud, pt_all, pt_x, pt_y, cv_all, cv_p, cv_a, cv_b, cv_n, cv_g, cv_gx, pt_len, cv_len, rg_len, ren_rl, rl_all, rl_m, rl_len, rl_nil, pt_nil, ptD_all, ptD_nil, ptD_len, cells_U, agg_ud, drop0, dropS, takeS, take0, ud_nil, take_ud, take_ud0, drop_ud, drop_ud0, take_udk, D.cells, D.fz, D.fzs, List.take_succ_cons, List.take_zero, List.drop_succ_cons, List.drop_zero, List.cons_append, List.nil_append, List.append_eq, List.length_cons, List.length_nil, Nat.reduceAdd, Nat.reduceMul, Nat.reduceSub, Int.reduceAdd, Int.reduceSub, Int.reduceToNat, Int.reduceNeg, Int.reduceMul]) | refine zC ?_ | refine zAB ?_)
    (first | with_reducible refine q_endr ?_); refine rets2 Tryz.results22 (by exact zv) (by exact zv) ?_ ?_
    · rfl
    · rfl
  | succ j =>
    obtain rfl : i = (j : Int) := by omega
    have hq : IntKind.i64.wrap ((j : Int).tdiv 64) = ((j / 64 : Nat) : Int) := by rw [Int.tdiv_eq_ediv_of_nonneg (by omega), IntKind.wrap_i64]; omega
    have hr' : (j : Int).tmod 64 = ((j % 64 : Nat) : Int) := by rw [Int.tmod_eq_emod_of_nonneg (by omega)]; omega
    have hld := cut_lim k (j / 64) (by omega)
    have hdd := hd (k / 2 ^ (j + 1)) (by have := Nat.div_add_mod k (2 ^ (j + 1)); have h2 : 2 ≤ 2 ^ (j + 1) := by rw [Nat.pow_succ]; have := Nat.one_le_two_pow (n := j); omega
                                         have := Nat.mul_le_mul_right (k / 2 ^ (j + 1)) h2; omega)
    have hnb := next_bit k j
    have hle : k / 2 ^ j ≤ k := Nat.div_le_self _ _
    unfold AddP at hdd
    obtain ⟨bt, hbt⟩ : ∃ bt, k / 2 ^ j % 2 = bt := ⟨_, rfl⟩
    obtain ⟨v, hv, hand⟩ := fdiv_lim k j bt hbt
    rw [hbt] at hnb
    have hbt2 : bt = 0 ∨ bt = 1 := by have := Nat.mod_lt (k / 2 ^ j) (show 0 < 2 by decide); omega
    rcases hbt2 with rfl | rfl
    · repeat (first | (with_reducible refine R_nil ?_; try dsimp only [slots0, slots_ud, pt_all, pt_x, pt_y, cv_all, cv_p, cv_a, cv_b, cv_n, cv_g, cv_gx, pt_len, cv_len, rg_len, ren_rl, rl_all, rl_m, rl_len, rl_nil, pt_nil, ptD_all, ptD_nil, ptD_len, cells_U, agg_ud, drop0, dropS, takeS, take0, ud_nil, take_ud, take_ud0, drop_ud, drop_ud0, take_udk, D.cells, D.fz, D.fzs, List.take_succ_cons, List.take_zero, List.drop_succ_cons, List.drop_zero, List.cons_append, List.nil_append, List.append_eq, List.length_cons, List.length_nil, Nat.reduceAdd, Nat.reduceMul, Nat.reduceSub, Int.reduceAdd, Int.reduceSub, Int.reduceToNat, Int.reduceNeg, Int.reduceMul]) | refine zC ?_ | refine zA ?_ | refine k_call rfl hdd rfl rfl rfl rfl ?_ | (refine k_quo rfl rfl rfl ?_ hq ?_; (decide)) | (refine k_rem rfl rfl rfl ?_ hr' ?_; (decide)) | refine k_load rfl rfl rfl hld ?_ | (refine k_shr rfl rfl rfl ?_ hv ?_; (omega)) | refine k_bits rfl rfl rfl rfl hand ?_ | refine zB ?_)
      refine ⟨j, _, _, _, (by exact zs), ?_, by omega, _, rfl, by omega, rfl, rfl, rfl⟩
      refine ⟨⟨?_, rfl, rfl⟩, ⟨rfl, rfl, rfl⟩, ⟨rfl, rfl, rfl⟩, ⟨rfl, rfl, rfl⟩, ⟨rfl, rfl, rfl⟩, trivial⟩
      rw [hnb]; rfl
    · have hss := hs (k / 2 ^ (j + 1)) (by omega)
      unfold AddP at hss
      repeat (first | (with_reducible refine R_nil ?_; try dsimp only [slots0, slots_ud, pt_all, pt_x, pt_y, cv_all, cv_p, cv_a, cv_b, cv_n, cv_g, cv_gx, pt_len, cv_len, rg_len, ren_rl, rl_all, rl_m, rl_len, rl_nil, pt_nil, ptD_all, ptD_nil, ptD_len, cells_U, agg_ud, drop0, dropS, takeS, take0, ud_nil, take_ud, take_ud0, drop_ud, drop_ud0, take_udk, D.cells, D.fz, D.fzs, List.take_succ_cons, List.take_zero, List.drop_succ_cons, List.drop_zero, List.cons_append, List.nil_append, List.append_eq, List.length_cons, List.length_nil, Nat.reduceAdd, Nat.reduceMul, Nat.reduceSub, Int.reduceAdd, Int.reduceSub, Int.reduceToNat, Int.reduceNeg, Int.reduceMul]) | refine zC ?_ | refine zA ?_ | refine k_call rfl hdd rfl rfl rfl rfl ?_ | refine k_call rfl hss rfl rfl rfl rfl ?_ | (refine k_quo rfl rfl rfl ?_ hq ?_; (decide)) | (refine k_rem rfl rfl rfl ?_ hr' ?_; (decide)) | refine k_load rfl rfl rfl hld ?_ | (refine k_shr rfl rfl rfl ?_ hv ?_; (omega)) | refine k_bits rfl rfl rfl rfl hand ?_ | refine zB ?_)
      refine ⟨j, _, _, _, (by exact zs), ?_, by omega, _, rfl, by omega, rfl, rfl, rfl⟩
      refine ⟨⟨?_, rfl, rfl⟩, ⟨rfl, rfl, rfl⟩, ⟨rfl, rfl, rfl⟩, ⟨rfl, rfl, rfl⟩, ⟨rfl, rfl, rfl⟩, trivial⟩
      rw [hnb]; rfl
end Go.Proofs.YtcfefmbbbfdppaaGreatDoor
namespace Go.Proofs.YtcfefmbbbfdppaaGreatDoor
open Go.RowKit
set_option linter.unusedVariables false
set_option maxRecDepth 100000
--nrm pt_all pt_x pt_y cv_all cv_p cv_a cv_b cv_n cv_g cv_gx pt_len cv_len rg_len ren_rl rl_all rl_m rl_len rl_nil pt_nil ptD_all ptD_nil ptD_len
theorem p_pickedC (n m q : Int) (hm : 0 < m) (hm' : m ≤ 4611686018427387904) (hq : n % m = q) : Pur Tryz.prog 10 [.int .i64 n, .int .i64 m] (.int .i64 q) :=
  pur_of_calls (vs := [.int .i64 n, .int .i64 m]) rfl rfl rfl fun w => (picked_anyB n m hm hm' w).mono fun e w' ⟨h1, h2⟩ => ⟨by rw [h1, hq], by rw [← h2]; exact new_refl w⟩
set_option maxHeartbeats 4000000 in
theorem small5 (p b n x y : Int) : Pur Tryz.prog 19 [.int .u64 p, .int .u64 b, .int .u64 n, .int .u64 x, .int .u64 y]
    (.agg [.int .u64 p, .int .u64 0, .int .u64 0, .int .u64 0, .int .u64 0, .int .u64 0, .int .u64 0, .int .u64 0, .int .u64 b, .int .u64 0, .int .u64 0, .int .u64 0, .int .u64 n, .int .u64 0, .int .u64 0, .int .u64 0, .int .u64 x, .int .u64 0, .int .u64 0, .int .u64 0, .int .u64 y, .int .u64 0, .int .u64 0, .int .u64 0, .bool false]) := by
  refine pur_intro Tryz.func19 rfl Tryz.ntmps19 rfl (by first | rfl | assumption | exact bs_cl _) fun B => ?_
  repeat (first | (with_reducible refine R_nil ?_; try dsimp only [slots0, slots_ud, pt_all, pt_x, pt_y, cv_all, cv_p, cv_a, cv_b, cv_n, cv_g, cv_gx, pt_len, cv_len, rg_len, ren_rl, rl_all, rl_m, rl_len, rl_nil, pt_nil, ptD_all, ptD_nil, ptD_len, cells_U, agg_ud, drop0, dropS, takeS, take0, ud_nil, take_ud, take_ud0, drop_ud, drop_ud0, take_udk, D.cells, D.fz, D.fzs, List.take_succ_cons, List.take_zero, List.drop_succ_cons, List.drop_zero, List.cons_append, List.nil_append, List.append_eq, List.length_cons, List.length_nil, Nat.reduceAdd, Nat.reduceMul, Nat.reduceSub, Int.reduceAdd, Int.reduceSub, Int.reduceToNat, Int.reduceNeg, Int.reduceMul]) | refine zC ?_ | refine zAB ?_)
  (first | with_reducible refine q_endr ?_); refine rets1 Tryz.results19 (by exact zv) ?_
  rfl
def cvs : List (Nat × Nat × Nat × Nat × Nat) := [(43, 7, 31, 2, 12), (67, 2, 73, 2, 12), (79, 6, 67, 5, 17), (139, 2, 163, 3, 53), (163, 3, 181, 1, 2), (211, 3, 199, 1, 2), (379, 2, 409, 5, 49), (691, 3, 643, 1, 2)]
set_option maxHeartbeats 16000000 in
theorem Curve_ok (z : Int) (k p b n x y : Nat) (hz : z % 8 = k) (hk : cvs[k]? = some (p, b, n, x, y)) : Pur Tryz.prog 5 [.int .i64 z] (.agg (cv p 0 b n x y false)) := by
  have h8 : k < 8 := by omega
  obtain rfl | rfl | rfl | rfl | rfl | rfl | rfl | rfl : k = 0 ∨ k = 1 ∨ k = 2 ∨ k = 3 ∨ k = 4 ∨ k = 5 ∨ k = 6 ∨ k = 7 := by omega
  all_goals
    simp [cvs] at hk
    obtain ⟨rfl, rfl, rfl, rfl, rfl⟩ := hk
    refine pur_intro Tryz.func5 rfl Tryz.ntmps5 rfl (by first | rfl | assumption | exact bs_cl _) fun B => ?_
    repeat (first | (with_reducible refine R_nil ?_; try dsimp only [slots0, slots_ud, pt_all, pt_x, pt_y, cv_all, cv_p, cv_a, cv_b, cv_n, cv_g, cv_gx, pt_len, cv_len, rg_len, ren_rl, rl_all, rl_m, rl_len, rl_nil, pt_nil, ptD_all, ptD_nil, ptD_len, cells_U, agg_ud, drop0, dropS, takeS, take0, ud_nil, take_ud, take_ud0, drop_ud, drop_ud0, take_udk, D.cells, D.fz, D.fzs, List.take_succ_cons, List.take_zero, List.drop_succ_cons, List.drop_zero, List.cons_append, List.nil_append, List.append_eq, List.length_cons, List.length_nil, Nat.reduceAdd, Nat.reduceMul, Nat.reduceSub, Int.reduceAdd, Int.reduceSub, Int.reduceToNat, Int.reduceNeg, Int.reduceMul]) | refine zC ?_ | refine zA ?_ | refine k_call rfl (small5 _ _ _ _ _) rfl rfl rfl rfl ?_ | refine k_call rfl (p_pickedC z 8 _ (by decide) (by decide) hz) rfl rfl rfl rfl ?_ | refine zB ?_)
    (first | with_reducible refine q_endr ?_); refine rets1 Tryz.results5 (by exact zv) ?_
    rfl
end Go.Proofs.YtcfefmbbbfdppaaGreatDoor
namespace Go.Proofs.YtcfefmbbbfdppaaGreatDoor.GM
def Eqm (p : Nat) (a b : Int) : Prop := (p : Int) ∣ a - b
theorem Eqm.refl {p : Nat} (a : Int) : Eqm p a a := ⟨0, by omega⟩
theorem Eqm.symm {p : Nat} {a b : Int} (h : Eqm p a b) : Eqm p b a := by
  obtain ⟨k, hk⟩ := h
  exact ⟨-k, by rw [Int.mul_neg]; omega⟩
theorem Eqm.trans {p : Nat} {a b c : Int} (h : Eqm p a b) (k : Eqm p b c) : Eqm p a c := by
  obtain ⟨x, hx⟩ := h
  obtain ⟨y, hy⟩ := k
  exact ⟨x + y, by rw [Int.mul_add]; omega⟩
theorem Eqm.add {p : Nat} {a b c d : Int} (h : Eqm p a b) (k : Eqm p c d) : Eqm p (a + c) (b + d) := by
  obtain ⟨x, hx⟩ := h
  obtain ⟨y, hy⟩ := k
  exact ⟨x + y, by rw [Int.mul_add]; omega⟩
theorem Eqm.neg {p : Nat} {a b : Int} (h : Eqm p a b) : Eqm p (-a) (-b) := by
  obtain ⟨x, hx⟩ := h
  exact ⟨-x, by rw [Int.mul_neg]; omega⟩
theorem Eqm.sub {p : Nat} {a b c d : Int} (h : Eqm p a b) (k : Eqm p c d) : Eqm p (a - c) (b - d) := by
  have := h.add k.neg
  rwa [← Int.sub_eq_add_neg, ← Int.sub_eq_add_neg] at this
theorem Eqm.mul {p : Nat} {a b c d : Int} (h : Eqm p a b) (k : Eqm p c d) : Eqm p (a * c) (b * d) := by
  obtain ⟨x, hx⟩ := h
  obtain ⟨y, hy⟩ := k
  refine ⟨x * c + b * y, ?_⟩
  have e1 : a = b + p * x := by omega
  have e2 : c = d + p * y := by omega
  subst e1
  subst e2
  grind
theorem Eqm.mod {p : Nat} (a : Nat) : Eqm p ((a % p : Nat) : Int) a := by
  refine ⟨-((a / p : Nat) : Int), ?_⟩
  have h := Nat.div_add_mod a p
  have e : (a : Int) = ((p * (a / p) : Nat) : Int) + ((a % p : Nat) : Int) := by rw [← Int.natCast_add, h]
  rw [Int.natCast_mul] at e
  rw [e, Int.mul_neg]; omega
theorem Eqm.sb {p a b : Nat} (h : b ≤ p) : Eqm p (((a + p - b) % p : Nat) : Int) ((a : Int) - b) := by
  refine (Eqm.mod _).trans ⟨1, ?_⟩
  omega
theorem Eqm.eq {p a b : Nat} (h : Eqm p a b) (ha : a < p) (hb : b < p) : a = b := by
  obtain ⟨k, hk⟩ := h
  have : k = 0 := by
    rcases Int.lt_trichotomy k 0 with h | h | h
    · have := Int.mul_le_mul_of_nonneg_left (show k ≤ -1 by omega) (Int.natCast_nonneg p); omega
    · exact h
    · have := Int.mul_le_mul_of_nonneg_left (show 1 ≤ k by omega) (Int.natCast_nonneg p); omega
  subst this
  omega
theorem Eqm.of_mod {p a b : Nat} (h : a % p = b % p) : Eqm p a b := (Eqm.mod a).symm.trans (by rw [h]; exact Eqm.mod b)
theorem Eqm.to_mod {p a b : Nat} (hp : 0 < p) (h : Eqm p a b) : a % p = b % p :=
  Eqm.eq (((Eqm.mod a).trans h).trans (Eqm.mod b).symm) (Nat.mod_lt _ hp) (Nat.mod_lt _ hp)
theorem cross {p : Nat} (hp : 0 < p) {x1 x2 x3 y1 y3 U Dn i s : Nat} (hx1 : x1 ≤ p) (hx2 : x2 ≤ p) (hx3 : x3 < p) (hy1 : y1 ≤ p) (hy3 : y3 < p) (hi : Eqm p ((i : Int) * Dn) 1) (hs : U * i % p = s)
    (h3 : ((x3 + x1 + x2) * (Dn * Dn % p)) % p = U * U % p) (h4 : ((y3 + y1) * Dn) % p = (U * ((x1 + p - x3) % p)) % p) :
    ((s * s % p + p - x1) % p + p - x2) % p = x3 ∧ (s * ((x1 + p - x3) % p) % p + p - y1) % p = y3 := by
  have es : Eqm p s ((U : Int) * i) := by rw [← hs]; have := Eqm.mod (p := p) (U * i); rwa [Int.natCast_mul] at this
  have e3 : Eqm p (((x3 : Int) + x1 + x2) * ((Dn : Int) * Dn)) ((U : Int) * U) := by
    have h := Eqm.of_mod (p := p) (a := (x3 + x1 + x2) * (Dn * Dn % p)) (b := U * U) (by rw [h3])
    rw [Int.natCast_mul, Int.natCast_mul, Int.natCast_add, Int.natCast_add] at h
    have k := (Eqm.mod (p := p) (Dn * Dn)).symm
    rw [Int.natCast_mul] at k
    exact ((Eqm.refl ((x3 : Int) + x1 + x2)).mul k).trans h
  have e4 : Eqm p (((y3 : Int) + y1) * Dn) ((U : Int) * (x1 - x3)) := by
    have h := Eqm.of_mod (p := p) (a := (y3 + y1) * Dn) (b := U * ((x1 + p - x3) % p)) (by rw [h4])
    rw [Int.natCast_mul, Int.natCast_mul, Int.natCast_add] at h
    exact h.trans ((Eqm.refl (U : Int)).mul (Eqm.sb (by omega)))
  have f3 : Eqm p ((s : Int) * s - x1 - x2) x3 := by
    have a1 : Eqm p ((s : Int) * s) (((U : Int) * i) * ((U : Int) * i)) := es.mul es
    have a2 : Eqm p (((U : Int) * U) * ((i : Int) * i)) ((((x3 : Int) + x1 + x2) * ((Dn : Int) * Dn)) * ((i : Int) * i)) := e3.symm.mul (Eqm.refl _)
    have a3 : Eqm p (((x3 : Int) + x1 + x2) * (((i : Int) * Dn) * ((i : Int) * Dn))) (((x3 : Int) + x1 + x2) * (1 * 1)) := (Eqm.refl _).mul (hi.mul hi)
    have b1 : ((U : Int) * i) * ((U : Int) * i) = ((U : Int) * U) * ((i : Int) * i) := by grind
    have b2 : (((x3 : Int) + x1 + x2) * ((Dn : Int) * Dn)) * ((i : Int) * i) = ((x3 : Int) + x1 + x2) * (((i : Int) * Dn) * ((i : Int) * Dn)) := by grind
    rw [b1] at a1
    rw [b2] at a2
    have a4 := (a1.trans a2).trans a3
    have a5 := (a4.sub (Eqm.refl (x1 : Int))).sub (Eqm.refl (x2 : Int))
    have b3 : ((x3 : Int) + x1 + x2) * (1 * 1) - x1 - x2 = x3 := by omega
    rwa [b3] at a5
  have f4 : Eqm p ((s : Int) * (x1 - x3) - y1) y3 := by
    have a1 : Eqm p ((s : Int) * (x1 - x3)) (((U : Int) * i) * (x1 - x3)) := es.mul (Eqm.refl _)
    have a2 : Eqm p (((U : Int) * (x1 - x3)) * i) ((((y3 : Int) + y1) * Dn) * i) := e4.symm.mul (Eqm.refl _)
    have a3 : Eqm p (((y3 : Int) + y1) * ((i : Int) * Dn)) (((y3 : Int) + y1) * 1) := (Eqm.refl _).mul hi
    have b1 : ((U : Int) * i) * (x1 - x3) = ((U : Int) * (x1 - x3)) * i := by grind
    have b2 : (((y3 : Int) + y1) * Dn) * i = ((y3 : Int) + y1) * ((i : Int) * Dn) := by grind
    rw [b1] at a1
    rw [b2] at a2
    have a4 := ((a1.trans a2).trans a3).sub (Eqm.refl (y1 : Int))
    have b3 : ((y3 : Int) + y1) * 1 - y1 = y3 := by omega
    rwa [b3] at a4
  constructor
  · refine Eqm.eq (Eqm.trans ?_ f3) (Nat.mod_lt _ hp) hx3
    refine (Eqm.sb hx2).trans (Eqm.sub ((Eqm.sb hx1).trans (Eqm.sub ?_ (Eqm.refl _))) (Eqm.refl _))
    have := Eqm.mod (p := p) (s * s); rwa [Int.natCast_mul] at this
  · refine Eqm.eq (Eqm.trans ?_ f4) (Nat.mod_lt _ hp) hy3
    refine (Eqm.sb hy1).trans (Eqm.sub ?_ (Eqm.refl _))
    have h := Eqm.mod (p := p) (s * ((x1 + p - x3) % p))
    rw [Int.natCast_mul] at h
    exact h.trans ((Eqm.refl (s : Int)).mul (Eqm.sb (by omega)))
abbrev Pt := Option (Nat × Nat)
def gen (p x1 y1 x2 y2 x3 y3 : Nat) : Bool :=
  Nat.beq (((x3 + x1 + x2) * ((((x2 + p - x1) % p) * ((x2 + p - x1) % p)) % p)) % p) ((((y2 + p - y1) % p) * ((y2 + p - y1) % p)) % p) && Nat.beq (((y3 + y1) * ((x2 + p - x1) % p)) % p) ((((y2 + p - y1) % p) * ((x1 + p - x3) % p)) % p)
def dbl (p a x1 y1 x3 y3 : Nat) : Bool :=
  !Nat.beq ((y1 + y1) % p) 0 && Nat.beq (((x3 + x1 + x1) * ((((y1 + y1) % p) * ((y1 + y1) % p)) % p)) % p) ((((3 % p * (x1 * x1 % p) % p + a) % p) * ((3 % p * (x1 * x1 % p) % p + a) % p)) % p) && Nat.beq (((y3 + y1) * ((y1 + y1) % p)) % p) ((((3 % p * (x1 * x1 % p) % p + a) % p) * ((x1 + p - x3) % p)) % p)
def one (p a x1 y1 : Nat) (q s : Pt) : Bool :=
  match q with
  | none => false
  | some (x2, y2) => match s with
    | none => Nat.beq x1 x2 && Nat.beq ((y1 + y2) % p) 0
    | some (x3, y3) => cond (Nat.beq x1 x2) (Nat.beq y1 y2 && dbl p a x1 y1 x3 y3) (gen p x1 y1 x2 y2 x3 y3)
def row (p a x1 y1 : Nat) : List Pt → List Pt → Bool
  | [], _ => true
  | q :: qs, s :: ss => one p a x1 y1 q s && row p a x1 y1 qs ss
  | _ :: _, [] => false
def rows (p a : Nat) (F : List Pt) : List Pt → List Pt → Bool
  | [], _ => true
  | q :: qs, s => (match q with | some (x, y) => row p a x y F s | none => false) && rows p a F qs s.tail
def sideM (p a b x : Nat) : Nat := ((x * (x * x % p) % p + a * x % p) % p + b) % p
def onM (p a b : Nat) : List Pt → Bool
  | [] => true
  | q :: qs => (match q with | some (x, y) => Nat.blt x p && Nat.blt y p && Nat.beq (y * y % p) (sideM p a b x) | none => false) && onM p a b qs
def invs (p : Nat) : Nat → Bool
  | 0 => true
  | d + 1 => (Nat.beq d 0 || Nat.beq ((d ^ (p - 2) % p) * d % p) 1) && invs p d
def check (p a b n gx gy : Nat) (F : List Pt) : Bool :=
  Nat.beq (F.length + 1) n && (match F with | some (x, y) :: _ => Nat.beq x gx && Nat.beq y gy | _ => false) && onM p a b F && invs p p
def chunk (p a : Nat) (F : List Pt) (k c : Nat) : Bool := rows p a F ((F.drop k).take c) ((F.tail ++ (none :: F)).drop k)
theorem row_at {p a x1 y1 : Nat} : ∀ {F S : List Pt}, row p a x1 y1 F S = true → ∀ (j : Nat) (q : Pt), F[j]? = some q → ∃ s, S[j]? = some s ∧ one p a x1 y1 q s = true
  | [], _, _, j, q, h => by simp at h
  | q0 :: qs, [], h, _, _, _ => by simp [row] at h
  | q0 :: qs, s0 :: ss, h, j, q, hq => by
    simp only [row, Bool.and_eq_true] at h
    cases j with
    | zero => simp at hq; subst hq; exact ⟨s0, by simp, h.1⟩
    | succ j => obtain ⟨s, h1, h2⟩ := row_at h.2 j q (by simpa using hq); exact ⟨s, by simpa using h1, h2⟩
theorem rows_at {p a : Nat} {F : List Pt} : ∀ {G S : List Pt}, rows p a F G S = true → ∀ (i : Nat) (q : Pt), G[i]? = some q → ∃ x y, q = some (x, y) ∧ row p a x y F (S.drop i) = true
  | [], _, _, i, q, h => by simp at h
  | q0 :: qs, S, h, i, q, hq => by
    simp only [rows, Bool.and_eq_true] at h
    cases i with
    | zero =>
      simp at hq; subst hq
      cases q0 with
      | none => simp at h
      | some v => exact ⟨v.1, v.2, rfl, h.1⟩
    | succ i =>
      obtain ⟨x, y, h1, h2⟩ := rows_at h.2 i q (by simpa using hq)
      refine ⟨x, y, h1, ?_⟩
      rwa [← List.drop_one, List.drop_drop, Nat.add_comm 1 i] at h2
theorem chunk_at {p a k c : Nat} {F : List Pt} (h : chunk p a F k c = true) (i : Nat) (q : Pt) (hq : F[i]? = some q) (h1 : k ≤ i) (h2 : i < k + c) : ∃ x y, q = some (x, y) ∧ row p a x y F ((F.tail ++ (none :: F)).drop i) = true := by
  unfold chunk at h
  obtain ⟨x, y, e, hr⟩ := rows_at h (i - k) q (by rw [List.getElem?_take, if_pos (by omega), List.getElem?_drop, show k + (i - k) = i from by omega]; exact hq)
  rw [List.drop_drop, show k + (i - k) = i from by omega] at hr
  exact ⟨x, y, e, hr⟩
theorem onM_at {p a b : Nat} : ∀ {F : List Pt}, onM p a b F = true → ∀ (i : Nat) (q : Pt), F[i]? = some q → ∃ x y, q = some (x, y) ∧ x < p ∧ y < p ∧ y * y % p = sideM p a b x
  | [], _, i, q, h => by simp at h
  | q0 :: qs, h, i, q, hq => by
    simp only [onM, Bool.and_eq_true] at h
    cases i with
    | zero =>
      simp at hq; subst hq
      cases q0 with
      | none => simp at h
      | some v =>
        have h1 := h.1
        simp only [Bool.and_eq_true] at h1
        exact ⟨v.1, v.2, rfl, Nat.blt_eq ▸ h1.1.1, Nat.blt_eq ▸ h1.1.2, Nat.eq_of_beq_eq_true h1.2⟩
    | succ i => exact onM_at h.2 i q (by simpa using hq)
theorem invs_at {p : Nat} : ∀ {k : Nat}, invs p k = true → ∀ d, d < k → d ≠ 0 → (d ^ (p - 2) % p) * d % p = 1
  | 0, _, d, h, _ => by omega
  | k + 1, h, d, hd, h0 => by
    simp only [invs, Bool.and_eq_true, Bool.or_eq_true] at h
    by_cases e : d = k
    · subst e
      rcases h.1 with h1 | h1
      · exact absurd (Nat.eq_of_beq_eq_true h1) h0
      · exact Nat.eq_of_beq_eq_true h1
    · exact invs_at h.2 d (by omega) h0
theorem gcd_of_inv {p d i : Nat} (h : i * d % p = 1) : Nat.gcd p d = 1 := by
  have h1 : Nat.gcd p d ∣ p := Nat.gcd_dvd_left _ _
  have h2 : Nat.gcd p d ∣ i * d := Nat.dvd_trans (Nat.gcd_dvd_right _ _) (Nat.dvd_mul_left _ _)
  have h3 : Nat.gcd p d ∣ i * d % p := (Nat.dvd_mod_iff h1).2 h2
  rw [h] at h3
  exact Nat.dvd_one.1 h3
def T (F : List Pt) (n i : Nat) : Nat × Nat × Bool := if i % n = 0 then (0, 0, true) else match F[i % n - 1]? with | some (some (x, y)) => (x, y, false) | _ => (0, 0, true)
end Go.Proofs.YtcfefmbbbfdppaaGreatDoor.GM
