/- What a curve's points come to: 'fault', 'add'. Conditions: Good, points of the curve, an inverse. -/
import Derived.Test.YtcfefmbbbfdppaaGreatDoorSBytes
import Derived.Test.YtcfefmbbbfdppaaGreatDoorSPField
import Derived.Test.YtcfefmbbbfdppaaGreatDoorSDFun
import Derived.Test.YtcfefmbbbfdppaaGreatDoorSDSl
namespace Go.Proofs.YtcfefmbbbfdppaaGreatDoor
open Go.RowKit
set_option linter.unusedVariables false
set_option maxRecDepth 100000
def rg (m : Nat) : List D := ud m ++ [.opq]
def pt (x y : Nat) (f : Bool) : List D := ud x ++ (ud y ++ [.bool f])
def cv (p a b n x y : Nat) (f : Bool) : List D := ud p ++ (ud a ++ (ud b ++ (ud n ++ pt x y f)))
theorem pt_all (x y : Nat) (f : Bool) : List.take 9 (pt x y f) = pt x y f := rfl
theorem pt_x (x y : Nat) (f : Bool) : List.take 4 (pt x y f) = ud x := rfl
theorem pt_y (x y : Nat) (f : Bool) : List.take 4 (List.drop 4 (pt x y f)) = ud y := rfl
theorem cv_all (p a b n x y : Nat) (f : Bool) : List.take 25 (cv p a b n x y f) = cv p a b n x y f := rfl
theorem cv_p (p a b n x y : Nat) (f : Bool) : List.take 4 (cv p a b n x y f) = ud p := rfl
theorem cv_a (p a b n x y : Nat) (f : Bool) : List.take 4 (List.drop 4 (cv p a b n x y f)) = ud a := rfl
theorem cv_b (p a b n x y : Nat) (f : Bool) : List.take 4 (List.drop 8 (cv p a b n x y f)) = ud b := rfl
theorem cv_n (p a b n x y : Nat) (f : Bool) : List.take 4 (List.drop 12 (cv p a b n x y f)) = ud n := rfl
theorem cv_g (p a b n x y : Nat) (f : Bool) : List.take 9 (List.drop 16 (cv p a b n x y f)) = pt x y f := rfl
theorem cv_gx (p a b n x y : Nat) (f : Bool) : List.take 4 (List.drop 16 (cv p a b n x y f)) = ud x := rfl
theorem pt_len (x y : Nat) (f : Bool) : (pt x y f).length = 9 := rfl
theorem cv_len (p a b n x y : Nat) (f : Bool) : (cv p a b n x y f).length = 25 := rfl
theorem rg_len (m : Nat) : (rg m).length = 5 := rfl
def rl (m l : Nat) : List D := ud m ++ [.ptr l 0]
theorem ren_rl (f : Nat → Nat) (m l : Nat) : D.ren f (.agg (rl m l)) = .agg (rl m (f l)) := rfl
theorem rl_all (m l : Nat) : List.take 5 (rl m l) = rl m l := rfl
theorem rl_m (m l : Nat) : List.take 4 (rl m l) = ud m := rfl
theorem rl_len (m l : Nat) : (rl m l).length = 5 := rfl
theorem rl_nil (m l : Nat) : rl m l ++ [] = rl m l := rfl
theorem pt_nil (x y : Nat) (f : Bool) : pt x y f ++ [] = pt x y f := rfl
theorem take_okC (m a : Nat) : Pur Tryz.prog 81 [.agg (rg m), U a, .int .i64 0] (U a) := by
  refine pur_intro Tryz.func81 rfl Tryz.ntmps81 rfl (by first | rfl | assumption | exact bs_cl _) fun B => ?_
  refine zR ?_
  (first | with_reducible refine q_endr ?_); refine rets1 Tryz.results81 (by exact zv) ?_
  rfl
theorem radd (m a b r : Nat) (hm : m < M256) (ha : a < m) (hb : b < m) (hr : (a + b) % m = r) : Pur Tryz.prog 50 [.agg (rg m), U a, U b] (U r) := by
  refine pur_intro Tryz.func50 rfl Tryz.ntmps50 rfl (by first | rfl | assumption | exact bs_cl _) fun B => ?_
  repeat (first | refine zC ?_ | refine zA ?_ | refine k_call rfl (p_fadd _ _ _ _ hm ha hb hr) rfl rfl rfl rfl ?_ | refine k_call rfl (take_okC _ _) rfl rfl rfl rfl ?_ | refine zB ?_)
  (first | with_reducible refine q_endr ?_); refine rets1 Tryz.results50 (by exact zv) ?_
  rfl
theorem rsub (m a b r : Nat) (hm : m < M256) (ha : a < m) (hb : b < m) (hr : (a + m - b) % m = r) : Pur Tryz.prog 84 [.agg (rg m), U a, U b] (U r) := by
  refine pur_intro Tryz.func84 rfl Tryz.ntmps84 rfl (by first | rfl | assumption | exact bs_cl _) fun B => ?_
  repeat (first | refine zC ?_ | refine zA ?_ | refine k_call rfl (p_fsub _ _ _ _ hm ha hb hr) rfl rfl rfl rfl ?_ | refine k_call rfl (take_okC _ _) rfl rfl rfl rfl ?_ | refine zB ?_)
  (first | with_reducible refine q_endr ?_); refine rets1 Tryz.results84 (by exact zv) ?_
  rfl
theorem rmul (m a b r : Nat) (hm : m < M256) (ha : a < m) (hb : b < m) (hr : a * b % m = r) : Pur Tryz.prog 48 [.agg (rg m), U a, U b] (U r) := by
  refine pur_intro Tryz.func48 rfl Tryz.ntmps48 rfl (by first | rfl | assumption | exact bs_cl _) fun B => ?_
  repeat (first | refine zC ?_ | refine zA ?_ | refine k_call rfl (p_fmul _ _ _ _ hm ha hb hr) rfl rfl rfl rfl ?_ | refine k_call rfl (take_okC _ _) rfl rfl rfl rfl ?_ | refine zB ?_)
  (first | with_reducible refine q_endr ?_); refine rets1 Tryz.results48 (by exact zv) ?_
  rfl
theorem rinv (m a i : Nat) (hm : m < M256) (ha : a < m) (hi : i < m) (ei : i * a % m = 1 % m) (hg : Nat.gcd m a = 1) : Pur Tryz.prog 85 [.agg (rg m), U a] (U i) := by
  refine pur_intro Tryz.func85 rfl Tryz.ntmps85 rfl (by first | rfl | assumption | exact bs_cl _) fun B => ?_
  repeat (first | refine zC ?_ | refine zA ?_ | refine k_call rfl (p_finv _ _ _ hm ha hi ei hg) rfl rfl rfl rfl ?_ | refine k_call rfl (take_okC _ _) rfl rfl rfl rfl ?_ | refine zB ?_)
  (first | with_reducible refine q_endr ?_); refine rets1 Tryz.results85 (by exact zv) ?_
  rfl
theorem ringOf_ok (p a b n x y : Nat) (f : Bool) : PurN Tryz.prog 47 [.agg (cv p a b n x y f)] 2 4 [.bool false] (.agg (rl p 2)) := by
  refine purn_intro Tryz.func47 rfl Tryz.ntmps47 rfl fun B => ?_
  refine zR ?_
  exact q_endNr Tryz.results47 (RetV.cell _ _ _ _ _ _ _ _ inferInstance rfl rfl rfl) rfl
end Go.Proofs.YtcfefmbbbfdppaaGreatDoor
namespace Go.Proofs.YtcfefmbbbfdppaaGreatDoor
open Go.RowKit
set_option linter.unusedVariables false
set_option maxRecDepth 100000
--nrm pt_all pt_x pt_y cv_all cv_p cv_a cv_b cv_n cv_g cv_gx pt_len cv_len rg_len ren_rl rl_all rl_m rl_len rl_nil pt_nil
def sideN (p a b x : Nat) : Nat := ((x * (x * x % p) % p + a * x % p) % p + b) % p
def onN (p a b x y : Nat) : Bool := decide (y * y % p = sideN p a b x)
theorem cmp_m1 {a b : Nat} (h : a < b) : cmpI a b = -1 := by unfold cmpI; rw [if_pos h]
theorem cmp_p1 {a b : Nat} (h : b < a) : cmpI a b = 1 := by unfold cmpI; rw [if_neg (by omega), if_pos h]
theorem cmp_00 {a b : Nat} (h : a = b) : cmpI a b = 0 := by unfold cmpI; rw [if_neg (by omega), if_neg (by omega)]
theorem U_lit (n : Nat) (h : n < 18446744073709551616) : D.agg [.int .u64 (n : Int), .int .u64 0, .int .u64 0, .int .u64 0] = U n := by
  have e : lim n 0 = n ∧ lim n 1 = 0 ∧ lim n 2 = 0 ∧ lim n 3 = 0 := ⟨by simp only [lim0]; omega, by simp only [lim1]; omega, by simp only [lim2]; omega, by simp only [lim3]; omega⟩
  unfold U ud
  rw [e.1, e.2.1, e.2.2.1, e.2.2.2]
theorem p_div_small (a b r : Nat) (x : Int) (hx : x = a) (ha : a < 18446744073709551616) (hb : b < M256) (hb0 : 0 < b) (hr : a % b = r) : Pur Tryz.prog 70 [.agg [.int .u64 x, .int .u64 0, .int .u64 0, .int .u64 0], U b] (.tup [U (a / b), U r, .int .i64 0]) := by
  subst hx
  rw [U_lit a ha]
  exact p_div a b _ r (by unfold M256; omega) hb hb0 rfl hr
theorem small_okC (m k r : Nat) (x : Int) (hx : x = k) (hk : k < 18446744073709551616) (hm : m < M256) (h0 : 0 < m) (hr : k % m = r) : Pur Tryz.prog 49 [.agg (rg m), .int .u64 x] (U r) := by
  refine pur_intro Tryz.func49 rfl Tryz.ntmps49 rfl (by first | rfl | assumption | exact bs_cl _) fun B => ?_
  repeat (first | (with_reducible refine R_nil ?_; try dsimp only [slots0, slots_ud, pt_all, pt_x, pt_y, cv_all, cv_p, cv_a, cv_b, cv_n, cv_g, cv_gx, pt_len, cv_len, rg_len, ren_rl, rl_all, rl_m, rl_len, rl_nil, pt_nil, cells_U, agg_ud, drop0, dropS, takeS, take0, ud_nil, take_ud, take_ud0, drop_ud, drop_ud0, take_udk, D.cells, D.fz, D.fzs, List.take_succ_cons, List.take_zero, List.drop_succ_cons, List.drop_zero, List.cons_append, List.nil_append, List.append_eq, List.length_cons, List.length_nil, Nat.reduceAdd, Nat.reduceMul, Nat.reduceSub, Int.reduceAdd, Int.reduceSub, Int.reduceToNat, Int.reduceNeg, Int.reduceMul]) | refine zC ?_ | refine zA ?_ | refine k_call rfl (p_div_small k _ _ _ hx hk hm h0 hr) rfl rfl rfl rfl ?_ | refine zB ?_)
  (first | with_reducible refine q_endr ?_); refine rets1 Tryz.results49 (by exact zv) ?_
  rfl
theorem side_ok (p a b n gx gy x r : Nat) (f : Bool) (hp : p < M256) (h0 : 0 < p) (ha : a < p) (hb : b < p) (hx : x < p) (hr : sideN p a b x = r) : Pur Tryz.prog 83 [.agg (cv p a b n gx gy f), .agg (rg p), U x] (U r) := by
  subst hr
  refine pur_intro Tryz.func83 rfl Tryz.ntmps83 rfl (by first | rfl | assumption | exact bs_cl _) fun B => ?_
  repeat (first | (with_reducible refine R_nil ?_; try dsimp only [slots0, slots_ud, pt_all, pt_x, pt_y, cv_all, cv_p, cv_a, cv_b, cv_n, cv_g, cv_gx, pt_len, cv_len, rg_len, ren_rl, rl_all, rl_m, rl_len, rl_nil, pt_nil, cells_U, agg_ud, drop0, dropS, takeS, take0, ud_nil, take_ud, take_ud0, drop_ud, drop_ud0, take_udk, D.cells, D.fz, D.fzs, List.take_succ_cons, List.take_zero, List.drop_succ_cons, List.drop_zero, List.cons_append, List.nil_append, List.append_eq, List.length_cons, List.length_nil, Nat.reduceAdd, Nat.reduceMul, Nat.reduceSub, Int.reduceAdd, Int.reduceSub, Int.reduceToNat, Int.reduceNeg, Int.reduceMul]) | refine zC ?_ | refine zA ?_ | refine k_call rfl (rmul _ _ _ _ hp (by first | assumption | exact Nat.mod_lt _ h0) (by first | assumption | exact Nat.mod_lt _ h0) rfl) rfl rfl rfl rfl ?_ | refine k_call rfl (radd _ _ _ _ hp (by first | assumption | exact Nat.mod_lt _ h0) (by first | assumption | exact Nat.mod_lt _ h0) rfl) rfl rfl rfl rfl ?_ | refine zB ?_)
  (first | with_reducible refine q_endr ?_); refine rets1 Tryz.results83 (by exact zv) ?_
  rfl
theorem on_ok (p a b n gx gy x y : Nat) (f : Bool) (hp : p < M256) (h0 : 0 < p) (ha : a < p) (hb : b < p) (hx : x < p) (hy : y < p) : Pur Tryz.prog 51 [.agg (cv p a b n gx gy f), .agg (pt x y false)] (.bool (onN p a b x y)) := by
  refine pur_intro Tryz.func51 rfl Tryz.ntmps51 rfl (by first | rfl | assumption | exact bs_cl _) fun B => ?_
  repeat (first | (with_reducible refine R_nil ?_; try dsimp only [slots0, slots_ud, pt_all, pt_x, pt_y, cv_all, cv_p, cv_a, cv_b, cv_n, cv_g, cv_gx, pt_len, cv_len, rg_len, ren_rl, rl_all, rl_m, rl_len, rl_nil, pt_nil, cells_U, agg_ud, drop0, dropS, takeS, take0, ud_nil, take_ud, take_ud0, drop_ud, drop_ud0, take_udk, D.cells, D.fz, D.fzs, List.take_succ_cons, List.take_zero, List.drop_succ_cons, List.drop_zero, List.cons_append, List.nil_append, List.append_eq, List.length_cons, List.length_nil, Nat.reduceAdd, Nat.reduceMul, Nat.reduceSub, Int.reduceAdd, Int.reduceSub, Int.reduceToNat, Int.reduceNeg, Int.reduceMul]) | refine zC ?_ | refine zA ?_ | refine k_call rfl (p_cmpF _ _ (-1) (Nat.lt_trans hx hp) hp (cmp_m1 hx)) rfl rfl rfl rfl ?_ | refine k_call rfl (p_cmpF _ _ (-1) (Nat.lt_trans hy hp) hp (cmp_m1 hy)) rfl rfl rfl rfl ?_ | refine k_calln rfl (ringOf_ok _ _ _ _ _ _ _) rfl rfl rfl rfl rfl rfl ?_ | refine k_call rfl (rmul _ _ _ _ hp hy hy rfl) rfl rfl rfl rfl ?_ | refine k_call rfl (side_ok _ _ _ _ _ _ _ _ _ hp h0 ha hb hx rfl) rfl rfl rfl rfl ?_ | refine zB ?_)
  (first | with_reducible refine q_endr ?_); refine rets1 Tryz.results51 (by exact zv) ?_
  show D.bool _ = _
  have hs : sideN p a b x < p := Nat.mod_lt _ h0
  rw [deqs_ud _ _ (Nat.lt_trans (Nat.mod_lt _ h0) hp) (Nat.lt_trans hs hp)]
  rfl
theorem on_far (p a b n gx gy : Nat) (f : Bool) : Pur Tryz.prog 51 [.agg (cv p a b n gx gy f), .agg (pt 0 0 true)] (.bool true) := by
  refine pur_intro Tryz.func51 rfl Tryz.ntmps51 rfl (by first | rfl | assumption | exact bs_cl _) fun B => ?_
  repeat (first | (with_reducible refine R_nil ?_; try dsimp only [slots0, slots_ud, pt_all, pt_x, pt_y, cv_all, cv_p, cv_a, cv_b, cv_n, cv_g, cv_gx, pt_len, cv_len, rg_len, ren_rl, rl_all, rl_m, rl_len, rl_nil, pt_nil, cells_U, agg_ud, drop0, dropS, takeS, take0, ud_nil, take_ud, take_ud0, drop_ud, drop_ud0, take_udk, D.cells, D.fz, D.fzs, List.take_succ_cons, List.take_zero, List.drop_succ_cons, List.drop_zero, List.cons_append, List.nil_append, List.append_eq, List.length_cons, List.length_nil, Nat.reduceAdd, Nat.reduceMul, Nat.reduceSub, Int.reduceAdd, Int.reduceSub, Int.reduceToNat, Int.reduceNeg, Int.reduceMul]) | refine zC ?_ | refine zA ?_ | refine k_eqa rfl rfl rfl rfl rfl (show deqs (ud 0) (ud 0) = true from rfl) ?_ | refine zB ?_)
  (first | with_reducible refine q_endr ?_); refine rets1 Tryz.results51 (by exact zv) ?_
  rfl
structure Good (p a b n gx gy : Nat) : Prop where
  hp : p < M256
  h3 : 3 < p
  h4 : p % 4 = 3
  ha : a < p
  hb : b < p
  hn : n < M256
  h1 : 1 < n
  hd : (4 % p * (a * (a * a % p) % p) % p + 27 % p * (b * b % p) % p) % p ≠ 0
  hgx : gx < p
  hgy : gy < p
  hon : onN p a b gx gy = true
theorem low4 (p : Nat) (h : p % 4 = 3) : (lim p 0).tmod 4 = 3 := by
  simp only [lim0]
  rw [Int.tmod_eq_emod_of_nonneg (by omega)]; omega
end Go.Proofs.YtcfefmbbbfdppaaGreatDoor
namespace Go.Proofs.YtcfefmbbbfdppaaGreatDoor
open Go.RowKit
set_option linter.unusedVariables false
set_option maxRecDepth 100000
--nrm pt_all pt_x pt_y cv_all cv_p cv_a cv_b cv_n cv_g cv_gx pt_len cv_len rg_len ren_rl rl_all rl_m rl_len rl_nil pt_nil
set_option maxHeartbeats 2000000 in
theorem Check_ok {p a b n gx gy : Nat} (g : Good p a b n gx gy) : Pur Tryz.prog 20 [.agg (cv p a b n gx gy false)] (.int .i64 0) := by
  have hp := g.hp
  have h0 : 0 < p := by have := g.h3; omega
  have hl := low4 p g.h4
  have hd : deqs (ud ((4 % p * (a * (a * a % p) % p) % p + 27 % p * (b * b % p) % p) % p)) (ud 0) = false := by
    rw [deqs_ud _ _ (Nat.lt_trans (Nat.mod_lt _ h0) hp) (by decide)]; simpa using g.hd
  have hon := on_ok p a b n gx gy gx gy false hp h0 g.ha g.hb g.hgx g.hgy
  rw [g.hon] at hon
  refine pur_intro Tryz.func20 rfl Tryz.ntmps20 rfl (by first | rfl | assumption | exact bs_cl _) fun B => ?_
  repeat (first | (with_reducible refine R_nil ?_; try dsimp only [slots0, slots_ud, pt_all, pt_x, pt_y, cv_all, cv_p, cv_a, cv_b, cv_n, cv_g, cv_gx, pt_len, cv_len, rg_len, ren_rl, rl_all, rl_m, rl_len, rl_nil, pt_nil, cells_U, agg_ud, drop0, dropS, takeS, take0, ud_nil, take_ud, take_ud0, drop_ud, drop_ud0, take_udk, D.cells, D.fz, D.fzs, List.take_succ_cons, List.take_zero, List.drop_succ_cons, List.drop_zero, List.cons_append, List.nil_append, List.append_eq, List.length_cons, List.length_nil, Nat.reduceAdd, Nat.reduceMul, Nat.reduceSub, Int.reduceAdd, Int.reduceSub, Int.reduceToNat, Int.reduceNeg, Int.reduceMul]) | refine zC ?_ | refine zA ?_ | refine k_call rfl (p_cmpF p 3 1 hp (by decide) (cmp_p1 g.h3)) rfl rfl rfl rfl ?_ | refine k_call rfl (p_cmpF n 1 1 g.hn (by decide) (cmp_p1 g.h1)) rfl rfl rfl rfl ?_ | refine k_call rfl (p_cmpF a p (-1) (Nat.lt_trans g.ha hp) hp (cmp_m1 g.ha)) rfl rfl rfl rfl ?_ | refine k_call rfl (p_cmpF b p (-1) (Nat.lt_trans g.hb hp) hp (cmp_m1 g.hb)) rfl rfl rfl rfl ?_ | (refine k_rem rfl rfl rfl ?_ hl ?_; (decide)) | refine k_calln rfl (ringOf_ok _ _ _ _ _ _ _) rfl rfl rfl rfl rfl rfl ?_ | refine k_call rfl (small_okC p 4 _ 4 rfl (by decide) hp h0 rfl) rfl rfl rfl rfl ?_ | refine k_call rfl (small_okC p 27 _ 27 rfl (by decide) hp h0 rfl) rfl rfl rfl rfl ?_ | refine k_call rfl (rmul _ _ _ _ hp (by first | exact g.ha | exact g.hb | exact Nat.mod_lt _ h0) (by first | exact g.ha | exact g.hb | exact Nat.mod_lt _ h0) rfl) rfl rfl rfl rfl ?_ | refine k_call rfl (radd _ _ _ _ hp (Nat.mod_lt _ h0) (Nat.mod_lt _ h0) rfl) rfl rfl rfl rfl ?_ | refine k_call rfl hon rfl rfl rfl rfl ?_ | refine k_eqa rfl rfl rfl rfl rfl hd ?_ | refine zB ?_)
  (first | with_reducible refine q_endr ?_); refine rets1 Tryz.results20 (by exact zv) ?_
  rfl
end Go.Proofs.YtcfefmbbbfdppaaGreatDoor
namespace Go.Proofs.YtcfefmbbbfdppaaGreatDoor
open Go.RowKit
set_option linter.unusedVariables false
set_option maxRecDepth 100000
--nrm pt_all pt_x pt_y cv_all cv_p cv_a cv_b cv_n cv_g cv_gx pt_len cv_len rg_len ren_rl rl_all rl_m rl_len rl_nil pt_nil ptD_all
abbrev P3 := Nat × Nat × Bool
def ptD (q : P3) : List D := pt q.1 q.2.1 q.2.2
def ptsD : List P3 → List D
  | [] => []
  | q :: qs => ptD q ++ ptsD qs
theorem ptD_all (q : P3) : List.take 9 (ptD q) = ptD q := rfl
theorem ptD_len (q : P3) : (ptD q).length = 9 := rfl
theorem ptsD_len : ∀ (qs : List P3), (ptsD qs).length = qs.length * 9
  | [] => rfl
  | q :: qs => by simp only [ptsD, List.length_append, ptsD_len qs, ptD_len, List.length_cons]; omega
theorem ptsD_at : ∀ (qs : List P3) (k : Nat) (q : P3), qs[k]? = some q → ((ptsD qs).drop (k * 9)).take 9 = ptD q
  | [], k, q, h => by simp at h
  | x :: qs, 0, q, h => by
    simp at h; subst h
    simp only [ptsD, Nat.zero_mul, List.drop_zero]
    rw [List.take_append_of_le_length (by rw [ptD_len]; omega), List.take_of_length_le (by rw [ptD_len]; omega)]
  | x :: qs, k + 1, q, h => by
    simp only [ptsD]
    rw [show (k + 1) * 9 = 9 + k * 9 from by omega, ← List.drop_drop, List.drop_append_of_le_length (by rw [ptD_len]; omega), List.drop_of_length_le (l := ptD x) (by rw [ptD_len]; omega), List.nil_append]
    exact ptsD_at qs k q (by simpa using h)
def OnP (p a b : Nat) (q : P3) : Prop := q = (0, 0, true) ∨ (q.2.2 = false ∧ q.1 < p ∧ q.2.1 < p ∧ onN p a b q.1 q.2.1 = true)
theorem on_any {p a b n gx gy : Nat} (g : Good p a b n gx gy) (q : P3) (h : OnP p a b q) : Pur Tryz.prog 51 [.agg (cv p a b n gx gy false), .agg (ptD q)] (.bool true) := by
  rcases h with rfl | ⟨h1, h2, h3, h4⟩
  · exact on_far p a b n gx gy false
  · obtain ⟨x, y, f⟩ := q
    simp only at h1 h2 h3 h4
    subst h1
    have := on_ok p a b n gx gy x y false g.hp (by have := g.h3; omega) g.ha g.hb h2 h3
    rw [h4] at this
    exact this
theorem fault_okC {p a b n gx gy : Nat} (g : Good p a b n gx gy) (qs : List P3) (hq : ∀ q ∈ qs, OnP p a b q) (hl : qs.length < 1000000) : Pur Tryz.prog 52 [.agg (cv p a b n gx gy false), .slice .frozen qs.length (ptsD qs)] (.int .i64 0) := by
  refine pur_intro Tryz.func52 rfl Tryz.ntmps52 rfl (by first | rfl | assumption | exact bs_cl _) fun B => ?_
  repeat (first | (with_reducible refine R_nil ?_; try dsimp only [slots0, slots_ud, pt_all, pt_x, pt_y, cv_all, cv_p, cv_a, cv_b, cv_n, cv_g, cv_gx, pt_len, cv_len, rg_len, ren_rl, rl_all, rl_m, rl_len, rl_nil, pt_nil, ptD_all, cells_U, agg_ud, drop0, dropS, takeS, take0, ud_nil, take_ud, take_ud0, drop_ud, drop_ud0, take_udk, D.cells, D.fz, D.fzs, List.take_succ_cons, List.take_zero, List.drop_succ_cons, List.drop_zero, List.cons_append, List.nil_append, List.append_eq, List.length_cons, List.length_nil, Nat.reduceAdd, Nat.reduceMul, Nat.reduceSub, Int.reduceAdd, Int.reduceSub, Int.reduceToNat, Int.reduceNeg, Int.reduceMul]) | refine zC ?_ | refine zA ?_ | refine k_call rfl (Check_ok g) rfl rfl rfl rfl ?_ | refine zB ?_)
  refine W_loop (fun n' ρ m nx => ∃ k : Nat, k ≤ qs.length ∧ n' = qs.length - k ∧ ρ = [(15, .int .i64 (k : Int)), (14, .int .i64 (qs.length : Int)), (13, .slice .frozen qs.length (ptsD qs)), (4, .int .i64 0), (2, .ptr 0 0)] ∧ m = [(0, some (.var 43 (cv p a b n gx gy false)))] ∧ nx = 1)
    ⟨_, _, _, _, (by exact zs), (by exact zm), 0, Nat.zero_le _, rfl, rfl, rfl, rfl⟩ ?_
  rintro n' ρ m nx ⟨k, hk, rfl, rfl, rfl, rfl⟩
  by_cases hlt : k < qs.length
  · have hget : qs[k]? = some qs[k] := List.getElem?_eq_getElem hlt
    have hon := on_any g qs[k] (hq _ (List.getElem_mem hlt))
    have hcut : cut ⟨true, 9, [.int .u64 0, .int .u64 0, .int .u64 0, .int .u64 0, .int .u64 0, .int .u64 0, .int .u64 0, .int .u64 0, .bool false]⟩ 0 ((ptsD qs).drop ((k : Int).toNat * 9)) = some (.agg (ptD qs[k])) := by
      have h9 := ptsD_len qs
      unfold cut
      simp only [cond_true, Int.toNat_natCast, Nat.zero_add, List.length_drop, h9, List.drop_zero]
      rw [Nat.ble_eq_true_of_le (by omega), cond_true, ptsD_at qs k _ hget]
    repeat (first | (with_reducible refine R_nil ?_; try dsimp only [slots0, slots_ud, pt_all, pt_x, pt_y, cv_all, cv_p, cv_a, cv_b, cv_n, cv_g, cv_gx, pt_len, cv_len, rg_len, ren_rl, rl_all, rl_m, rl_len, rl_nil, pt_nil, ptD_all, cells_U, agg_ud, drop0, dropS, takeS, take0, ud_nil, take_ud, take_ud0, drop_ud, drop_ud0, take_udk, D.cells, D.fz, D.fzs, List.take_succ_cons, List.take_zero, List.drop_succ_cons, List.drop_zero, List.cons_append, List.nil_append, List.append_eq, List.length_cons, List.length_nil, Nat.reduceAdd, Nat.reduceMul, Nat.reduceSub, Int.reduceAdd, Int.reduceSub, Int.reduceToNat, Int.reduceNeg, Int.reduceMul]) | refine zC ?_ | refine zA ?_ | (refine k_indexAddrs rfl rfl rfl ⟨?_, ?_⟩ (ptsD_len qs).symm ?_; (omega); (omega)) | refine k_loade rfl rfl hcut ?_ | refine k_call rfl hon rfl rfl rfl rfl ?_ | refine zB ?_)
    exact ⟨qs.length - (k + 1), _, _, _, (by exact zs), (by exact zm), by omega, k + 1, by omega, rfl, rfl, rfl, rfl⟩
  · repeat (first | (with_reducible refine R_nil ?_; try dsimp only [slots0, slots_ud, pt_all, pt_x, pt_y, cv_all, cv_p, cv_a, cv_b, cv_n, cv_g, cv_gx, pt_len, cv_len, rg_len, ren_rl, rl_all, rl_m, rl_len, rl_nil, pt_nil, ptD_all, cells_U, agg_ud, drop0, dropS, takeS, take0, ud_nil, take_ud, take_ud0, drop_ud, drop_ud0, take_udk, D.cells, D.fz, D.fzs, List.take_succ_cons, List.take_zero, List.drop_succ_cons, List.drop_zero, List.cons_append, List.nil_append, List.append_eq, List.length_cons, List.length_nil, Nat.reduceAdd, Nat.reduceMul, Nat.reduceSub, Int.reduceAdd, Int.reduceSub, Int.reduceToNat, Int.reduceNeg, Int.reduceMul]) | refine zC ?_ | refine zAB ?_)
    (first | with_reducible refine q_endr ?_); refine rets1 Tryz.results52 (by exact zv) ?_
    rfl
section
variable (p a b n gx gy : Nat)
theorem add_farL (x y : Nat) (q : P3) : Pur Tryz.prog 53 [.agg (cv p a b n gx gy false), .agg (pt x y true), .agg (ptD q)] (.tup [.agg (ptD q), .bool true]) := by
  refine pur_intro Tryz.func53 rfl Tryz.ntmps53 rfl (by first | rfl | assumption | exact bs_cl _) fun B => ?_
  repeat (first | (with_reducible refine R_nil ?_; try dsimp only [slots0, slots_ud, pt_all, pt_x, pt_y, cv_all, cv_p, cv_a, cv_b, cv_n, cv_g, cv_gx, pt_len, cv_len, rg_len, ren_rl, rl_all, rl_m, rl_len, rl_nil, pt_nil, ptD_all, cells_U, agg_ud, drop0, dropS, takeS, take0, ud_nil, take_ud, take_ud0, drop_ud, drop_ud0, take_udk, D.cells, D.fz, D.fzs, List.take_succ_cons, List.take_zero, List.drop_succ_cons, List.drop_zero, List.cons_append, List.nil_append, List.append_eq, List.length_cons, List.length_nil, Nat.reduceAdd, Nat.reduceMul, Nat.reduceSub, Int.reduceAdd, Int.reduceSub, Int.reduceToNat, Int.reduceNeg, Int.reduceMul]) | refine zC ?_ | refine zAB ?_)
  (first | with_reducible refine q_endr ?_); refine rets2 Tryz.results53 (by exact zv) (by exact zv) ?_ ?_
  · rfl
  · rfl
theorem add_farR (x1 y1 x2 y2 : Nat) : Pur Tryz.prog 53 [.agg (cv p a b n gx gy false), .agg (pt x1 y1 false), .agg (pt x2 y2 true)] (.tup [.agg (pt x1 y1 false), .bool true]) := by
  refine pur_intro Tryz.func53 rfl Tryz.ntmps53 rfl (by first | rfl | assumption | exact bs_cl _) fun B => ?_
  repeat (first | (with_reducible refine R_nil ?_; try dsimp only [slots0, slots_ud, pt_all, pt_x, pt_y, cv_all, cv_p, cv_a, cv_b, cv_n, cv_g, cv_gx, pt_len, cv_len, rg_len, ren_rl, rl_all, rl_m, rl_len, rl_nil, pt_nil, ptD_all, cells_U, agg_ud, drop0, dropS, takeS, take0, ud_nil, take_ud, take_ud0, drop_ud, drop_ud0, take_udk, D.cells, D.fz, D.fzs, List.take_succ_cons, List.take_zero, List.drop_succ_cons, List.drop_zero, List.cons_append, List.nil_append, List.append_eq, List.length_cons, List.length_nil, Nat.reduceAdd, Nat.reduceMul, Nat.reduceSub, Int.reduceAdd, Int.reduceSub, Int.reduceToNat, Int.reduceNeg, Int.reduceMul]) | refine zC ?_ | refine zAB ?_)
  (first | with_reducible refine q_endr ?_); refine rets2 Tryz.results53 (by exact zv) (by exact zv) ?_ ?_
  · rfl
  · rfl
set_option maxHeartbeats 4000000 in
theorem add_opp (x1 y1 y2 : Nat) (hp : p < M256) (h3 : 3 < p) (hx1 : x1 < p) (hy1 : y1 < p) (hy2 : y2 < p) (hs : (y1 + y2) % p = 0) : Pur Tryz.prog 53 [.agg (cv p a b n gx gy false), .agg (pt x1 y1 false), .agg (pt x1 y2 false)] (.tup [.agg (pt 0 0 true), .bool true]) := by
  have h0 : 0 < p := by omega
  have hd1 : deqs (ud x1) (ud x1) = true := by rw [deqs_ud _ _ (Nat.lt_trans hx1 hp) (Nat.lt_trans hx1 hp)]; simp
  have hd2 : deqs (ud ((y1 + y2) % p)) (ud 0) = true := by rw [hs]; rfl
  refine pur_intro Tryz.func53 rfl Tryz.ntmps53 rfl (by first | rfl | assumption | exact bs_cl _) fun B => ?_
  repeat (first | (with_reducible refine R_nil ?_; try dsimp only [slots0, slots_ud, pt_all, pt_x, pt_y, cv_all, cv_p, cv_a, cv_b, cv_n, cv_g, cv_gx, pt_len, cv_len, rg_len, ren_rl, rl_all, rl_m, rl_len, rl_nil, pt_nil, ptD_all, cells_U, agg_ud, drop0, dropS, takeS, take0, ud_nil, take_ud, take_ud0, drop_ud, drop_ud0, take_udk, D.cells, D.fz, D.fzs, List.take_succ_cons, List.take_zero, List.drop_succ_cons, List.drop_zero, List.cons_append, List.nil_append, List.append_eq, List.length_cons, List.length_nil, Nat.reduceAdd, Nat.reduceMul, Nat.reduceSub, Int.reduceAdd, Int.reduceSub, Int.reduceToNat, Int.reduceNeg, Int.reduceMul]) | refine zC ?_ | refine zA ?_ | refine k_calln rfl (ringOf_ok _ _ _ _ _ _ _) rfl rfl rfl rfl rfl rfl ?_ | refine k_call rfl (rsub _ _ _ _ hp (by assumption) (by assumption) rfl) rfl rfl rfl rfl ?_ | refine k_call rfl (radd _ _ _ _ hp (by assumption) (by assumption) rfl) rfl rfl rfl rfl ?_ | refine k_eqa rfl rfl rfl rfl rfl hd1 ?_ | refine k_eqa rfl rfl rfl rfl rfl hd2 ?_ | refine zB ?_)
  (first | with_reducible refine q_endr ?_); refine rets2 Tryz.results53 (by exact zv) (by exact zv) ?_ ?_
  · rfl
  · rfl
set_option maxHeartbeats 4000000 in
theorem add_gen (x1 y1 x2 y2 i s x3 y3 : Nat) (hp : p < M256) (h3 : 3 < p) (hx1 : x1 < p) (hy1 : y1 < p) (hx2 : x2 < p) (hy2 : y2 < p) (hne : x1 ≠ x2) (hi : i < p) (ei : i * ((x2 + p - x1) % p) % p = 1 % p) (hg : Nat.gcd p ((x2 + p - x1) % p) = 1)
    (hs : (y2 + p - y1) % p * i % p = s) (e3 : ((s * s % p + p - x1) % p + p - x2) % p = x3) (e4 : (s * ((x1 + p - x3) % p) % p + p - y1) % p = y3) : Pur Tryz.prog 53 [.agg (cv p a b n gx gy false), .agg (pt x1 y1 false), .agg (pt x2 y2 false)] (.tup [.agg (pt x3 y3 false), .bool true]) := by
  have h0 : 0 < p := by omega
  have hd1 : deqs (ud x1) (ud x2) = false := by rw [deqs_ud _ _ (Nat.lt_trans hx1 hp) (Nat.lt_trans hx2 hp)]; simpa using hne
  have hls : s < p := by rw [← hs]; exact Nat.mod_lt _ h0
  have hl3 : x3 < p := by rw [← e3]; exact Nat.mod_lt _ h0
  have EI := hide ei; have HS := hide hs; have E3 := hide e3; have E4 := hide e4; clear ei hs e3 e4
  refine pur_intro Tryz.func53 rfl Tryz.ntmps53 rfl (by first | rfl | assumption | exact bs_cl _) fun B => ?_
  repeat (first | (with_reducible refine R_nil ?_; try dsimp only [slots0, slots_ud, pt_all, pt_x, pt_y, cv_all, cv_p, cv_a, cv_b, cv_n, cv_g, cv_gx, pt_len, cv_len, rg_len, ren_rl, rl_all, rl_m, rl_len, rl_nil, pt_nil, ptD_all, cells_U, agg_ud, drop0, dropS, takeS, take0, ud_nil, take_ud, take_ud0, drop_ud, drop_ud0, take_udk, D.cells, D.fz, D.fzs, List.take_succ_cons, List.take_zero, List.drop_succ_cons, List.drop_zero, List.cons_append, List.nil_append, List.append_eq, List.length_cons, List.length_nil, Nat.reduceAdd, Nat.reduceMul, Nat.reduceSub, Int.reduceAdd, Int.reduceSub, Int.reduceToNat, Int.reduceNeg, Int.reduceMul]) | refine zC ?_ | refine zA ?_ | refine k_calln rfl (ringOf_ok _ _ _ _ _ _ _) rfl rfl rfl rfl rfl rfl ?_ | refine k_eqa rfl rfl rfl rfl rfl hd1 ?_ | refine k_call rfl (rinv p _ i hp (Nat.mod_lt _ h0) hi (unhide EI) hg) rfl rfl rfl rfl ?_ | refine k_call rfl (rmul p _ i s hp (Nat.mod_lt _ h0) hi (unhide HS)) rfl rfl rfl rfl ?_ | refine k_call rfl (rmul p s s _ hp hls hls rfl) rfl rfl rfl rfl ?_ | refine k_call rfl (rmul p s _ _ hp hls (Nat.mod_lt _ h0) rfl) rfl rfl rfl rfl ?_ | refine k_call rfl (rsub p _ _ x3 hp (Nat.mod_lt _ h0) hx2 (unhide E3)) rfl rfl rfl rfl ?_ | refine k_call rfl (rsub p _ _ y3 hp (Nat.mod_lt _ h0) hy1 (unhide E4)) rfl rfl rfl rfl ?_ | refine k_call rfl (rsub _ _ _ _ hp (by first | assumption | exact Nat.mod_lt _ h0) (by first | assumption | exact Nat.mod_lt _ h0) rfl) rfl rfl rfl rfl ?_ | refine zB ?_)
  (first | with_reducible refine q_endr ?_); refine rets2 Tryz.results53 (by exact zv) (by exact zv) ?_ ?_
  · rfl
  · rfl
set_option maxHeartbeats 4000000 in
theorem add_dbl (x1 y1 i s x3 y3 : Nat) (hp : p < M256) (h3 : 3 < p) (ha : a < p) (hx1 : x1 < p) (hy1 : y1 < p) (hne : (y1 + y1) % p ≠ 0) (hi : i < p) (ei : i * ((y1 + y1) % p) % p = 1 % p) (hg : Nat.gcd p ((y1 + y1) % p) = 1)
    (hs : (3 % p * (x1 * x1 % p) % p + a) % p * i % p = s) (e3 : ((s * s % p + p - x1) % p + p - x1) % p = x3) (e4 : (s * ((x1 + p - x3) % p) % p + p - y1) % p = y3) : Pur Tryz.prog 53 [.agg (cv p a b n gx gy false), .agg (pt x1 y1 false), .agg (pt x1 y1 false)] (.tup [.agg (pt x3 y3 false), .bool true]) := by
  have h0 : 0 < p := by omega
  have hd1 : deqs (ud x1) (ud x1) = true := by rw [deqs_ud _ _ (Nat.lt_trans hx1 hp) (Nat.lt_trans hx1 hp)]; simp
  have hd2 : deqs (ud ((y1 + y1) % p)) (ud 0) = false := by rw [deqs_ud _ _ (Nat.lt_trans (Nat.mod_lt _ h0) hp) (by decide)]; simpa using hne
  have hd3 : (!deqs (ud y1) (ud y1)) = false := by rw [deqs_ud _ _ (Nat.lt_trans hy1 hp) (Nat.lt_trans hy1 hp)]; simp
  have hls : s < p := by rw [← hs]; exact Nat.mod_lt _ h0
  have hl3 : x3 < p := by rw [← e3]; exact Nat.mod_lt _ h0
  have EI := hide ei; have HS := hide hs; have E3 := hide e3; have E4 := hide e4; clear ei hs e3 e4
  refine pur_intro Tryz.func53 rfl Tryz.ntmps53 rfl (by first | rfl | assumption | exact bs_cl _) fun B => ?_
  repeat (first | (with_reducible refine R_nil ?_; try dsimp only [slots0, slots_ud, pt_all, pt_x, pt_y, cv_all, cv_p, cv_a, cv_b, cv_n, cv_g, cv_gx, pt_len, cv_len, rg_len, ren_rl, rl_all, rl_m, rl_len, rl_nil, pt_nil, ptD_all, cells_U, agg_ud, drop0, dropS, takeS, take0, ud_nil, take_ud, take_ud0, drop_ud, drop_ud0, take_udk, D.cells, D.fz, D.fzs, List.take_succ_cons, List.take_zero, List.drop_succ_cons, List.drop_zero, List.cons_append, List.nil_append, List.append_eq, List.length_cons, List.length_nil, Nat.reduceAdd, Nat.reduceMul, Nat.reduceSub, Int.reduceAdd, Int.reduceSub, Int.reduceToNat, Int.reduceNeg, Int.reduceMul]) | refine zC ?_ | refine zA ?_ | refine k_calln rfl (ringOf_ok _ _ _ _ _ _ _) rfl rfl rfl rfl rfl rfl ?_ | refine k_eqa rfl rfl rfl rfl rfl hd1 ?_ | refine k_eqa rfl rfl rfl rfl rfl hd2 ?_ | refine k_nea rfl rfl rfl rfl rfl hd3 ?_ | refine k_call rfl (small_okC p 3 _ 3 rfl (by decide) hp h0 rfl) rfl rfl rfl rfl ?_ | refine k_call rfl (rinv p _ i hp (Nat.mod_lt _ h0) hi (unhide EI) hg) rfl rfl rfl rfl ?_ | refine k_call rfl (rmul p _ i s hp (Nat.mod_lt _ h0) hi (unhide HS)) rfl rfl rfl rfl ?_ | refine k_call rfl (rmul p s s _ hp hls hls rfl) rfl rfl rfl rfl ?_ | refine k_call rfl (rmul p s _ _ hp hls (Nat.mod_lt _ h0) rfl) rfl rfl rfl rfl ?_ | refine k_call rfl (rmul p x1 x1 _ hp hx1 hx1 rfl) rfl rfl rfl rfl ?_ | refine k_call rfl (rmul p _ _ _ hp (Nat.mod_lt _ h0) (Nat.mod_lt _ h0) rfl) rfl rfl rfl rfl ?_ | refine k_call rfl (radd _ _ _ _ hp (by first | assumption | exact Nat.mod_lt _ h0) (by first | assumption | exact Nat.mod_lt _ h0) rfl) rfl rfl rfl rfl ?_ | refine k_call rfl (rsub p _ _ x3 hp (Nat.mod_lt _ h0) hx1 (unhide E3)) rfl rfl rfl rfl ?_ | refine k_call rfl (rsub p _ _ y3 hp (Nat.mod_lt _ h0) hy1 (unhide E4)) rfl rfl rfl rfl ?_ | refine k_call rfl (rsub _ _ _ _ hp (by first | assumption | exact Nat.mod_lt _ h0) (by first | assumption | exact Nat.mod_lt _ h0) rfl) rfl rfl rfl rfl ?_ | refine zB ?_)
  (first | with_reducible refine q_endr ?_); refine rets2 Tryz.results53 (by exact zv) (by exact zv) ?_ ?_
  · rfl
  · rfl
end
end Go.Proofs.YtcfefmbbbfdppaaGreatDoor
