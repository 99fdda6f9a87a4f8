/- PowerPrime: by a prime each number but nought comes to one by the power of the prime less one, and to its inverse by one less still. No conditions. -/
import Derived.Test.YtdelfiijbkhldaaPRing
import Derived.Test.YtdelfiijbkhldaaRow
namespace Go.Proofs.Ytdelfiijbkhldaa.powerPrime
open Go.ChangeShapes Go.WideShapes Go.RowKit Go.Joins
set_option linter.unusedVariables false
open Go.Proofs.Ytdelfiijbkhldaa
set_option maxRecDepth 100000
--nrm pt_all pt_x pt_y cv_all cv_p cv_a cv_b cv_n cv_g cv_gx pt_len cv_len

def pt (x y : Nat) (f : Bool) : List D := ud x ++ (ud y ++ [.bool f])
def cv (p a b n x y : Nat) (f : Bool) : List D := ud p ++ (ud a ++ (ud b ++ (ud n ++ pt x y f)))
theorem pt_all (x y : Nat) (f : Bool) : List.take 9 (pt x y f) = pt x y f := rfl
theorem pt_x (x y : Nat) (f : Bool) : List.take 4 (pt x y f) = ud x := rfl
theorem pt_y (x y : Nat) (f : Bool) : List.take 4 (List.drop 4 (pt x y f)) = ud y := rfl
theorem cv_all (p a b n x y : Nat) (f : Bool) : List.take 25 (cv p a b n x y f) = cv p a b n x y f := rfl
theorem cv_p (p a b n x y : Nat) (f : Bool) : List.take 4 (cv p a b n x y f) = ud p := rfl
theorem cv_a (p a b n x y : Nat) (f : Bool) : List.take 4 (List.drop 4 (cv p a b n x y f)) = ud a := rfl
theorem cv_b (p a b n x y : Nat) (f : Bool) : List.take 4 (List.drop 8 (cv p a b n x y f)) = ud b := rfl
theorem cv_n (p a b n x y : Nat) (f : Bool) : List.take 4 (List.drop 12 (cv p a b n x y f)) = ud n := rfl
theorem cv_g (p a b n x y : Nat) (f : Bool) : List.take 9 (List.drop 16 (cv p a b n x y f)) = pt x y f := rfl
theorem cv_gx (p a b n x y : Nat) (f : Bool) : List.take 4 (List.drop 16 (cv p a b n x y f)) = ud x := rfl
theorem pt_len (x y : Nat) (f : Bool) : (pt x y f).length = 9 := rfl
theorem cv_len (p a b n x y : Nat) (f : Bool) : (cv p a b n x y f).length = 25 := rfl
theorem pt_nil (x y : Nat) (f : Bool) : pt x y f ++ [] = pt x y f := rfl
theorem U_lit (n : Nat) (h : n < 18446744073709551616) : D.agg [.int .u64 (n : Int), .int .u64 0, .int .u64 0, .int .u64 0] = U n := by
  have e : lim n 0 = n ∧ lim n 1 = 0 ∧ lim n 2 = 0 ∧ lim n 3 = 0 := ⟨by simp only [lim0]; omega, by simp only [lim1]; omega, by simp only [lim2]; omega, by simp only [lim3]; omega⟩
  unfold U ud
  rw [e.1, e.2.1, e.2.2.1, e.2.2.2]

theorem lim0_small (n : Nat) (h : n < 9223372036854775808) : lim n 0 = n ∧ IntKind.i64.wrap (lim n 0) = n ∧ IntKind.u64.wrap (n : Int) = n := by
  have e : lim n 0 = n := by simp only [lim0]; omega
  rw [e, IntKind.wrap_i64, IntKind.wrap_u64]
  exact ⟨rfl, by omega, by omega⟩

theorem p_picked (n m q : Int) (hm : 0 < m) (hm' : m ≤ 4611686018427387904) (hq : n % m = q) : Pur Try.prog 19 [.int .i64 n, .int .i64 m] (.int .i64 q) :=
  pur_of_calls (vs := [.int .i64 n, .int .i64 m]) rfl rfl rfl fun w => (picked_any n m hm hm' w).mono fun e w' ⟨h1, h2⟩ => ⟨by rw [h1, hq], by rw [← h2]; exact new_refl w⟩

set_option maxHeartbeats 4000000 in
theorem small5 (p b n x y : Int) : Pur Try.prog 35 [.int .u64 p, .int .u64 b, .int .u64 n, .int .u64 x, .int .u64 y]
    (.agg [.int .u64 p, .int .u64 0, .int .u64 0, .int .u64 0, .int .u64 0, .int .u64 0, .int .u64 0, .int .u64 0, .int .u64 b, .int .u64 0, .int .u64 0, .int .u64 0, .int .u64 n, .int .u64 0, .int .u64 0, .int .u64 0, .int .u64 x, .int .u64 0, .int .u64 0, .int .u64 0, .int .u64 y, .int .u64 0, .int .u64 0, .int .u64 0, .bool false]) := by
  refine pur_intro Try.func35 rfl Try.ntmps35 rfl rfl fun B => ?_
  repeat (first | with_reducible refine W_seq ?_ | with_reducible refine q_then ?_ | with_reducible refine q_thenr ?_ | with_reducible refine q_thenx ?_ | with_reducible refine W_block ?_ | with_reducible refine q_block ?_ | with_reducible refine q_blockr ?_ | with_reducible refine q_blockx ?_ | with_reducible refine W_ret ?_ | with_reducible refine W_skip ?_ | with_reducible refine W_label ?_ | with_reducible refine W_exit ?_ | (with_reducible refine R_nil ?_; try dsimp only [slots0, slots_ud, pt_all, pt_x, pt_y, cv_all, cv_p, cv_a, cv_b, cv_n, cv_g, cv_gx, pt_len, cv_len, cells_U, agg_ud, drop0, dropS, takeS, take0, ud_nil, take_ud, take_ud0, drop_ud, drop_ud0, take_udk, D.cells, D.fz, D.fzs, List.take_succ_cons, List.take_zero, List.drop_succ_cons, List.drop_zero, List.cons_append, List.nil_append, List.append_eq, List.length_cons, List.length_nil, Nat.reduceAdd, Nat.reduceMul, Nat.reduceSub, Int.reduceAdd, Int.reduceSub, Int.reduceToNat, Int.reduceNeg, Int.reduceMul]) | refine q_blocky rfl ?_ | refine W_plain rfl ?_ | refine W_drawn mixed rfl ?_ | refine and_chk (by kernel_rfl) ?_ | refine k_move rfl rfl ?_ | refine k_assign rfl rfl ?_ | refine k_load rfl rfl rfl rfl ?_ | refine k_alloc rfl ?_ | refine k_box rfl rfl rfl ?_ | refine k_store rfl rfl rfl rfl rfl rfl rfl ?_ | refine k_extract rfl rfl rfl ?_ | refine k_fieldAddr rfl rfl rfl ?_ | refine k_field rfl rfl rfl ?_ | refine k_build rfl rfl rfl ?_ | refine k_buildSlice rfl rfl rfl rfl rfl rfl rfl ?_ | refine k_indexAddr rfl rfl rfl ⟨by omega, by omega⟩ ?_ | refine k_indexAddrs rfl rfl rfl ⟨by omega, by omega⟩ rfl ?_ | refine k_index rfl rfl rfl ⟨by omega, by omega⟩ rfl ?_ | refine k_loade rfl rfl rfl ?_ | refine k_fieldAddre rfl rfl rfl rfl ?_ | refine k_len rfl rfl ?_ | refine k_nilCheck rfl rfl rfl ?_ | refine k_pickT rfl rfl rfl ?_ | refine k_pickF rfl rfl rfl ?_ | refine k_addi rfl rfl rfl (by omega) ?_ | refine k_subi rfl rfl rfl (by omega) ?_ | refine k_negi rfl rfl (by omega) ?_ | refine k_not rfl rfl rfl ?_ | refine k_lssT rfl rfl rfl (by omega) ?_ | refine k_lssF rfl rfl rfl (by omega) ?_ | refine k_leqT rfl rfl rfl (by omega) ?_ | refine k_leqF rfl rfl rfl (by omega) ?_ | refine k_gtrT rfl rfl rfl (by omega) ?_ | refine k_gtrF rfl rfl rfl (by omega) ?_ | refine k_geqT rfl rfl rfl (by omega) ?_ | refine k_geqF rfl rfl rfl (by omega) ?_ | refine k_eqlT rfl rfl rfl (by omega) ?_ | refine k_eqlF rfl rfl rfl (by omega) ?_ | refine k_neqT rfl rfl rfl (by omega) ?_ | refine k_neqF rfl rfl rfl (by omega) ?_ | refine k_eqa rfl rfl rfl rfl rfl rfl ?_ | refine k_nea rfl rfl rfl rfl rfl rfl ?_ | refine k_makeFunc rfl rfl rfl ?_ | refine k_skip rfl ?_ | refine k_skip0 rfl ?_ | refine k_pick rfl rfl rfl rfl rfl ?_ | refine W_yes rfl ?_ | refine W_no rfl ?_)
  (first | with_reducible refine q_endr ?_ | with_reducible refine q_endn ?_); refine rets1 Try.results35 (by first | exact RetV.tmp _ _ rfl | exact RetV.cell _ _ _ _ _ _ _ _ inferInstance rfl rfl rfl) ?_
  rfl

/-- the eight curves: P, B, N, and the base -/
def cvs : List (Nat × Nat × Nat × Nat × Nat) := [(43, 7, 31, 2, 12), (67, 2, 73, 2, 12), (79, 6, 67, 5, 17), (139, 2, 163, 3, 53), (163, 3, 181, 1, 2), (211, 3, 199, 1, 2), (379, 2, 409, 5, 49), (691, 3, 643, 1, 2)]

set_option maxHeartbeats 16000000 in
theorem Curve_ok (z : Int) (k p b n x y : Nat) (hz : z % 8 = k) (hk : cvs[k]? = some (p, b, n, x, y)) : Pur Try.prog 22 [.int .i64 z] (.agg (cv p 0 b n x y false)) := by
  have h8 : k < 8 := by omega
  obtain rfl | rfl | rfl | rfl | rfl | rfl | rfl | rfl : k = 0 ∨ k = 1 ∨ k = 2 ∨ k = 3 ∨ k = 4 ∨ k = 5 ∨ k = 6 ∨ k = 7 := by omega
  all_goals
    simp [cvs] at hk
    obtain ⟨rfl, rfl, rfl, rfl, rfl⟩ := hk
    refine pur_intro Try.func22 rfl Try.ntmps22 rfl rfl fun B => ?_
    repeat (first | with_reducible refine W_seq ?_ | with_reducible refine q_then ?_ | with_reducible refine q_thenr ?_ | with_reducible refine q_thenx ?_ | with_reducible refine W_block ?_ | with_reducible refine q_block ?_ | with_reducible refine q_blockr ?_ | with_reducible refine q_blockx ?_ | with_reducible refine W_ret ?_ | with_reducible refine W_skip ?_ | with_reducible refine W_label ?_ | with_reducible refine W_exit ?_ | (with_reducible refine R_nil ?_; try dsimp only [slots0, slots_ud, pt_all, pt_x, pt_y, cv_all, cv_p, cv_a, cv_b, cv_n, cv_g, cv_gx, pt_len, cv_len, cells_U, agg_ud, drop0, dropS, takeS, take0, ud_nil, take_ud, take_ud0, drop_ud, drop_ud0, take_udk, D.cells, D.fz, D.fzs, List.take_succ_cons, List.take_zero, List.drop_succ_cons, List.drop_zero, List.cons_append, List.nil_append, List.append_eq, List.length_cons, List.length_nil, Nat.reduceAdd, Nat.reduceMul, Nat.reduceSub, Int.reduceAdd, Int.reduceSub, Int.reduceToNat, Int.reduceNeg, Int.reduceMul]) | refine q_blocky rfl ?_ | refine W_plain rfl ?_ | refine W_drawn mixed rfl ?_ | refine and_chk (by kernel_rfl) ?_ | refine k_move rfl rfl ?_ | refine k_assign rfl rfl ?_ | refine k_load rfl rfl rfl rfl ?_ | refine k_alloc rfl ?_ | refine k_box rfl rfl rfl ?_ | refine k_store rfl rfl rfl rfl rfl rfl rfl ?_ | refine k_extract rfl rfl rfl ?_ | refine k_fieldAddr rfl rfl rfl ?_ | refine k_field rfl rfl rfl ?_ | refine k_build rfl rfl rfl ?_ | refine k_call rfl (small5 _ _ _ _ _) rfl rfl rfl rfl ?_ | refine k_call rfl (p_picked z 8 _ (by decide) (by decide) hz) rfl rfl rfl rfl ?_ | refine k_buildSlice rfl rfl rfl rfl rfl rfl rfl ?_ | refine k_indexAddr rfl rfl rfl ⟨by omega, by omega⟩ ?_ | refine k_indexAddrs rfl rfl rfl ⟨by omega, by omega⟩ rfl ?_ | refine k_index rfl rfl rfl ⟨by omega, by omega⟩ rfl ?_ | refine k_loade rfl rfl rfl ?_ | refine k_fieldAddre rfl rfl rfl rfl ?_ | refine k_len rfl rfl ?_ | refine k_nilCheck rfl rfl rfl ?_ | refine k_pickT rfl rfl rfl ?_ | refine k_pickF rfl rfl rfl ?_ | refine k_addi rfl rfl rfl (by omega) ?_ | refine k_subi rfl rfl rfl (by omega) ?_ | refine k_negi rfl rfl (by omega) ?_ | refine k_not rfl rfl rfl ?_ | refine k_lssT rfl rfl rfl (by omega) ?_ | refine k_lssF rfl rfl rfl (by omega) ?_ | refine k_leqT rfl rfl rfl (by omega) ?_ | refine k_leqF rfl rfl rfl (by omega) ?_ | refine k_gtrT rfl rfl rfl (by omega) ?_ | refine k_gtrF rfl rfl rfl (by omega) ?_ | refine k_geqT rfl rfl rfl (by omega) ?_ | refine k_geqF rfl rfl rfl (by omega) ?_ | refine k_eqlT rfl rfl rfl (by omega) ?_ | refine k_eqlF rfl rfl rfl (by omega) ?_ | refine k_neqT rfl rfl rfl (by omega) ?_ | refine k_neqF rfl rfl rfl (by omega) ?_ | refine k_eqa rfl rfl rfl rfl rfl rfl ?_ | refine k_nea rfl rfl rfl rfl rfl rfl ?_ | refine k_makeFunc rfl rfl rfl ?_ | refine k_skip rfl ?_ | refine k_skip0 rfl ?_ | refine k_pick rfl rfl rfl rfl rfl ?_ | refine W_yes rfl ?_ | refine W_no rfl ?_)
    (first | with_reducible refine q_endr ?_ | with_reducible refine q_endn ?_); refine rets1 Try.results22 (by first | exact RetV.tmp _ _ rfl | exact RetV.cell _ _ _ _ _ _ _ _ inferInstance rfl rfl rfl) ?_
    rfl

theorem gcd_of (a m i : Nat) (ei : i * a % m = 1 % m) : Nat.gcd m a = 1 := by
  have h1 : Nat.gcd m a ∣ i * a % m := (Nat.dvd_mod_iff (Nat.gcd_dvd_left m a)).2 (Nat.dvd_trans (Nat.gcd_dvd_right m a) (Nat.dvd_mul_left a i))
  rw [ei] at h1
  have h2 := (Nat.dvd_mod_iff (Nat.gcd_dvd_left m a)).1 h1
  exact Nat.dvd_one.1 h2

def pchk (p : Nat) : Bool := (List.range (p - 1)).all fun k => (k + 1) ^ (p - 1) % p == 1 && ((k + 1) ^ (p - 2) % p) * (k + 1) % p == 1
theorem pchks : (cvs.all fun c => pchk c.1) = true := by decide +kernel
theorem pchk_at {kk p b n gx gy : Nat} (hk : cvs[kk]? = some (p, b, n, gx, gy)) {a : Nat} (h0 : 0 < a) (ha : a < p) : a ^ (p - 1) % p = 1 ∧ (a ^ (p - 2) % p) * a % p = 1 := by
  have h := (List.all_eq_true.1 pchks) _ (List.mem_of_getElem? hk)
  have h2 := (List.all_eq_true.1 h) (a - 1) (by simp; omega)
  simp only [Bool.and_eq_true, beq_iff_eq] at h2
  rw [show a - 1 + 1 = a from by omega] at h2
  exact h2

set_option maxHeartbeats 4000000 in
theorem pur (z x : Int) : Pur Try.prog 9 [.int .i64 z, .int .i64 x] (.bool true) := by
  obtain ⟨kk, hz⟩ : ∃ kk : Nat, z % 8 = kk := ⟨(z % 8).toNat, by have := Int.emod_nonneg z (show (8 : Int) ≠ 0 by omega); omega⟩
  have hk8 : kk < 8 := by have := Int.emod_lt_of_pos z (show (0 : Int) < 8 by omega); omega
  obtain ⟨⟨p, b, n, gx, gy⟩, hk⟩ : ∃ c, cvs[kk]? = some c := ⟨_, List.getElem?_eq_getElem (by simp [cvs]; exact hk8)⟩
  have hp : 40 < p ∧ p < 1000 := by
    have : (cvs.all fun c => decide (40 < c.1 ∧ c.1 < 1000)) = true := by decide
    simpa using (List.all_eq_true.1 this) _ (List.mem_of_getElem? hk)
  have hc := Curve_ok z kk p b n gx gy hz hk
  have q0 := Int.emod_nonneg x (show (p : Int) - 1 ≠ 0 by omega)
  have q1 := Int.emod_lt_of_pos x (show (0 : Int) < p - 1 by omega)
  obtain ⟨q, eq⟩ : ∃ q : Nat, x % ((p : Int) - 1) = q := ⟨_, (Int.toNat_of_nonneg q0).symm⟩
  rw [eq] at q1
  obtain ⟨l1, l2, l3⟩ := lim0_small p (by omega)
  obtain ⟨c1, c2⟩ := pchk_at hk (a := 1 + q) (by omega) (by omega)
  have hM : p < M256 := by unfold M256; omega
  have f1 := p_fpow (1 + q) (p - 1) p 1 hM (by omega) (by omega) c1
  have f2 := p_fpow (1 + q) (p - 2) p _ hM (by omega) (by omega) rfl
  obtain ⟨i, hi⟩ : ∃ i, (1 + q) ^ (p - 2) % p = i := ⟨_, rfl⟩
  have li : i < p := by rw [← hi]; exact Nat.mod_lt _ (by omega)
  rw [hi] at f2 c2
  have c2' : i * (1 + q) % p = 1 % p := by rw [c2, Nat.mod_eq_of_lt (by omega)]
  have f3 := p_finv (1 + q) p i hM (by omega) li c2' (gcd_of _ _ _ c2')
  rw [← U_lit (1 + q) (by omega)] at f1 f2 f3
  rw [← U_lit (p - 1) (by omega)] at f1
  rw [← U_lit (p - 2) (by omega)] at f2
  have e1 : IntKind.u64.wrap (lim p 0 - 1) = ((p - 1 : Nat) : Int) := by rw [l1, IntKind.wrap_u64]; omega
  have e2 : IntKind.u64.wrap (lim p 0 - 2) = ((p - 2 : Nat) : Int) := by rw [l1, IntKind.wrap_u64]; omega
  have e3 : IntKind.u64.wrap (q : Int) = q := by rw [IntKind.wrap_u64]; omega
  have e4 : IntKind.u64.wrap (1 + (q : Int)) = ((1 + q : Nat) : Int) := by rw [IntKind.wrap_u64]; omega
  have g1 := deqs_ud 1 1 (by decide) (by decide)
  have g2 := deqs_ud i i (Nat.lt_trans li hM) (Nat.lt_trans li hM)
  simp only [decide_true] at g1 g2
  refine pur_intro Try.func9 rfl Try.ntmps9 rfl rfl fun B => ?_
  repeat (first | with_reducible refine W_seq ?_ | with_reducible refine q_then ?_ | with_reducible refine q_thenr ?_ | with_reducible refine q_thenx ?_ | with_reducible refine W_block ?_ | with_reducible refine q_block ?_ | with_reducible refine q_blockr ?_ | with_reducible refine q_blockx ?_ | with_reducible refine W_ret ?_ | with_reducible refine W_skip ?_ | with_reducible refine W_label ?_ | with_reducible refine W_exit ?_ | (with_reducible refine R_nil ?_; try dsimp only [slots0, slots_ud, pt_all, pt_x, pt_y, cv_all, cv_p, cv_a, cv_b, cv_n, cv_g, cv_gx, pt_len, cv_len, cells_U, agg_ud, drop0, dropS, takeS, take0, ud_nil, take_ud, take_ud0, drop_ud, drop_ud0, take_udk, D.cells, D.fz, D.fzs, List.take_succ_cons, List.take_zero, List.drop_succ_cons, List.drop_zero, List.cons_append, List.nil_append, List.append_eq, List.length_cons, List.length_nil, Nat.reduceAdd, Nat.reduceMul, Nat.reduceSub, Int.reduceAdd, Int.reduceSub, Int.reduceToNat, Int.reduceNeg, Int.reduceMul]) | refine q_blocky rfl ?_ | refine W_plain rfl ?_ | refine W_drawn mixed rfl ?_ | refine and_chk (by kernel_rfl) ?_ | refine k_move rfl rfl ?_ | refine k_assign rfl rfl ?_ | refine k_load rfl rfl rfl rfl ?_ | refine k_alloc rfl ?_ | refine k_box rfl rfl rfl ?_ | refine k_store rfl rfl rfl rfl rfl rfl rfl ?_ | refine k_extract rfl rfl rfl ?_ | refine k_fieldAddr rfl rfl rfl ?_ | refine k_field rfl rfl rfl ?_ | refine k_build rfl rfl rfl ?_ | refine k_call rfl hc rfl rfl rfl rfl ?_ | refine k_conv rfl rfl l2 ?_ | refine k_conv rfl rfl e3 ?_ | refine k_call rfl (p_picked x (p - 1) q (by omega) (by omega) eq) rfl rfl rfl rfl ?_ | refine k_sub rfl rfl rfl e1 ?_ | refine k_sub rfl rfl rfl e2 ?_ | refine k_add rfl rfl rfl e4 ?_ | refine k_call rfl f1 rfl rfl rfl rfl ?_ | refine k_call rfl f2 rfl rfl rfl rfl ?_ | refine k_call rfl f3 rfl rfl rfl rfl ?_ | refine k_eqa rfl rfl rfl rfl rfl g1 ?_ | refine k_eqa rfl rfl rfl rfl rfl g2 ?_ | refine W_unroll (WL_round ?_) | refine WL_round ?_ | refine k_append rfl rfl rfl (by first | rfl | exact trivial | (show 0 < _; omega)) (by first | rfl | (simp <;> omega)) (by first | rfl | (simp <;> omega)) rfl (by omega) rfl rfl rfl ?_ | refine k_slice rfl rfl rfl rfl ⟨by omega, by omega, by omega⟩ rfl rfl rfl ?_ | refine k_slice3 rfl rfl rfl rfl rfl ⟨by omega, by omega, by omega⟩ rfl rfl rfl ?_ | refine k_sliceA rfl rfl rfl rfl ⟨by omega, by omega, by omega, by omega⟩ rfl rfl ?_ | refine k_sliceE rfl rfl rfl rfl ⟨by omega, by omega, by omega, by omega⟩ rfl rfl rfl rfl ?_ | refine k_buildSlice rfl rfl rfl rfl rfl rfl rfl ?_ | refine k_indexAddr rfl rfl rfl ⟨by omega, by omega⟩ ?_ | refine k_indexAddrs rfl rfl rfl ⟨by omega, by omega⟩ rfl ?_ | refine k_index rfl rfl rfl ⟨by omega, by omega⟩ rfl ?_ | refine k_loade rfl rfl rfl ?_ | refine k_fieldAddre rfl rfl rfl rfl ?_ | refine k_len rfl rfl ?_ | refine k_nilCheck rfl rfl rfl ?_ | refine k_pickT rfl rfl rfl ?_ | refine k_pickF rfl rfl rfl ?_ | refine k_addi rfl rfl rfl (by omega) ?_ | refine k_subi rfl rfl rfl (by omega) ?_ | refine k_negi rfl rfl (by omega) ?_ | refine k_not rfl rfl rfl ?_ | refine k_lssT rfl rfl rfl (by omega) ?_ | refine k_lssF rfl rfl rfl (by omega) ?_ | refine k_leqT rfl rfl rfl (by omega) ?_ | refine k_leqF rfl rfl rfl (by omega) ?_ | refine k_gtrT rfl rfl rfl (by omega) ?_ | refine k_gtrF rfl rfl rfl (by omega) ?_ | refine k_geqT rfl rfl rfl (by omega) ?_ | refine k_geqF rfl rfl rfl (by omega) ?_ | refine k_eqlT rfl rfl rfl (by omega) ?_ | refine k_eqlF rfl rfl rfl (by omega) ?_ | refine k_neqT rfl rfl rfl (by omega) ?_ | refine k_neqF rfl rfl rfl (by omega) ?_ | refine k_eqa rfl rfl rfl rfl rfl rfl ?_ | refine k_nea rfl rfl rfl rfl rfl rfl ?_ | refine k_makeFunc rfl rfl rfl ?_ | refine k_skip rfl ?_ | refine k_skip0 rfl ?_ | refine k_pick rfl rfl rfl rfl rfl ?_ | refine W_yes rfl ?_ | refine W_no rfl ?_)
  (first | with_reducible refine q_endr ?_ | with_reducible refine q_endn ?_); refine rets1 Try.results9 (by first | exact RetV.tmp _ _ rfl | exact RetV.cell _ _ _ _ _ _ _ _ inferInstance rfl rfl rfl) ?_
  rfl

theorem walk (z x : Int) (w : World) : Calls Try.prog 9 #[.int .i64 z, .int .i64 x] w fun e w' => e = .returned (.bool true) ∧ New w w' :=
  calls_of_pur (vs := [.int .i64 z, .int .i64 x]) rfl rfl rfl (pur z x) w

set_option maxRecDepth 100000 in
theorem lifted (os : Os) (started : os.Started) (H : Type) (enc : TypeId × Value → H) :
    ReturnsInHanded {} Try.checked os 9 .any (Rows.powerPrimeSpec.pre6 enc Try.prog Try.f9 Rows.powerPrimeRow.domain false) (Rows.powerPrimeSpec.post enc Try.prog Try.f9 false true false false) := by
  refine returnsInHanded_of_change (C := Try.checked) own started (by kernel_rfl) Try.func9
    (ChangeSpec.witness6 (enc := enc) (C := Try.checked) false ⟨#[], #[.int .i64 0, .int .i64 0], []⟩ 8 (by kernel_rfl) (by kernel_rfl) (by kernel_rfl) (by kernel_rfl)) ?_
  intro W base args ds gs before hval0 hW hcnd _
  have hval : ∀ (j : Nat) t v, Try.f9.params[j]? = some t → args[j]? = some v → Value.okWide Try.prog W .any base t v := hval0
  have hW' := hW
  obtain ⟨p, q, hA0, hV, rfl, hfz, hnd⟩ := hW
  have hA : DataW.TrodAll enc Try.prog W 0 (fun _ => true) true Try.f9.params.toList args.toList ds p := hA0
  rw [Try.params9] at hA hval
  obtain ⟨v0, vs0, d0, ds0, p0, q0, hargs, rfl, rfl, h0, r0⟩ := trodAll_cons hA
  obtain ⟨v1, vs1, d1, ds1, p1, q1, rfl, rfl, rfl, h1, r1⟩ := trodAll_cons r0
  obtain ⟨rfl, rfl, rfl⟩ := trodAll_nil r1
  obtain rfl : args = #[v0, v1] := by cases args; simp_all
  obtain ⟨rfl, rfl⟩ := trodVars_none hV
  obtain ⟨n1, rfl, rfl, rfl, wn1⟩ := open_int Try.underlying3 (hval 0 3 v0 rfl rfl) h0
  obtain ⟨n2, rfl, rfl, rfl, wn2⟩ := open_int Try.underlying3 (hval 1 3 v1 rfl rfl) h1
  refine (walk n1 n2 W).mono fun e W' ⟨he, hN⟩ => ?_
  subst he
  exact ⟨_, rfl, law_post laidOut (by kernel_rfl) (by kernel_rfl) Try.underlying4 rfl hW' rfl hN⟩

theorem holds : Rows.PowerPrimeSaid :=
  OpenClaim.holds_of_wide 9 Try.f9 rfl rfl rfl rfl rfl rfl rfl ⟨rfl, rfl, rfl, rfl, rfl⟩ rfl rfl rfl rfl rfl (by kernel_rfl) Try.func9 (by kernel_rfl)
    (of_decide_eq_true (by kernel_rfl)) (by unfold Func.isWrapper; first | (rw [if_pos (by decide +kernel)]; kernel_rfl) | (rw [if_neg (by decide +kernel)]; exact ⟨rfl, rfl⟩))
    (fun os started H enc _ => lifted os started H enc)

#print axioms holds
end Go.Proofs.Ytdelfiijbkhldaa.powerPrime
