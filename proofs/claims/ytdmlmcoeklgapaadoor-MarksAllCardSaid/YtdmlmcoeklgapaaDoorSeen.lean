/- The pages of numbers that were seen: what 'Has' and 'Mark' make of them. Conditions: words of 64 bits, a number below 256. -/
import Derived.Test.YtdmlmcoeklgapaaDoorDPart
import Derived.Test.YtdmlmcoeklgapaaDoorDInst
namespace Go.Proofs.YtdmlmcoeklgapaaDoor
open Go.RowKit
set_option linter.unusedVariables false
set_option maxRecDepth 100000
--nrm pg_all

theorem bw_and1 (a : Nat) (h : a < 18446744073709551616) : bitw .and .u64 (a : Int) 1 = ((a % 2 : Nat) : Int) := by
  show IntKind.u64.wrap ((BitVec.ofInt 64 (a : Int) &&& BitVec.ofInt 64 1).toNat : Nat) = _
  have e : (BitVec.ofInt 64 (a : Int) &&& BitVec.ofInt 64 1).toNat = a % 2 := by
    rw [BitVec.toNat_and]
    simp
  rw [e, IntKind.wrap_u64]; omega
theorem bw_or (a b : Nat) (h : a < 18446744073709551616) (hb : b < 18446744073709551616) : bitw .or .u64 (a : Int) (b : Int) = ((a ||| b : Nat) : Int) := by
  show IntKind.u64.wrap ((BitVec.ofInt 64 (a : Int) ||| BitVec.ofInt 64 (b : Int)).toNat : Nat) = _
  have e : (BitVec.ofInt 64 (a : Int) ||| BitVec.ofInt 64 (b : Int)).toNat = a ||| b := by
    rw [BitVec.toNat_or]
    simp
    rw [Nat.mod_eq_of_lt h, Nat.mod_eq_of_lt hb]
  have := Nat.or_lt_two_pow (n := 64) h hb
  rw [e, IntKind.wrap_u64]; omega

/-- a page's words -/
def pg (X : Nat → Nat) : List D := [.int .u64 (X 0), .int .u64 (X 1), .int .u64 (X 2), .int .u64 (X 3)]
theorem pg_all (X : Nat → Nat) : List.take 4 (pg X) = pg X := rfl
def bitp (X : Nat → Nat) (n : Nat) : Bool := (X (n / 64)).testBit (n % 64)
def setp (X : Nat → Nat) (n : Nat) : Nat → Nat := fun k => if k = n / 64 then X k ||| 2 ^ (n % 64) else X k
theorem p2_lt {q : Nat} (h : q < 64) : 2 ^ q < 18446744073709551616 := by
  have := Nat.pow_lt_pow_right (a := 2) (by omega) h
  simpa using this
theorem setp_lt {X : Nat → Nat} (hX : ∀ k, X k < 18446744073709551616) (n : Nat) : ∀ k, setp X n k < 18446744073709551616 := fun k => by
  unfold setp
  split
  · exact Nat.or_lt_two_pow (n := 64) (hX k) (p2_lt (Nat.mod_lt _ (by omega)))
  · exact hX k
theorem bitp_setp (X : Nat → Nat) (n m : Nat) : bitp (setp X n) m = (bitp X m || decide (n = m)) := by
  unfold bitp setp
  by_cases h : m / 64 = n / 64
  · rw [if_pos h, Nat.testBit_or, Nat.testBit_two_pow, h]
    congr 1
    rw [decide_eq_decide]
    omega
  · rw [if_neg h]
    have : n ≠ m := fun e => h (by rw [e])
    simp [this]

theorem inside_y (n : Nat) (h : n < 256) : Pur Tryd.prog 7 [.int .i64 n] (.bool true) := by
  refine pur_intro Tryd.func7 rfl Tryd.ntmps7 rfl (by first | rfl | assumption | exact bs_cl _) fun B => ?_
  repeat (first | with_reducible (first | refine W_seq ?_ | refine q_then ?_ | refine q_thenr ?_ | refine q_thenx ?_ | refine W_block ?_ | refine q_block ?_ | refine q_blockr ?_ | refine q_blockx ?_ | refine W_ret ?_ | refine W_skip ?_ | refine W_label ?_ | refine W_exit ?_ | refine W_scope ?_ | refine q_scope ?_ | refine q_scoper ?_ | refine q_scopex ?_) | (with_reducible refine R_nil ?_; try dsimp only [slots0, slots_ud, pg_all, cells_U, agg_ud, drop0, dropS, takeS, take0, ud_nil, take_ud, take_ud0, drop_ud, drop_ud0, take_udk, D.cells, D.fz, D.fzs, List.take_succ_cons, List.take_zero, List.drop_succ_cons, List.drop_zero, List.cons_append, List.nil_append, List.append_eq, List.length_cons, List.length_nil, Nat.reduceAdd, Nat.reduceMul, Nat.reduceSub, Int.reduceAdd, Int.reduceSub, Int.reduceToNat, Int.reduceNeg, Int.reduceMul]) | refine q_blocky rfl ?_ | refine W_plain rfl ?_ | refine W_drawn mixed rfl ?_ | refine and_chk (by kernel_rfl) ?_ | refine k_move rfl rfl ?_ | refine k_assign rfl rfl ?_ | refine k_pickT rfl rfl rfl ?_ | refine k_pickF rfl rfl rfl ?_ | (refine k_lssT rfl rfl rfl ?_ ?_; (omega)) | (refine k_lssF rfl rfl rfl ?_ ?_; (omega)) | (refine k_geqT rfl rfl rfl ?_ ?_; (omega)) | (refine k_geqF rfl rfl rfl ?_ ?_; (omega)) | refine k_skip rfl ?_ | refine k_skip0 rfl ?_ | refine k_pick rfl rfl rfl rfl rfl ?_ | refine W_yes rfl ?_ | refine W_no rfl ?_)
  (first | with_reducible refine q_endr ?_ | with_reducible refine q_endn ?_); refine rets1 Tryd.results7 (by first | exact RetV.tmp _ _ rfl | exact RetV.cell _ _ _ _ _ _ _ _ inferInstance rfl rfl rfl) ?_
  rfl
theorem inside_n (n : Nat) (h : 256 ≤ n) : Pur Tryd.prog 7 [.int .i64 n] (.bool false) := by
  refine pur_intro Tryd.func7 rfl Tryd.ntmps7 rfl (by first | rfl | assumption | exact bs_cl _) fun B => ?_
  repeat (first | with_reducible (first | refine W_seq ?_ | refine q_then ?_ | refine q_thenr ?_ | refine q_thenx ?_ | refine W_block ?_ | refine q_block ?_ | refine q_blockr ?_ | refine q_blockx ?_ | refine W_ret ?_ | refine W_skip ?_ | refine W_label ?_ | refine W_exit ?_ | refine W_scope ?_ | refine q_scope ?_ | refine q_scoper ?_ | refine q_scopex ?_) | (with_reducible refine R_nil ?_; try dsimp only [slots0, slots_ud, pg_all, cells_U, agg_ud, drop0, dropS, takeS, take0, ud_nil, take_ud, take_ud0, drop_ud, drop_ud0, take_udk, D.cells, D.fz, D.fzs, List.take_succ_cons, List.take_zero, List.drop_succ_cons, List.drop_zero, List.cons_append, List.nil_append, List.append_eq, List.length_cons, List.length_nil, Nat.reduceAdd, Nat.reduceMul, Nat.reduceSub, Int.reduceAdd, Int.reduceSub, Int.reduceToNat, Int.reduceNeg, Int.reduceMul]) | refine q_blocky rfl ?_ | refine W_plain rfl ?_ | refine W_drawn mixed rfl ?_ | refine and_chk (by kernel_rfl) ?_ | refine k_move rfl rfl ?_ | refine k_assign rfl rfl ?_ | refine k_pickT rfl rfl rfl ?_ | refine k_pickF rfl rfl rfl ?_ | (refine k_lssT rfl rfl rfl ?_ ?_; (omega)) | (refine k_lssF rfl rfl rfl ?_ ?_; (omega)) | (refine k_geqT rfl rfl rfl ?_ ?_; (omega)) | (refine k_geqF rfl rfl rfl ?_ ?_; (omega)) | refine k_skip rfl ?_ | refine k_skip0 rfl ?_ | refine k_pick rfl rfl rfl rfl rfl ?_ | refine W_yes rfl ?_ | refine W_no rfl ?_)
  (first | with_reducible refine q_endr ?_ | with_reducible refine q_endn ?_); refine rets1 Tryd.results7 (by first | exact RetV.tmp _ _ rfl | exact RetV.cell _ _ _ _ _ _ _ _ inferInstance rfl rfl rfl) ?_
  rfl

set_option maxHeartbeats 4000000 in
theorem Has_ok (X : Nat → Nat) (hX : ∀ k, X k < 18446744073709551616) (n : Nat) (h : n < 256) (b : Bool) (hb : bitp X n = b) : Pur Tryd.prog 5 [.agg (pg X), .int .i64 n] (.tup [.bool b, .int .i64 0]) := by
  obtain ⟨j, hj⟩ : ∃ j, n / 64 = j := ⟨_, rfl⟩
  obtain ⟨q, hq⟩ : ∃ j, n % 64 = j := ⟨_, rfl⟩
  have hq64 : q < 64 := by rw [← hq]; exact Nat.mod_lt _ (by omega)
  have e2 : (n : Int).tmod 64 = q := by rw [Int.tmod_eq_emod_of_nonneg (by omega), ← hq]; omega
  have e3 : ((X j : Nat) : Int).fdiv (2 ^ (min (q : Int).toNat 64)) = ((X j / 2 ^ q : Nat) : Int) := by
    rw [Int.toNat_natCast, Nat.min_eq_left (by omega), Int.fdiv_eq_ediv_of_nonneg _ (Int.le_of_lt (Int.pow_pos (by decide)))]
    simp
  have hXq : X j / 2 ^ q < 18446744073709551616 := Nat.lt_of_le_of_lt (Nat.div_le_self _ _) (hX j)
  have e4 := bw_and1 _ hXq
  have e5 : (((X j / 2 ^ q % 2 : Nat) : Int) == 1) = b := by
    rw [← hb]
    unfold bitp
    rw [hj, hq, Nat.testBit_eq_decide_div_mod_eq]
    rcases Nat.mod_two_eq_zero_or_one (X j / 2 ^ q) with h | h <;> rw [h] <;> rfl
  have e1 : IntKind.i64.wrap ((n : Int).tdiv 64) = (j : Int) := by rw [Int.tdiv_eq_ediv_of_nonneg (by omega), ← hj, IntKind.wrap_i64]; omega
  clear hb
  obtain rfl | rfl | rfl | rfl : j = 0 ∨ j = 1 ∨ j = 2 ∨ j = 3 := by omega
  all_goals
    refine pur_intro Tryd.func5 rfl Tryd.ntmps5 rfl (by first | rfl | assumption | exact bs_cl _) fun B => ?_
    repeat (first | with_reducible (first | refine W_seq ?_ | refine q_then ?_ | refine q_thenr ?_ | refine q_thenx ?_ | refine W_block ?_ | refine q_block ?_ | refine q_blockr ?_ | refine q_blockx ?_ | refine W_ret ?_ | refine W_skip ?_ | refine W_label ?_ | refine W_exit ?_ | refine W_scope ?_ | refine q_scope ?_ | refine q_scoper ?_ | refine q_scopex ?_) | (with_reducible refine R_nil ?_; try dsimp only [slots0, slots_ud, pg_all, cells_U, agg_ud, drop0, dropS, takeS, take0, ud_nil, take_ud, take_ud0, drop_ud, drop_ud0, take_udk, D.cells, D.fz, D.fzs, List.take_succ_cons, List.take_zero, List.drop_succ_cons, List.drop_zero, List.cons_append, List.nil_append, List.append_eq, List.length_cons, List.length_nil, Nat.reduceAdd, Nat.reduceMul, Nat.reduceSub, Int.reduceAdd, Int.reduceSub, Int.reduceToNat, Int.reduceNeg, Int.reduceMul]) | refine q_blocky rfl ?_ | refine W_plain rfl ?_ | refine W_drawn mixed rfl ?_ | refine and_chk (by kernel_rfl) ?_ | refine k_move rfl rfl ?_ | refine k_assign rfl rfl ?_ | refine k_load rfl rfl rfl rfl ?_ | refine k_box rfl rfl rfl ?_ | refine k_call rfl (inside_y n h) rfl rfl rfl rfl ?_ | (refine k_quo rfl rfl rfl ?_ e1 ?_; (decide)) | (refine k_rem rfl rfl rfl ?_ e2 ?_; (decide)) | (refine k_shr rfl rfl rfl ?_ e3 ?_; (omega)) | refine k_bits rfl rfl rfl rfl e4 ?_ | refine k_eql rfl rfl rfl e5 ?_ | (refine k_indexAddr rfl rfl rfl ⟨?_, ?_⟩ ?_; (omega); (omega)) | (refine k_indexAddrs rfl rfl rfl ⟨?_, ?_⟩ rfl ?_; (omega); (omega)) | refine k_loade rfl rfl rfl ?_ | refine k_not rfl rfl rfl ?_ | (refine k_eqlT rfl rfl rfl ?_ ?_; (omega)) | (refine k_eqlF rfl rfl rfl ?_ ?_; (omega)) | refine k_eqa rfl rfl rfl rfl rfl rfl ?_ | refine W_yes rfl ?_ | refine W_no rfl ?_)
    (first | with_reducible refine q_endr ?_ | with_reducible refine q_endn ?_); refine rets2 Tryd.results5 (by first | exact RetV.tmp _ _ rfl | exact RetV.cell _ _ _ _ _ _ _ _ inferInstance rfl rfl rfl) (by first | exact RetV.tmp _ _ rfl | exact RetV.cell _ _ _ _ _ _ _ _ inferInstance rfl rfl rfl) ?_ ?_
    all_goals rfl
theorem Has_not (X : Nat → Nat) (n : Nat) (h : 256 ≤ n) : Pur Tryd.prog 5 [.agg (pg X), .int .i64 n] (.tup [.bool false, .int .i64 6]) := by
  refine pur_intro Tryd.func5 rfl Tryd.ntmps5 rfl (by first | rfl | assumption | exact bs_cl _) fun B => ?_
  repeat (first | with_reducible (first | refine W_seq ?_ | refine q_then ?_ | refine q_thenr ?_ | refine q_thenx ?_ | refine W_block ?_ | refine q_block ?_ | refine q_blockr ?_ | refine q_blockx ?_ | refine W_ret ?_ | refine W_skip ?_ | refine W_label ?_ | refine W_exit ?_ | refine W_scope ?_ | refine q_scope ?_ | refine q_scoper ?_ | refine q_scopex ?_) | (with_reducible refine R_nil ?_; try dsimp only [slots0, slots_ud, pg_all, cells_U, agg_ud, drop0, dropS, takeS, take0, ud_nil, take_ud, take_ud0, drop_ud, drop_ud0, take_udk, D.cells, D.fz, D.fzs, List.take_succ_cons, List.take_zero, List.drop_succ_cons, List.drop_zero, List.cons_append, List.nil_append, List.append_eq, List.length_cons, List.length_nil, Nat.reduceAdd, Nat.reduceMul, Nat.reduceSub, Int.reduceAdd, Int.reduceSub, Int.reduceToNat, Int.reduceNeg, Int.reduceMul]) | refine q_blocky rfl ?_ | refine W_plain rfl ?_ | refine W_drawn mixed rfl ?_ | refine and_chk (by kernel_rfl) ?_ | refine k_move rfl rfl ?_ | refine k_assign rfl rfl ?_ | refine k_load rfl rfl rfl rfl ?_ | refine k_box rfl rfl rfl ?_ | refine k_call rfl (inside_n n h) rfl rfl rfl rfl ?_ | (refine k_indexAddr rfl rfl rfl ⟨?_, ?_⟩ ?_; (omega); (omega)) | (refine k_indexAddrs rfl rfl rfl ⟨?_, ?_⟩ rfl ?_; (omega); (omega)) | refine k_loade rfl rfl rfl ?_ | refine k_not rfl rfl rfl ?_ | (refine k_eqlT rfl rfl rfl ?_ ?_; (omega)) | (refine k_eqlF rfl rfl rfl ?_ ?_; (omega)) | refine k_eqa rfl rfl rfl rfl rfl rfl ?_ | refine W_yes rfl ?_ | refine W_no rfl ?_)
  (first | with_reducible refine q_endr ?_ | with_reducible refine q_endn ?_); refine rets2 Tryd.results5 (by first | exact RetV.tmp _ _ rfl | exact RetV.cell _ _ _ _ _ _ _ _ inferInstance rfl rfl rfl) (by first | exact RetV.tmp _ _ rfl | exact RetV.cell _ _ _ _ _ _ _ _ inferInstance rfl rfl rfl) ?_ ?_
  all_goals rfl
end Go.Proofs.YtdmlmcoeklgapaaDoor
