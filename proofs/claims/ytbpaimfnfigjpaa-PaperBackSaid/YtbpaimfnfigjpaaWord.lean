/- Bytes of raw things: word and sum. Conditions: none. -/
import Derived.Test.YtbpaimfnfigjpaaBy32D
import Derived.Test.YtbpaimfnfigjpaaWide2
import Derived.Test.YtbpaimfnfigjpaaBPut
namespace Go.Proofs.Ytbpaimfnfigjpaa
open Go.RowKit Go.Lib Go.IntWalk
set_option linter.unusedVariables false
set_option maxRecDepth 100000

set_option maxHeartbeats 8000000 in
theorem word_ok (k a b : Int) (s : ByteArray) : ∃ z : List UInt8, z.length = 32 ∧ Pur Try.prog 29 [.agg [.int .i64 k, .int .i64 a, .int .i64 b, .str s]] (.agg (bs z)) := by
  obtain ⟨c, hc⟩ := u8_of a
  obtain ⟨d, hd⟩ := u8_of b
  have hsl : s.data.toList.length = s.size := by rw [Array.length_toList]; rfl
  obtain ⟨q, hq⟩ : ∃ q, Nat.min s.size 32 = q := ⟨_, rfl⟩
  have hq32 : q ≤ 32 := by rw [← hq]; exact Nat.min_le_right _ _
  obtain ⟨t, ht⟩ : ∃ t, s.data.toList.take q = t := ⟨_, rfl⟩
  have htl : t.length = q := by
    have : q ≤ s.size := by rw [← hq]; exact Nat.min_le_left _ _
    rw [← ht, List.length_take]; omega
  obtain ⟨i, x, y, hi, hz⟩ := list32 (t ++ (List.replicate 32 0).drop q) (by simp [htl]; omega)
  have hil : (bs i).length = 30 := by rw [bs_len, hi]
  have hsp : splice 0 (bs t) (bs (List.replicate 32 0)) = some (bs i ++ [.int .u8 (x.toNat : Int), .int .u8 (y.toNat : Int)]) := by
    unfold splice
    rw [Nat.ble_eq_true_of_le (by rw [bs_len, bs_len, htl, List.length_replicate]; omega), cond_true]
    congr 1
    have e : (bs (List.replicate 32 0)).drop (0 + (bs t).length) = bs ((List.replicate 32 0).drop q) := by
      rw [Nat.zero_add, bs_len, htl]; simp [bs, List.map_drop]
    rw [e, List.take_zero, List.nil_append]
    have e2 : bs t ++ bs ((List.replicate 32 0).drop q) = bs (t ++ (List.replicate 32 0).drop q) := by simp [bs]
    rw [e2, hz]; simp [bs]
  have hp1 : splice 30 [D.int .u8 (c.toNat : Int)] (bs i ++ [.int .u8 (x.toNat : Int), .int .u8 (y.toNat : Int)]) = some (bs i ++ [.int .u8 (c.toNat : Int), .int .u8 (y.toNat : Int)]) := by
    unfold splice
    rw [Nat.ble_eq_true_of_le (by simp [hil]), cond_true, ← hil, List.take_left, List.drop_append, List.drop_of_length_le (by simp)]
    simp
  have hp2 : splice 31 [D.int .u8 (d.toNat : Int)] (bs i ++ [.int .u8 (c.toNat : Int), .int .u8 (y.toNat : Int)]) = some (bs i ++ [.int .u8 (c.toNat : Int), .int .u8 (d.toNat : Int)]) := by
    unfold splice
    have e31 : 31 = (bs i).length + 1 := by omega
    rw [Nat.ble_eq_true_of_le (by simp [hil]), cond_true, e31, List.take_append, List.take_of_length_le (by omega), List.drop_append, List.drop_of_length_le (by simp; omega)]
    simp [Nat.add_sub_cancel_left]
    omega
  refine ⟨i ++ [c, d], by simp [hi], ?_⟩
  have hres : bs i ++ [.int .u8 (c.toNat : Int), .int .u8 (d.toNat : Int)] = bs (i ++ [c, d]) := by simp [bs]
  rw [hres] at hp2
  have hZ : (i ++ [c, d]).length = 32 := by simp [hi]
  generalize i ++ [c, d] = Z at *
  refine pur_intro Try.func29 rfl Try.ntmps29 rfl (by first | rfl | assumption | exact bs_cl _) fun B => ?_
  repeat (first | with_reducible (first | refine W_seq ?_ | refine q_then ?_ | refine q_thenr ?_ | refine q_thenx ?_ | refine W_block ?_ | refine q_block ?_ | refine q_blockr ?_ | refine q_blockx ?_ | refine W_ret ?_ | refine W_skip ?_ | refine W_label ?_ | refine W_exit ?_ | refine W_scope ?_ | refine q_scope ?_ | refine q_scoper ?_ | refine q_scopex ?_) | (with_reducible refine R_nil ?_; try dsimp only [slots0, slots_ud, cells_U, agg_ud, drop0, dropS, takeS, take0, ud_nil, take_ud, take_ud0, drop_ud, drop_ud0, take_udk, D.cells, D.fz, D.fzs, List.take_succ_cons, List.take_zero, List.drop_succ_cons, List.drop_zero, List.cons_append, List.nil_append, List.append_eq, List.length_cons, List.length_nil, Nat.reduceAdd, Nat.reduceMul, Nat.reduceSub, Int.reduceAdd, Int.reduceSub, Int.reduceToNat, Int.reduceNeg, Int.reduceMul]) | refine q_blocky rfl ?_ | refine W_plain rfl ?_ | refine W_drawn mixed rfl ?_ | refine and_chk (by kernel_rfl) ?_ | refine k_load rfl rfl rfl rfl ?_ | refine k_alloc rfl ?_ | refine k_box rfl rfl rfl ?_ | refine k_store rfl rfl rfl rfl rfl rfl rfl ?_ | refine k_fieldAddr rfl rfl rfl ?_ | refine k_copys rfl rfl rfl rfl rfl hq ht (by exact hsp) ?_ | refine k_conv rfl rfl hc ?_ | refine k_conv rfl rfl hd ?_ | refine k_store rfl rfl rfl rfl rfl rfl (by exact hp1) ?_ | refine k_store rfl rfl rfl rfl rfl rfl (by exact hp2) ?_ | refine k_load rfl rfl rfl (by exact b_cut hZ _) ?_ | refine k_store rfl rfl rfl rfl (b_len hZ) (b_fits _) (b_put hZ _ rfl) ?_ | refine W_unroll (WL_round ?_) | refine WL_round ?_ | refine k_append rfl rfl rfl (by first | rfl | exact trivial | (show 0 < _; omega)) (by first | rfl | (simp <;> omega)) (by first | rfl | (simp <;> omega)) rfl (by omega) rfl rfl rfl ?_ | refine k_slice rfl rfl rfl rfl ⟨by omega, by omega, by omega⟩ rfl rfl rfl ?_ | refine k_slice3 rfl rfl rfl rfl rfl ⟨by omega, by omega, by omega⟩ rfl rfl rfl ?_ | refine k_sliceA rfl rfl rfl rfl ⟨by omega, by omega, by omega, by omega⟩ rfl rfl ?_ | refine k_sliceE rfl rfl rfl rfl ⟨by omega, by omega, by omega, by omega⟩ rfl rfl rfl rfl ?_ | refine k_indexAddr rfl rfl rfl ⟨by omega, by omega⟩ ?_ | refine k_indexAddrs rfl rfl rfl ⟨by omega, by omega⟩ rfl ?_ | refine k_loade rfl rfl rfl ?_ | refine k_fieldAddre rfl rfl rfl rfl ?_ | refine W_yes rfl ?_ | refine W_no rfl ?_)
  (first | with_reducible refine q_endr ?_ | with_reducible refine q_endn ?_); refine rets1 Try.results29 (RetV.cell _ _ _ _ _ _ _ _ inferInstance rfl rfl (by exact b_cut hZ _)) ?_
  exact b_fz _


end Go.Proofs.Ytbpaimfnfigjpaa
