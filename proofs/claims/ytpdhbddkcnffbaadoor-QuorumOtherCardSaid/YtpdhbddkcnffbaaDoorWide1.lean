/- wide's Bytes. Conditions: a number below 2 to the 256. -/
import Derived.Test.YtpdhbddkcnffbaaDoorGd
import Derived.Test.YtpdhbddkcnffbaaDoorDNum
namespace Go.Proofs.YtpdhbddkcnffbaaDoor
open Go.RowKit Go.Lib Go.IntWalk
set_option linter.unusedVariables false
set_option linter.unusedVariables false
set_option maxRecDepth 100000

/-- the array when k bytes are laid -/
def ar (n k : Nat) : List D := (List.range 32).map fun j => D.int .u8 (if 32 ≤ j + k then xb n (31 - j) else 0)
theorem ar_end (n : Nat) : ar n 32 = bs (b32 n) := by
  rw [b32_bs]; unfold ar
  refine List.map_congr_left fun j _ => ?_
  rw [if_pos (by omega)]
theorem ar_len (n k : Nat) : (ar n k).length = 32 := by simp [ar]
theorem ar_get (n k j : Nat) (h : j < 32) : (ar n k)[j]? = some (D.int .u8 (if 32 ≤ j + k then xb n (31 - j) else 0)) := by
  unfold ar; rw [List.getElem?_map, List.getElem?_range h]; first | done | rfl
theorem ar_put (n k : Nat) (hk : k < 32) : splice (31 - k) [D.int .u8 (xb n k)] (ar n k) = some (ar n (k + 1)) := by
  have hl := ar_len n k
  unfold splice
  rw [Nat.ble_eq_true_of_le (by rw [hl]; show 31 - k + 1 ≤ 32; omega), cond_true]
  congr 1
  apply List.ext_getElem?
  intro j
  rcases Nat.lt_or_ge j 32 with hj | hj
  · rw [ar_get n (k + 1) j hj, List.append_assoc, List.getElem?_append]
    have htl : ((ar n k).take (31 - k)).length = 31 - k := by rw [List.length_take, hl]; omega
    rw [htl]
    by_cases h1 : j < 31 - k
    · rw [if_pos h1, List.getElem?_take, if_pos h1, ar_get n k j hj, if_neg (by omega), if_neg (by omega)]
    · rw [if_neg h1]
      by_cases h2 : j = 31 - k
      · subst h2
        rw [Nat.sub_self, if_pos (by omega), show 31 - (31 - k) = k from by omega]; rfl
      · rw [List.getElem?_append_right (by simp; omega), List.getElem?_drop, if_pos (by omega)]
        simp only [List.length_cons, List.length_nil]
        rw [show 31 - k + (0 + 1) + (j - (31 - k) - (0 + 1)) = j from by omega, ar_get n k j hj, if_pos (by omega)]
  · rw [List.getElem?_eq_none (by simp [hl]; omega), List.getElem?_eq_none (by rw [ar_len]; exact hj)]
theorem ud_cut (n q : Nat) (h : q < 4) : cut ⟨false, 1, [.int .u64 0]⟩ (0 + ((q : Nat) : Int).toNat * 1) (ud n) = some (.int .u64 (lim n q)) := by
  obtain rfl | rfl | rfl | rfl : q = 0 ∨ q = 1 ∨ q = 2 ∨ q = 3 := by omega
  all_goals rfl
theorem quo8 (k : Nat) (hk : k < 32) : IntKind.i64.wrap ((k : Int).tdiv 8) = ((k / 8 : Nat) : Int) := by
  rw [Int.tdiv_eq_ediv_of_nonneg (by omega), i64_in _ (by omega)]; omega
theorem rem8 (k : Nat) : (k : Int).tmod 8 = ((k % 8 : Nat) : Int) := by
  rw [Int.tmod_eq_emod_of_nonneg (by omega)]; omega
theorem mul8 (r : Nat) (hr : r < 8) : IntKind.i64.wrap (8 * ((r : Nat) : Int)) = ((8 * r : Nat) : Int) := by
  rw [i64_in _ (by omega)]; omega
set_option maxHeartbeats 16000000 in
theorem Bytes_ok (n : Nat) : Pur Tryd.prog 31 [U n] (.agg (bs (b32 n))) := by
  rw [← ar_end]
  refine pur_intro Tryd.func31 rfl Tryd.ntmps31 rfl (by first | rfl | assumption | exact bs_cl _) fun B => ?_
  repeat (first | with_reducible (first | refine W_seq ?_ | refine q_then ?_ | refine q_thenr ?_ | refine q_thenx ?_ | refine W_block ?_ | refine q_block ?_ | refine q_blockr ?_ | refine q_blockx ?_ | refine W_ret ?_ | refine W_skip ?_ | refine W_label ?_ | refine W_exit ?_ | refine W_scope ?_ | refine q_scope ?_ | refine q_scoper ?_ | refine q_scopex ?_) | (with_reducible refine R_nil ?_; try dsimp only [slots0, slots_ud, cells_U, agg_ud, drop0, dropS, takeS, take0, ud_nil, take_ud, take_ud0, drop_ud, drop_ud0, take_udk, D.cells, D.fz, D.fzs, List.take_succ_cons, List.take_zero, List.drop_succ_cons, List.drop_zero, List.cons_append, List.nil_append, List.append_eq, List.length_cons, List.length_nil, Nat.reduceAdd, Nat.reduceMul, Nat.reduceSub, Int.reduceAdd, Int.reduceSub, Int.reduceToNat, Int.reduceNeg, Int.reduceMul]) | refine q_blocky rfl ?_ | refine W_plain rfl ?_ | refine W_drawn mixed rfl ?_ | refine and_chk (by kernel_rfl) ?_ | refine k_move rfl rfl ?_ | refine k_assign rfl rfl ?_ | refine k_load rfl rfl rfl rfl ?_ | refine k_alloc rfl ?_ | refine k_box rfl rfl rfl ?_ | refine k_store rfl rfl rfl rfl rfl rfl rfl ?_ | (refine k_indexAddr rfl rfl rfl ⟨?_, ?_⟩ ?_; (omega); (omega)) | (refine k_indexAddrs rfl rfl rfl ⟨?_, ?_⟩ rfl ?_; (omega); (omega)) | refine k_loade rfl rfl rfl ?_ | (refine k_addi rfl rfl rfl ?_ ?_; (omega)) | (refine k_subi rfl rfl rfl ?_ ?_; (omega)) | (refine k_lssT rfl rfl rfl ?_ ?_; (omega)) | (refine k_lssF rfl rfl rfl ?_ ?_; (omega)) | refine W_yes rfl ?_ | refine W_no rfl ?_)
  refine W_loop (fun n' ρ m nx => ∃ k : Nat, k ≤ 32 ∧ n' = 32 - k ∧ ρ = [(5, .int .i64 (k : Int)), (3, .ptr 2 0), (2, .ptr 1 0), (1, .ptr 0 0)] ∧ m = [(2, some (.var 48 (ar n k))), (1, some (.var 48 (ar 0 0))), (0, some (.var 24 (ud n)))] ∧ nx = 3)
    ⟨_, _, _, _, (by repeat (first | exact trivial | refine ⟨⟨rfl, rfl⟩, ?_⟩ | refine ⟨⟨rfl, bs_bel _ _⟩, ?_⟩ | refine ⟨⟨rfl, arr_bels _ _ _⟩, ?_⟩)), (by repeat (first | exact trivial | refine ⟨⟨rfl, rfl, rfl⟩, ?_⟩ | refine ⟨⟨rfl, rfl, bs_bels _ _⟩, ?_⟩ | refine ⟨⟨rfl, rfl, arr_bels _ _ _⟩, ?_⟩)), 0, by decide, rfl, rfl, rfl, rfl⟩ ?_
  rintro n' ρ m nx ⟨k, hk, rfl, rfl, rfl, rfl⟩
  by_cases hlt : k < 32
  · have hq := quo8 k hlt
    have hr := rem8 k
    have hm := mul8 (k % 8) (by omega)
    have hb := lim_byte n (k / 8) (k % 8) (by omega)
    rw [show 8 * (k / 8) + k % 8 = k from by omega] at hb
    have hsh : (lim n (k / 8)).fdiv (2 ^ (min ((8 * (k % 8) : Nat) : Int).toNat IntKind.u64.bits)) = (lim n (k / 8)).fdiv (2 ^ (8 * (k % 8))) := by
      rw [Int.toNat_natCast]
      have : min (8 * (k % 8)) IntKind.u64.bits = 8 * (k % 8) := Nat.min_eq_left (by show _ ≤ 64; omega)
      rw [this]
    have hcut := ud_cut n (k / 8) (by omega)
    have hput := ar_put n k hlt
    have hoff : 0 + ((31 : Int) - (k : Int)).toNat * 1 = 31 - k := by omega
    generalize (lim n (k / 8)).fdiv (2 ^ (8 * (k % 8))) = V at *
    have hqb : k / 8 < 4 := by omega
    generalize k / 8 = q at *
    generalize k % 8 = r at *
    have hsp : splice (0 + ((31 : Int) - (k : Int)).toNat * 1) [D.int .u8 (xb n k)] (ar n k) = some (ar n (k + 1)) := by rw [hoff]; exact hput
    repeat (first | with_reducible (first | refine W_seq ?_ | refine q_then ?_ | refine q_thenr ?_ | refine q_thenx ?_ | refine W_block ?_ | refine q_block ?_ | refine q_blockr ?_ | refine q_blockx ?_ | refine W_ret ?_ | refine W_skip ?_ | refine W_label ?_ | refine W_exit ?_ | refine W_scope ?_ | refine q_scope ?_ | refine q_scoper ?_ | refine q_scopex ?_) | (with_reducible refine R_nil ?_; try dsimp only [slots0, slots_ud, cells_U, agg_ud, drop0, dropS, takeS, take0, ud_nil, take_ud, take_ud0, drop_ud, drop_ud0, take_udk, D.cells, D.fz, D.fzs, List.take_succ_cons, List.take_zero, List.drop_succ_cons, List.drop_zero, List.cons_append, List.nil_append, List.append_eq, List.length_cons, List.length_nil, Nat.reduceAdd, Nat.reduceMul, Nat.reduceSub, Int.reduceAdd, Int.reduceSub, Int.reduceToNat, Int.reduceNeg, Int.reduceMul]) | refine q_blocky rfl ?_ | refine W_plain rfl ?_ | refine W_drawn mixed rfl ?_ | refine and_chk (by kernel_rfl) ?_ | refine k_move rfl rfl ?_ | refine k_assign rfl rfl ?_ | refine k_load rfl rfl rfl rfl ?_ | refine k_alloc rfl ?_ | refine k_box rfl rfl rfl ?_ | refine k_store rfl rfl rfl rfl rfl rfl rfl ?_ | (refine k_quo rfl rfl rfl ?_ hq ?_; (decide)) | (refine k_rem rfl rfl rfl ?_ hr ?_; (decide)) | refine k_mul rfl rfl rfl hm ?_ | refine k_load rfl rfl rfl (by exact hcut) ?_ | (refine k_shr rfl rfl rfl ?_ hsh ?_; (omega)) | refine k_conv rfl rfl hb ?_ | refine k_store rfl rfl rfl rfl rfl rfl (by exact hsp) ?_ | refine W_unroll (WL_round ?_) | refine WL_round ?_ | (refine k_append rfl rfl rfl ?_ ?_ ?_ rfl ?_ rfl rfl rfl ?_; (first | rfl | exact trivial | (show 0 < _; omega)); (first | rfl | (simp <;> omega)); (first | rfl | (simp <;> omega)); (omega)) | (refine k_slice rfl rfl rfl rfl ⟨?_, ?_, ?_⟩ rfl rfl rfl ?_; (omega); (omega); (omega)) | (refine k_slice3 rfl rfl rfl rfl rfl ⟨?_, ?_, ?_⟩ rfl rfl rfl ?_; (omega); (omega); (omega)) | (refine k_sliceA rfl rfl rfl rfl ⟨?_, ?_, ?_, ?_⟩ rfl rfl ?_; (omega); (omega); (omega); (omega)) | (refine k_sliceE rfl rfl rfl rfl ⟨?_, ?_, ?_, ?_⟩ rfl rfl rfl rfl ?_; (omega); (omega); (omega); (omega)) | (refine k_indexAddr rfl rfl rfl ⟨?_, ?_⟩ ?_; (omega); (omega)) | (refine k_indexAddrs rfl rfl rfl ⟨?_, ?_⟩ rfl ?_; (omega); (omega)) | refine k_loade rfl rfl rfl ?_ | (refine k_addi rfl rfl rfl ?_ ?_; (omega)) | (refine k_subi rfl rfl rfl ?_ ?_; (omega)) | (refine k_lssT rfl rfl rfl ?_ ?_; (omega)) | (refine k_lssF rfl rfl rfl ?_ ?_; (omega)) | refine W_yes rfl ?_ | refine W_no rfl ?_)
    exact ⟨32 - (k + 1), _, _, _, (by repeat (first | exact trivial | refine ⟨⟨rfl, rfl⟩, ?_⟩ | refine ⟨⟨rfl, bs_bel _ _⟩, ?_⟩ | refine ⟨⟨rfl, arr_bels _ _ _⟩, ?_⟩)), (by repeat (first | exact trivial | refine ⟨⟨rfl, rfl, rfl⟩, ?_⟩ | refine ⟨⟨rfl, rfl, bs_bels _ _⟩, ?_⟩ | refine ⟨⟨rfl, rfl, arr_bels _ _ _⟩, ?_⟩)), by omega, k + 1, by omega, rfl, rfl, rfl, rfl⟩
  · have ek : k = 32 := by omega
    subst ek
    repeat (first | with_reducible (first | refine W_seq ?_ | refine q_then ?_ | refine q_thenr ?_ | refine q_thenx ?_ | refine W_block ?_ | refine q_block ?_ | refine q_blockr ?_ | refine q_blockx ?_ | refine W_ret ?_ | refine W_skip ?_ | refine W_label ?_ | refine W_exit ?_ | refine W_scope ?_ | refine q_scope ?_ | refine q_scoper ?_ | refine q_scopex ?_) | (with_reducible refine R_nil ?_; try dsimp only [slots0, slots_ud, cells_U, agg_ud, drop0, dropS, takeS, take0, ud_nil, take_ud, take_ud0, drop_ud, drop_ud0, take_udk, D.cells, D.fz, D.fzs, List.take_succ_cons, List.take_zero, List.drop_succ_cons, List.drop_zero, List.cons_append, List.nil_append, List.append_eq, List.length_cons, List.length_nil, Nat.reduceAdd, Nat.reduceMul, Nat.reduceSub, Int.reduceAdd, Int.reduceSub, Int.reduceToNat, Int.reduceNeg, Int.reduceMul]) | refine q_blocky rfl ?_ | refine W_plain rfl ?_ | refine W_drawn mixed rfl ?_ | refine and_chk (by kernel_rfl) ?_ | refine k_move rfl rfl ?_ | refine k_assign rfl rfl ?_ | refine k_load rfl rfl rfl rfl ?_ | refine k_alloc rfl ?_ | refine k_box rfl rfl rfl ?_ | refine k_store rfl rfl rfl rfl rfl rfl rfl ?_ | refine W_unroll (WL_round ?_) | refine WL_round ?_ | (refine k_append rfl rfl rfl ?_ ?_ ?_ rfl ?_ rfl rfl rfl ?_; (first | rfl | exact trivial | (show 0 < _; omega)); (first | rfl | (simp <;> omega)); (first | rfl | (simp <;> omega)); (omega)) | (refine k_slice rfl rfl rfl rfl ⟨?_, ?_, ?_⟩ rfl rfl rfl ?_; (omega); (omega); (omega)) | (refine k_slice3 rfl rfl rfl rfl rfl ⟨?_, ?_, ?_⟩ rfl rfl rfl ?_; (omega); (omega); (omega)) | (refine k_sliceA rfl rfl rfl rfl ⟨?_, ?_, ?_, ?_⟩ rfl rfl ?_; (omega); (omega); (omega); (omega)) | (refine k_sliceE rfl rfl rfl rfl ⟨?_, ?_, ?_, ?_⟩ rfl rfl rfl rfl ?_; (omega); (omega); (omega); (omega)) | (refine k_indexAddr rfl rfl rfl ⟨?_, ?_⟩ ?_; (omega); (omega)) | (refine k_indexAddrs rfl rfl rfl ⟨?_, ?_⟩ rfl ?_; (omega); (omega)) | refine k_loade rfl rfl rfl ?_ | (refine k_addi rfl rfl rfl ?_ ?_; (omega)) | (refine k_subi rfl rfl rfl ?_ ?_; (omega)) | (refine k_lssT rfl rfl rfl ?_ ?_; (omega)) | (refine k_lssF rfl rfl rfl ?_ ?_; (omega)) | refine W_yes rfl ?_ | refine W_no rfl ?_)
    (first | with_reducible refine q_endr ?_ | with_reducible refine q_endn ?_); refine rets1 Tryd.results31 (by first | exact RetV.tmp _ _ rfl | exact RetV.cell _ _ _ _ _ _ _ _ inferInstance rfl rfl rfl) ?_
    rfl
end Go.Proofs.YtpdhbddkcnffbaaDoor
