/- Bytes of raw things: word and sum. Conditions: none. -/
import Derived.Test.YtpdhbddkcnffbaaDoorGd
import Derived.Test.YtpdhbddkcnffbaaDoorWide2
import Derived.Test.YtpdhbddkcnffbaaDoorBPut
namespace Go.Proofs.YtpdhbddkcnffbaaDoor
open Go.RowKit Go.Lib Go.IntWalk
set_option linter.unusedVariables false
set_option linter.unusedVariables false
set_option maxRecDepth 100000

set_option maxHeartbeats 8000000 in
theorem word_ok (k a b : Int) (s : ByteArray) : ∃ z : List UInt8, z.length = 32 ∧ Pur Tryd.prog 37 [.agg [.int .i64 k, .int .i64 a, .int .i64 b, .str s]] (.agg (bs z)) := by
  obtain ⟨c, hc⟩ := u8_of a
  obtain ⟨d, hd⟩ := u8_of b
  have hsl : s.data.toList.length = s.size := by rw [Array.length_toList]; rfl
  obtain ⟨q, hq⟩ : ∃ q, Nat.min s.size 32 = q := ⟨_, rfl⟩
  have hq32 : q ≤ 32 := by rw [← hq]; exact Nat.min_le_right _ _
  obtain ⟨t, ht⟩ : ∃ t, s.data.toList.take q = t := ⟨_, rfl⟩
  have htl : t.length = q := by
    have : q ≤ s.size := by rw [← hq]; exact Nat.min_le_left _ _
    rw [← ht, List.length_take]; omega
  obtain ⟨i, x, y, hi, hz⟩ := list32 (t ++ (List.replicate 32 0).drop q) (by simp [htl]; omega)
  have hil : (bs i).length = 30 := by rw [bs_len, hi]
  have hsp : splice 0 (bs t) (bs (List.replicate 32 0)) = some (bs i ++ [.int .u8 (x.toNat : Int), .int .u8 (y.toNat : Int)]) := by
    unfold splice
    rw [Nat.ble_eq_true_of_le (by rw [bs_len, bs_len, htl, List.length_replicate]; omega), cond_true]
    congr 1
    have e : (bs (List.replicate 32 0)).drop (0 + (bs t).length) = bs ((List.replicate 32 0).drop q) := by
      rw [Nat.zero_add, bs_len, htl]; simp [bs, List.map_drop]
    rw [e, List.take_zero, List.nil_append]
    have e2 : bs t ++ bs ((List.replicate 32 0).drop q) = bs (t ++ (List.replicate 32 0).drop q) := by simp [bs]
    rw [e2, hz]; simp [bs]
  have hp1 : splice 30 [D.int .u8 (c.toNat : Int)] (bs i ++ [.int .u8 (x.toNat : Int), .int .u8 (y.toNat : Int)]) = some (bs i ++ [.int .u8 (c.toNat : Int), .int .u8 (y.toNat : Int)]) := by
    unfold splice
    rw [Nat.ble_eq_true_of_le (by simp [hil]), cond_true, ← hil, List.take_left, List.drop_append, List.drop_of_length_le (by simp)]
    simp
  have hp2 : splice 31 [D.int .u8 (d.toNat : Int)] (bs i ++ [.int .u8 (c.toNat : Int), .int .u8 (y.toNat : Int)]) = some (bs i ++ [.int .u8 (c.toNat : Int), .int .u8 (d.toNat : Int)]) := by
    unfold splice
    have e31 : 31 = (bs i).length + 1 := by omega
    rw [Nat.ble_eq_true_of_le (by simp [hil]), cond_true, e31, List.take_append, List.take_of_length_le (by omega), List.drop_append, List.drop_of_length_le (by simp; omega)]
    simp [Nat.add_sub_cancel_left]
    omega
  refine ⟨i ++ [c, d], by simp [hi], ?_⟩
  have hres : bs i ++ [.int .u8 (c.toNat : Int), .int .u8 (d.toNat : Int)] = bs (i ++ [c, d]) := by simp [bs]
  rw [hres] at hp2
  have hZ : (i ++ [c, d]).length = 32 := by simp [hi]
  generalize i ++ [c, d] = Z at *
  refine pur_intro Tryd.func37 rfl Tryd.ntmps37 rfl (by first | rfl | assumption | exact bs_cl _) fun B => ?_
  repeat (first | with_reducible (first | refine W_seq ?_ | refine q_then ?_ | refine q_thenr ?_ | refine q_thenx ?_ | refine W_block ?_ | refine q_block ?_ | refine q_blockr ?_ | refine q_blockx ?_ | refine W_ret ?_ | refine W_skip ?_ | refine W_label ?_ | refine W_exit ?_ | refine W_scope ?_ | refine q_scope ?_ | refine q_scoper ?_ | refine q_scopex ?_) | (with_reducible refine R_nil ?_; try dsimp only [slots0, slots_ud, cells_U, agg_ud, drop0, dropS, takeS, take0, ud_nil, take_ud, take_ud0, drop_ud, drop_ud0, take_udk, D.cells, D.fz, D.fzs, List.take_succ_cons, List.take_zero, List.drop_succ_cons, List.drop_zero, List.cons_append, List.nil_append, List.append_eq, List.length_cons, List.length_nil, Nat.reduceAdd, Nat.reduceMul, Nat.reduceSub, Int.reduceAdd, Int.reduceSub, Int.reduceToNat, Int.reduceNeg, Int.reduceMul]) | refine q_blocky rfl ?_ | refine W_plain rfl ?_ | refine W_drawn mixed rfl ?_ | refine and_chk (by kernel_rfl) ?_ | refine k_load rfl rfl rfl rfl ?_ | refine k_alloc rfl ?_ | refine k_box rfl rfl rfl ?_ | refine k_store rfl rfl rfl rfl rfl rfl rfl ?_ | refine k_fieldAddr rfl rfl rfl ?_ | refine k_copys rfl rfl rfl rfl rfl hq ht (by exact hsp) ?_ | refine k_conv rfl rfl hc ?_ | refine k_conv rfl rfl hd ?_ | refine k_store rfl rfl rfl rfl rfl rfl (by exact hp1) ?_ | refine k_store rfl rfl rfl rfl rfl rfl (by exact hp2) ?_ | refine k_load rfl rfl rfl (b_cut hZ _) ?_ | refine k_store rfl rfl rfl rfl (b_len hZ) (b_fits _) (b_put hZ _ rfl) ?_ | refine W_unroll (WL_round ?_) | refine WL_round ?_ | (refine k_append rfl rfl rfl ?_ ?_ ?_ rfl ?_ rfl rfl rfl ?_; (first | rfl | exact trivial | (show 0 < _; omega)); (first | rfl | (simp <;> omega)); (first | rfl | (simp <;> omega)); (omega)) | (refine k_slice rfl rfl rfl rfl ⟨?_, ?_, ?_⟩ rfl rfl rfl ?_; (omega); (omega); (omega)) | (refine k_slice3 rfl rfl rfl rfl rfl ⟨?_, ?_, ?_⟩ rfl rfl rfl ?_; (omega); (omega); (omega)) | (refine k_sliceA rfl rfl rfl rfl ⟨?_, ?_, ?_, ?_⟩ rfl rfl ?_; (omega); (omega); (omega); (omega)) | (refine k_sliceE rfl rfl rfl rfl ⟨?_, ?_, ?_, ?_⟩ rfl rfl rfl rfl ?_; (omega); (omega); (omega); (omega)) | (refine k_indexAddr rfl rfl rfl ⟨?_, ?_⟩ ?_; (omega); (omega)) | (refine k_indexAddrs rfl rfl rfl ⟨?_, ?_⟩ rfl ?_; (omega); (omega)) | refine k_loade rfl rfl rfl ?_ | refine k_fieldAddre rfl rfl rfl rfl ?_ | refine W_yes rfl ?_ | refine W_no rfl ?_)
  (first | with_reducible refine q_endr ?_ | with_reducible refine q_endn ?_); refine rets1 Tryd.results37 (RetV.cell _ _ _ _ _ _ _ _ inferInstance rfl rfl (by exact b_cut hZ _)) ?_
  exact b_fz _


/-- the byte that sum lays in place i -/
noncomputable def sumC (a b : Int) (i : Nat) (c : UInt8) : UInt8 := Classical.choose (u8_xor (c.toNat : Int) (IntKind.u8.wrap (IntKind.u8.wrap (a.fdiv (2 ^ (min ((i % 7 * 8 : Nat) : Int).toNat IntKind.i64.bits))) + IntKind.u8.wrap (IntKind.i64.wrap ((i : Int) * b)))))
theorem sumC_eq (a b : Int) (i : Nat) (c : UInt8) : bitw .xor .u8 (c.toNat : Int) (IntKind.u8.wrap (IntKind.u8.wrap (a.fdiv (2 ^ (min ((i % 7 * 8 : Nat) : Int).toNat IntKind.i64.bits))) + IntKind.u8.wrap (IntKind.i64.wrap ((i : Int) * b)))) = (((sumC a b i c).toNat : Nat) : Int) := Classical.choose_spec (u8_xor _ _)
noncomputable def sumI (a b : Int) (z : List UInt8) : Nat → List UInt8
  | 0 => z
  | i + 1 => (sumI a b z i).set i (sumC a b i ((sumI a b z i).getD i 0))
theorem sumI_len (a b : Int) (z : List UInt8) : ∀ i, (sumI a b z i).length = z.length
  | 0 => rfl
  | i + 1 => by rw [sumI, List.length_set, sumI_len a b z i]
set_option maxHeartbeats 8000000 in
theorem sum_ok (k a b : Int) (s : ByteArray) : ∃ z : List UInt8, z.length = 32 ∧ Pur Tryd.prog 16 [.agg [.int .i64 k, .int .i64 a, .int .i64 b, .str s]] (.agg (bs z)) := by
  obtain ⟨z0, hz0, hw⟩ := word_ok k a b s
  have hL : ∀ i, (sumI a b z0 i).length = 32 := fun i => by rw [sumI_len, hz0]
  have hZl := hL 32
  obtain ⟨Z, hZ⟩ : ∃ Z, sumI a b z0 32 = Z := ⟨_, rfl⟩
  rw [hZ] at hZl
  refine ⟨Z, hZl, ?_⟩
  have hcl : D.cl (.agg (bs Z)) = true := bs_cl _
  refine pur_intro Tryd.func16 rfl Tryd.ntmps16 rfl (by first | rfl | assumption | exact bs_cl _) fun B => ?_
  repeat (first | with_reducible (first | refine W_seq ?_ | refine q_then ?_ | refine q_thenr ?_ | refine q_thenx ?_ | refine W_block ?_ | refine q_block ?_ | refine q_blockr ?_ | refine q_blockx ?_ | refine W_ret ?_ | refine W_skip ?_ | refine W_label ?_ | refine W_exit ?_ | refine W_scope ?_ | refine q_scope ?_ | refine q_scoper ?_ | refine q_scopex ?_) | (with_reducible refine R_nil ?_; try dsimp only [slots0, slots_ud, cells_U, agg_ud, drop0, dropS, takeS, take0, ud_nil, take_ud, take_ud0, drop_ud, drop_ud0, take_udk, D.cells, D.fz, D.fzs, List.take_succ_cons, List.take_zero, List.drop_succ_cons, List.drop_zero, List.cons_append, List.nil_append, List.append_eq, List.length_cons, List.length_nil, Nat.reduceAdd, Nat.reduceMul, Nat.reduceSub, Int.reduceAdd, Int.reduceSub, Int.reduceToNat, Int.reduceNeg, Int.reduceMul]) | refine q_blocky rfl ?_ | refine W_plain rfl ?_ | refine W_drawn mixed rfl ?_ | refine and_chk (by kernel_rfl) ?_ | refine k_move rfl rfl ?_ | refine k_assign rfl rfl ?_ | refine k_load rfl rfl rfl rfl ?_ | refine k_alloc rfl ?_ | refine k_box rfl rfl rfl ?_ | refine k_store rfl rfl rfl rfl rfl rfl rfl ?_ | refine k_fieldAddr rfl rfl rfl ?_ | refine k_call rfl hw rfl rfl rfl (bs_cl _) ?_ | refine k_store rfl rfl rfl rfl (b_len hz0) (b_fits _) (b_put hz0 _ rfl) ?_ | (refine k_append rfl rfl rfl ?_ ?_ ?_ rfl ?_ rfl rfl rfl ?_; (first | rfl | exact trivial | (show 0 < _; omega)); (first | rfl | (simp <;> omega)); (first | rfl | (simp <;> omega)); (omega)) | (refine k_slice rfl rfl rfl rfl ⟨?_, ?_, ?_⟩ rfl rfl rfl ?_; (omega); (omega); (omega)) | (refine k_slice3 rfl rfl rfl rfl rfl ⟨?_, ?_, ?_⟩ rfl rfl rfl ?_; (omega); (omega); (omega)) | (refine k_sliceA rfl rfl rfl rfl ⟨?_, ?_, ?_, ?_⟩ rfl rfl ?_; (omega); (omega); (omega); (omega)) | (refine k_sliceE rfl rfl rfl rfl ⟨?_, ?_, ?_, ?_⟩ rfl rfl rfl rfl ?_; (omega); (omega); (omega); (omega)) | (refine k_indexAddr rfl rfl rfl ⟨?_, ?_⟩ ?_; (omega); (omega)) | (refine k_indexAddrs rfl rfl rfl ⟨?_, ?_⟩ rfl ?_; (omega); (omega)) | refine k_loade rfl rfl rfl ?_ | refine k_fieldAddre rfl rfl rfl rfl ?_ | (refine k_addi rfl rfl rfl ?_ ?_; (omega)) | (refine k_lssT rfl rfl rfl ?_ ?_; (omega)) | (refine k_lssF rfl rfl rfl ?_ ?_; (omega)) | refine W_yes rfl ?_ | refine W_no rfl ?_)
  refine W_loop (fun n' ρ m nx => ∃ i : Nat, i ≤ 32 ∧ n' = 32 - i ∧ ρ = [(7, .int .i64 (i : Int)), (3, .ptr 2 0), (2, .ptr 1 0), (1, .ptr 0 0)] ∧ m = [(2, some (.var 48 (bs (sumI a b z0 i)))), (1, some (.var 48 (bs (List.replicate 32 0)))), (0, some (.var 41 [.int .i64 k, .int .i64 a, .int .i64 b, .str s]))] ∧ nx = 3)
    ⟨_, _, _, _, (by repeat (first | exact trivial | refine ⟨⟨rfl, rfl⟩, ?_⟩ | refine ⟨⟨rfl, bs_bel _ _⟩, ?_⟩ | refine ⟨⟨rfl, arr_bels _ _ _⟩, ?_⟩)), (by repeat (first | exact trivial | refine ⟨⟨rfl, rfl, rfl⟩, ?_⟩ | refine ⟨⟨rfl, rfl, bs_bels _ _⟩, ?_⟩ | refine ⟨⟨rfl, rfl, arr_bels _ _ _⟩, ?_⟩)), 0, by decide, rfl, rfl, rfl, rfl⟩ ?_
  rintro n' ρ m nx ⟨i, hi, rfl, rfl, rfl, rfl⟩
  by_cases hlt : i < 32
  · have hl := hL i
    have hr : (i : Int).tmod 7 = ((i % 7 : Nat) : Int) := by rw [Int.tmod_eq_emod_of_nonneg (by omega)]; omega
    have hm : IntKind.i64.wrap (((i % 7 : Nat) : Int) * 8) = ((i % 7 * 8 : Nat) : Int) := by rw [i64_in _ (by omega)]; omega
    have hcut := bs_ix (sumI a b z0 i) i (by omega)
    have hx := sumC_eq a b i ((sumI a b z0 i).getD i 0)
    have hp := bs_put (sumI a b z0 i) i (sumC a b i ((sumI a b z0 i).getD i 0)) (by omega)
    have hn : (sumI a b z0 i).set i (sumC a b i ((sumI a b z0 i).getD i 0)) = sumI a b z0 (i + 1) := rfl
    rw [hn] at hp
    clear hn
    have h7 : i % 7 * 8 < 64 := by omega
    generalize (sumI a b z0 i).getD i 0 = c at *
    generalize sumC a b i c = v at *
    generalize h1 : sumI a b z0 (i + 1) = l1 at *
    generalize sumI a b z0 i = l0 at *
    generalize i % 7 = q at *
    repeat (first | with_reducible (first | refine W_seq ?_ | refine q_then ?_ | refine q_thenr ?_ | refine q_thenx ?_ | refine W_block ?_ | refine q_block ?_ | refine q_blockr ?_ | refine q_blockx ?_ | refine W_ret ?_ | refine W_skip ?_ | refine W_label ?_ | refine W_exit ?_ | refine W_scope ?_ | refine q_scope ?_ | refine q_scoper ?_ | refine q_scopex ?_) | (with_reducible refine R_nil ?_; try dsimp only [slots0, slots_ud, cells_U, agg_ud, drop0, dropS, takeS, take0, ud_nil, take_ud, take_ud0, drop_ud, drop_ud0, take_udk, D.cells, D.fz, D.fzs, List.take_succ_cons, List.take_zero, List.drop_succ_cons, List.drop_zero, List.cons_append, List.nil_append, List.append_eq, List.length_cons, List.length_nil, Nat.reduceAdd, Nat.reduceMul, Nat.reduceSub, Int.reduceAdd, Int.reduceSub, Int.reduceToNat, Int.reduceNeg, Int.reduceMul]) | refine q_blocky rfl ?_ | refine W_plain rfl ?_ | refine W_drawn mixed rfl ?_ | refine and_chk (by kernel_rfl) ?_ | refine k_move rfl rfl ?_ | refine k_assign rfl rfl ?_ | refine k_load rfl rfl rfl rfl ?_ | refine k_alloc rfl ?_ | refine k_box rfl rfl rfl ?_ | refine k_store rfl rfl rfl rfl rfl rfl rfl ?_ | refine k_fieldAddr rfl rfl rfl ?_ | (refine k_rem rfl rfl rfl ?_ hr ?_; (decide)) | refine k_mul rfl rfl rfl hm ?_ | refine k_load rfl rfl rfl (by exact hcut) ?_ | (refine k_shr rfl rfl rfl ?_ rfl ?_; (omega)) | refine k_conv rfl rfl rfl ?_ | refine k_mul rfl rfl rfl rfl ?_ | refine k_add (k := .u8) rfl rfl rfl rfl ?_ | refine k_bits rfl rfl rfl rfl hx ?_ | refine k_store rfl rfl rfl rfl rfl rfl (by exact hp) ?_ | (refine k_append rfl rfl rfl ?_ ?_ ?_ rfl ?_ rfl rfl rfl ?_; (first | rfl | exact trivial | (show 0 < _; omega)); (first | rfl | (simp <;> omega)); (first | rfl | (simp <;> omega)); (omega)) | (refine k_slice rfl rfl rfl rfl ⟨?_, ?_, ?_⟩ rfl rfl rfl ?_; (omega); (omega); (omega)) | (refine k_slice3 rfl rfl rfl rfl rfl ⟨?_, ?_, ?_⟩ rfl rfl rfl ?_; (omega); (omega); (omega)) | (refine k_sliceA rfl rfl rfl rfl ⟨?_, ?_, ?_, ?_⟩ rfl rfl ?_; (omega); (omega); (omega); (omega)) | (refine k_sliceE rfl rfl rfl rfl ⟨?_, ?_, ?_, ?_⟩ rfl rfl rfl rfl ?_; (omega); (omega); (omega); (omega)) | (refine k_indexAddr rfl rfl rfl ⟨?_, ?_⟩ ?_; (omega); (omega)) | (refine k_indexAddrs rfl rfl rfl ⟨?_, ?_⟩ rfl ?_; (omega); (omega)) | refine k_loade rfl rfl rfl ?_ | refine k_fieldAddre rfl rfl rfl rfl ?_ | (refine k_addi rfl rfl rfl ?_ ?_; (omega)) | (refine k_lssT rfl rfl rfl ?_ ?_; (omega)) | (refine k_lssF rfl rfl rfl ?_ ?_; (omega)) | refine W_yes rfl ?_ | refine W_no rfl ?_)
    subst h1
    exact ⟨32 - (i + 1), _, _, _, (by repeat (first | exact trivial | refine ⟨⟨rfl, rfl⟩, ?_⟩ | refine ⟨⟨rfl, bs_bel _ _⟩, ?_⟩ | refine ⟨⟨rfl, arr_bels _ _ _⟩, ?_⟩)), (by repeat (first | exact trivial | refine ⟨⟨rfl, rfl, rfl⟩, ?_⟩ | refine ⟨⟨rfl, rfl, bs_bels _ _⟩, ?_⟩ | refine ⟨⟨rfl, rfl, arr_bels _ _ _⟩, ?_⟩)), by omega, i + 1, by omega, rfl, rfl, rfl, rfl⟩
  · have ei : i = 32 := by omega
    subst ei
    rw [hZ]
    have hb := b_cut hZl
    repeat (first | with_reducible (first | refine W_seq ?_ | refine q_then ?_ | refine q_thenr ?_ | refine q_thenx ?_ | refine W_block ?_ | refine q_block ?_ | refine q_blockr ?_ | refine q_blockx ?_ | refine W_ret ?_ | refine W_skip ?_ | refine W_label ?_ | refine W_exit ?_ | refine W_scope ?_ | refine q_scope ?_ | refine q_scoper ?_ | refine q_scopex ?_) | (with_reducible refine R_nil ?_; try dsimp only [slots0, slots_ud, cells_U, agg_ud, drop0, dropS, takeS, take0, ud_nil, take_ud, take_ud0, drop_ud, drop_ud0, take_udk, D.cells, D.fz, D.fzs, List.take_succ_cons, List.take_zero, List.drop_succ_cons, List.drop_zero, List.cons_append, List.nil_append, List.append_eq, List.length_cons, List.length_nil, Nat.reduceAdd, Nat.reduceMul, Nat.reduceSub, Int.reduceAdd, Int.reduceSub, Int.reduceToNat, Int.reduceNeg, Int.reduceMul]) | refine q_blocky rfl ?_ | refine W_plain rfl ?_ | refine W_drawn mixed rfl ?_ | refine and_chk (by kernel_rfl) ?_ | refine k_move rfl rfl ?_ | refine k_assign rfl rfl ?_ | refine k_load rfl rfl rfl rfl ?_ | refine k_alloc rfl ?_ | refine k_box rfl rfl rfl ?_ | refine k_store rfl rfl rfl rfl rfl rfl rfl ?_ | refine k_fieldAddr rfl rfl rfl ?_ | refine k_load rfl rfl rfl (hb _) ?_ | refine k_store rfl rfl rfl rfl (b_len hZl) (b_fits _) (b_put hZl _ rfl) ?_ | (refine k_append rfl rfl rfl ?_ ?_ ?_ rfl ?_ rfl rfl rfl ?_; (first | rfl | exact trivial | (show 0 < _; omega)); (first | rfl | (simp <;> omega)); (first | rfl | (simp <;> omega)); (omega)) | (refine k_slice rfl rfl rfl rfl ⟨?_, ?_, ?_⟩ rfl rfl rfl ?_; (omega); (omega); (omega)) | (refine k_slice3 rfl rfl rfl rfl rfl ⟨?_, ?_, ?_⟩ rfl rfl rfl ?_; (omega); (omega); (omega)) | (refine k_sliceA rfl rfl rfl rfl ⟨?_, ?_, ?_, ?_⟩ rfl rfl ?_; (omega); (omega); (omega); (omega)) | (refine k_sliceE rfl rfl rfl rfl ⟨?_, ?_, ?_, ?_⟩ rfl rfl rfl rfl ?_; (omega); (omega); (omega); (omega)) | (refine k_indexAddr rfl rfl rfl ⟨?_, ?_⟩ ?_; (omega); (omega)) | (refine k_indexAddrs rfl rfl rfl ⟨?_, ?_⟩ rfl ?_; (omega); (omega)) | refine k_loade rfl rfl rfl ?_ | refine k_fieldAddre rfl rfl rfl rfl ?_ | (refine k_addi rfl rfl rfl ?_ ?_; (omega)) | (refine k_lssT rfl rfl rfl ?_ ?_; (omega)) | (refine k_lssF rfl rfl rfl ?_ ?_; (omega)) | refine W_yes rfl ?_ | refine W_no rfl ?_)
    (first | with_reducible refine q_endr ?_ | with_reducible refine q_endn ?_); refine rets1 Tryd.results16 (RetV.cell _ _ _ _ _ _ _ _ inferInstance rfl rfl (by exact hb _)) ?_
    exact b_fz _
end Go.Proofs.YtpdhbddkcnffbaaDoor
