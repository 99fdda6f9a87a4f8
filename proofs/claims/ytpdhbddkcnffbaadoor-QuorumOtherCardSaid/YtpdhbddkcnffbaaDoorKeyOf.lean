/- KeyOf: the last bytes of the sum of a point's bytes. Conditions: numbers below 2 to the 256. -/
import Derived.Test.YtpdhbddkcnffbaaDoorCurve1
import Derived.Test.YtpdhbddkcnffbaaDoorGk
import Derived.Test.YtpdhbddkcnffbaaDoorGd
import Derived.Test.YtpdhbddkcnffbaaDoorWide1
namespace Go.Proofs.YtpdhbddkcnffbaaDoor
open Go.RowKit Go.Lib
set_option linter.unusedVariables false
set_option linter.unusedVariables false
set_option maxRecDepth 100000
--nrm pt_all pt_x pt_y pt_len pt_nil

theorem bs_app3 (a b : List UInt8) : bs a ++ bs b = bs (a ++ b) := by unfold bs; rw [List.map_append]
theorem bn_cut {z : List UInt8} {n : Nat} (h : z.length = n) (ze : List D) : cut ⟨true, n, ze⟩ 0 (bs z) = some (.agg (bs z)) := by
  unfold cut
  simp only [cond_true, Nat.zero_add, List.drop_zero]
  rw [bs_len, h, List.take_of_length_le (by rw [bs_len, h]; exact Nat.le_refl _), Nat.ble_self_eq_true]; rfl
theorem bn_put {z : List UInt8} {n : Nat} (h : z.length = n) (cs : List D) (hc : cs.length = n) : splice 0 (bs z) cs = some (bs z) := by
  unfold splice
  rw [Nat.ble_eq_true_of_le (by rw [bs_len, h, hc]; omega), cond_true, Nat.zero_add, List.drop_of_length_le (by rw [bs_len, h, hc]; exact Nat.le_refl _)]
  simp
theorem bn_len {z : List UInt8} {n : Nat} (h : z.length = n) : (D.agg (bs z)).cells.length = n := by show (bs z).length = n; rw [bs_len, h]

/-- a point's key -/
def keyN (x y : Nat) : List UInt8 := (kec (b32 x ++ b32 y)).drop 12
theorem keyN_len (x y : Nat) : (keyN x y).length = 20 := by unfold keyN; rw [List.length_drop, kec_len]
set_option maxHeartbeats 4000000 in
theorem KeyOf_ok (x y : Nat) (f : Bool) : Pur Tryd.prog 12 [.agg (pt x y f)] (.agg (bs (keyN x y))) := by
  have b1 := Bytes_ok x
  have b2 := Bytes_ok y
  have l1 := b32_len x
  have l2 := b32_len y
  have hK := Sum_ok (b32 x ++ b32 y) 64 (by simp [l1, l2]) (by decide)
  have hKl := kec_len (b32 x ++ b32 y)
  have hZl := keyN_len x y
  have hZ : ((bs (kec (b32 x ++ b32 y))).drop ((12 : Int).toNat * 1)).take (20 * 1) = bs (keyN x y) := by
    have : (kec (b32 x ++ b32 y)).drop 12 = keyN x y := rfl
    rw [show (12 : Int).toNat * 1 = 12 from rfl, ← this]
    unfold bs
    rw [← List.map_drop, List.take_of_length_le (by rw [List.length_map, List.length_drop, hKl]; decide)]
  have ha1 := bs_app3 (b32 x) (b32 y)
  generalize keyN x y = Z at *
  generalize kec (b32 x ++ b32 y) = K at *
  generalize bs (b32 x ++ b32 y) = z2 at *
  generalize b32 x = B1 at *
  generalize b32 y = B2 at *
  have hm1 : 32 * 1 = (bs B1).length := by rw [bs_len, l1]
  have hm2 : 32 * 1 = (bs B2).length := by rw [bs_len, l2]
  have t1 : ((bs B1).drop ((0 : Int).toNat * 1)).take (32 * 1) = bs B1 := by rw [hm1]; exact List.take_length
  have t2 : ((bs B2).drop ((0 : Int).toNat * 1)).take (32 * 1) = bs B2 := by rw [hm2]; exact List.take_length
  have n1 : Nat.ble (32 * 1) (bs B1).length = true := by rw [hm1]; exact Nat.ble_self_eq_true _
  have n2 : Nat.ble (32 * 1) (bs B2).length = true := by rw [hm2]; exact Nat.ble_self_eq_true _
  have n3 : Nat.ble (32 * 1) (bs K).length = true := by rw [bs_len, hKl]; exact Nat.ble_self_eq_true _
  have c1 : D.cls (bs B1) = true := bs_cl _
  have c2 : D.cls (bs B2) = true := bs_cl _
  have c3 : D.cls (bs K) = true := bs_cl _
  have hcl : D.cl (.agg (bs Z)) = true := bs_cl _
  have zt : (bs Z).take 20 = bs Z := List.take_of_length_le (by rw [bs_len, hZl]; exact Nat.le_refl _)
  have hwz := bn_cut hZl
  refine pur_intro Tryd.func12 rfl Tryd.ntmps12 rfl hcl fun B => ?_
  iterate 22 (first | with_reducible (first | refine W_seq ?_ | refine q_then ?_ | refine q_thenr ?_ | refine q_thenx ?_ | refine W_block ?_ | refine q_block ?_ | refine q_blockr ?_ | refine q_blockx ?_ | refine W_ret ?_ | refine W_skip ?_ | refine W_label ?_ | refine W_exit ?_ | refine W_scope ?_ | refine q_scope ?_ | refine q_scoper ?_ | refine q_scopex ?_) | (with_reducible refine R_nil ?_; try dsimp only [slots0, slots_ud, pt_all, pt_x, pt_y, pt_len, pt_nil, cells_U, agg_ud, drop0, dropS, takeS, take0, ud_nil, take_ud, take_ud0, drop_ud, drop_ud0, take_udk, D.cells, D.fz, D.fzs, List.take_succ_cons, List.take_zero, List.drop_succ_cons, List.drop_zero, List.cons_append, List.nil_append, List.append_eq, List.length_cons, List.length_nil, Nat.reduceAdd, Nat.reduceMul, Nat.reduceSub, Int.reduceAdd, Int.reduceSub, Int.reduceToNat, Int.reduceNeg, Int.reduceMul]) | refine q_blocky rfl ?_ | refine W_plain rfl ?_ | refine W_drawn mixed rfl ?_ | refine and_chk (by kernel_rfl) ?_ | refine k_store rfl rfl rfl rfl (b_len l1) (b_fits _) (by exact b_put l1 _ rfl) ?_ | refine k_store rfl rfl rfl rfl (b_len l2) (b_fits _) (by exact b_put l2 _ rfl) ?_ | refine k_load rfl rfl rfl rfl ?_ | refine k_alloc rfl ?_ | refine k_box rfl rfl rfl ?_ | refine k_store rfl rfl rfl rfl rfl rfl rfl ?_ | refine k_fieldAddr rfl rfl rfl ?_ | refine k_call rfl b1 rfl rfl rfl (bs_cl _) ?_ | refine k_call rfl b2 rfl rfl rfl (bs_cl _) ?_ | (refine k_append rfl rfl rfl ?_ ?_ ?_ rfl ?_ rfl rfl rfl ?_; (first | rfl | exact trivial | (show 0 < _; omega)); (first | rfl | (simp <;> omega)); (first | rfl | (simp <;> omega)); (omega)) | (refine k_slice rfl rfl rfl rfl ⟨?_, ?_, ?_⟩ rfl rfl rfl ?_; (omega); (omega); (omega)) | (refine k_slice3 rfl rfl rfl rfl rfl ⟨?_, ?_, ?_⟩ rfl rfl rfl ?_; (omega); (omega); (omega)) | (refine k_sliceA rfl rfl rfl rfl ⟨?_, ?_, ?_, ?_⟩ rfl rfl ?_; (omega); (omega); (omega); (omega)) | (refine k_sliceE rfl rfl rfl rfl ⟨?_, ?_, ?_, ?_⟩ rfl rfl rfl rfl ?_; (omega); (omega); (omega); (omega)) | refine k_loade rfl rfl rfl ?_ | refine k_fieldAddre rfl rfl rfl rfl ?_ | refine W_yes rfl ?_ | refine W_no rfl ?_)
  refine W_of_weak (weak_fix 2 (bs B1) rfl c1 (by repeat (first | exact trivial | refine ⟨⟨_, rfl, .ptr0⟩, ?_⟩ | refine ⟨⟨_, rfl, .refl _⟩, ?_⟩ | refine ⟨⟨_, rfl, .ptr _ rfl⟩, ?_⟩ | refine ⟨⟨_, rfl, .ms _ _ _ rfl⟩, ?_⟩)) (by repeat (first | exact trivial | refine ⟨⟨rfl, rfl, rfl⟩, ?_⟩)) (ρ1 := [(4, .ptr 3 0), (3, .eptr (bs B1)), (2, .ptr 1 0)]) (m1 := [(3, some (.var 48 (bs B2))), (1, some (.var 35 (bs (List.replicate 20 0))))])) ?_
  refine W_of_weak (weak_fix 3 (bs B2) rfl c2 (by repeat (first | exact trivial | refine ⟨⟨_, rfl, .ptr0⟩, ?_⟩ | refine ⟨⟨_, rfl, .refl _⟩, ?_⟩ | refine ⟨⟨_, rfl, .ptr _ rfl⟩, ?_⟩ | refine ⟨⟨_, rfl, .ms _ _ _ rfl⟩, ?_⟩)) (by repeat (first | exact trivial | refine ⟨⟨rfl, rfl, rfl⟩, ?_⟩)) (ρ1 := [(4, .eptr (bs B2)), (3, .eptr (bs B1)), (2, .ptr 1 0)]) (m1 := [(1, some (.var 35 (bs (List.replicate 20 0))))])) ?_
  iterate 11 (first | with_reducible (first | refine W_seq ?_ | refine q_then ?_ | refine q_thenr ?_ | refine q_thenx ?_ | refine W_block ?_ | refine q_block ?_ | refine q_blockr ?_ | refine q_blockx ?_ | refine W_ret ?_ | refine W_skip ?_ | refine W_label ?_ | refine W_exit ?_ | refine W_scope ?_ | refine q_scope ?_ | refine q_scoper ?_ | refine q_scopex ?_) | (with_reducible refine R_nil ?_; try dsimp only [slots0, slots_ud, pt_all, pt_x, pt_y, pt_len, pt_nil, cells_U, agg_ud, drop0, dropS, takeS, take0, ud_nil, take_ud, take_ud0, drop_ud, drop_ud0, take_udk, D.cells, D.fz, D.fzs, List.take_succ_cons, List.take_zero, List.drop_succ_cons, List.drop_zero, List.cons_append, List.nil_append, List.append_eq, List.length_cons, List.length_nil, Nat.reduceAdd, Nat.reduceMul, Nat.reduceSub, Int.reduceAdd, Int.reduceSub, Int.reduceToNat, Int.reduceNeg, Int.reduceMul]) | refine q_blocky rfl ?_ | refine W_plain rfl ?_ | refine W_drawn mixed rfl ?_ | refine and_chk (by kernel_rfl) ?_ | (refine k_sliceEt (nn := 32) rfl rfl rfl ⟨?_, ?_⟩ rfl (by exact n1) rfl (by exact t1) ?_; (decide); (decide)) | (refine k_sliceEt (nn := 32) rfl rfl rfl ⟨?_, ?_⟩ rfl (by exact n2) rfl (by exact t2) ?_; (decide); (decide)) | (refine k_append rfl rfl rfl (show 0 < 32 by decide) hm1 hm2 rfl ?_ rfl rfl ha1 ?_; (decide)) | refine k_load rfl rfl rfl rfl ?_ | refine k_alloc rfl ?_ | refine k_box rfl rfl rfl ?_ | refine k_store rfl rfl rfl rfl rfl rfl rfl ?_ | refine k_fieldAddr rfl rfl rfl ?_ | refine k_call rfl hK rfl rfl rfl (bs_cl _) ?_ | refine k_store rfl rfl rfl rfl (b_len hKl) (b_fits _) (by exact b_put hKl _ rfl) ?_ | (refine k_append rfl rfl rfl ?_ ?_ ?_ rfl ?_ rfl rfl rfl ?_; (first | rfl | exact trivial | (show 0 < _; omega)); (first | rfl | (simp <;> omega)); (first | rfl | (simp <;> omega)); (omega)) | (refine k_slice rfl rfl rfl rfl ⟨?_, ?_, ?_⟩ rfl rfl rfl ?_; (omega); (omega); (omega)) | (refine k_slice3 rfl rfl rfl rfl rfl ⟨?_, ?_, ?_⟩ rfl rfl rfl ?_; (omega); (omega); (omega)) | (refine k_sliceA rfl rfl rfl rfl ⟨?_, ?_, ?_, ?_⟩ rfl rfl ?_; (omega); (omega); (omega); (omega)) | (refine k_sliceE rfl rfl rfl rfl ⟨?_, ?_, ?_, ?_⟩ rfl rfl rfl rfl ?_; (omega); (omega); (omega); (omega)) | refine k_loade rfl rfl rfl ?_ | refine k_fieldAddre rfl rfl rfl rfl ?_ | refine W_yes rfl ?_ | refine W_no rfl ?_)
  refine W_of_weak (weak_fix 5 (bs K) rfl c3 (by repeat (first | exact trivial | refine ⟨⟨_, rfl, .ptr0⟩, ?_⟩ | refine ⟨⟨_, rfl, .refl _⟩, ?_⟩ | refine ⟨⟨_, rfl, .ptr _ rfl⟩, ?_⟩ | refine ⟨⟨_, rfl, .ms _ _ _ rfl⟩, ?_⟩)) (by repeat (first | exact trivial | refine ⟨⟨rfl, rfl, rfl⟩, ?_⟩)) (ρ1 := [(5, .eptr (bs K)), (2, .ptr 1 0)]) (m1 := [(1, some (.var 35 (bs (List.replicate 20 0))))])) ?_
  repeat (first | with_reducible (first | refine W_seq ?_ | refine q_then ?_ | refine q_thenr ?_ | refine q_thenx ?_ | refine W_block ?_ | refine q_block ?_ | refine q_blockr ?_ | refine q_blockx ?_ | refine W_ret ?_ | refine W_skip ?_ | refine W_label ?_ | refine W_exit ?_ | refine W_scope ?_ | refine q_scope ?_ | refine q_scoper ?_ | refine q_scopex ?_) | (with_reducible refine R_nil ?_; try dsimp only [slots0, slots_ud, pt_all, pt_x, pt_y, pt_len, pt_nil, cells_U, agg_ud, drop0, dropS, takeS, take0, ud_nil, take_ud, take_ud0, drop_ud, drop_ud0, take_udk, D.cells, D.fz, D.fzs, List.take_succ_cons, List.take_zero, List.drop_succ_cons, List.drop_zero, List.cons_append, List.nil_append, List.append_eq, List.length_cons, List.length_nil, Nat.reduceAdd, Nat.reduceMul, Nat.reduceSub, Int.reduceAdd, Int.reduceSub, Int.reduceToNat, Int.reduceNeg, Int.reduceMul]) | refine q_blocky rfl ?_ | refine W_plain rfl ?_ | refine W_drawn mixed rfl ?_ | refine and_chk (by kernel_rfl) ?_ | (refine k_sliceEt (nn := 20) rfl rfl rfl ⟨?_, ?_⟩ rfl (by exact n3) rfl (by exact hZ) ?_; (decide); (decide)) | refine k_load rfl rfl rfl (hwz _) ?_ | refine k_store rfl rfl rfl rfl (bn_len hZl) (b_fits _) (by exact bn_put hZl _ rfl) ?_ | refine k_load rfl rfl rfl rfl ?_ | refine k_alloc rfl ?_ | refine k_box rfl rfl rfl ?_ | refine k_store rfl rfl rfl rfl rfl rfl rfl ?_ | refine k_fieldAddr rfl rfl rfl ?_ | refine k_copyd (k := 20) rfl rfl rfl rfl rfl rfl zt hZl (by exact bn_put hZl _ rfl) ?_ | (refine k_append rfl rfl rfl ?_ ?_ ?_ rfl ?_ rfl rfl rfl ?_; (first | rfl | exact trivial | (show 0 < _; omega)); (first | rfl | (simp <;> omega)); (first | rfl | (simp <;> omega)); (omega)) | (refine k_slice rfl rfl rfl rfl ⟨?_, ?_, ?_⟩ rfl rfl rfl ?_; (omega); (omega); (omega)) | (refine k_slice3 rfl rfl rfl rfl rfl ⟨?_, ?_, ?_⟩ rfl rfl rfl ?_; (omega); (omega); (omega)) | (refine k_sliceA rfl rfl rfl rfl ⟨?_, ?_, ?_, ?_⟩ rfl rfl ?_; (omega); (omega); (omega); (omega)) | (refine k_sliceE rfl rfl rfl rfl ⟨?_, ?_, ?_, ?_⟩ rfl rfl rfl rfl ?_; (omega); (omega); (omega); (omega)) | refine k_loade rfl rfl rfl ?_ | refine k_fieldAddre rfl rfl rfl rfl ?_ | refine W_yes rfl ?_ | refine W_no rfl ?_)
  (first | with_reducible refine q_endr ?_ | with_reducible refine q_endn ?_); refine rets1 Tryd.results12 (RetV.cell _ _ _ _ _ _ _ _ inferInstance rfl rfl (by exact hwz _)) ?_
  exact b_fz _
end Go.Proofs.YtpdhbddkcnffbaaDoor
