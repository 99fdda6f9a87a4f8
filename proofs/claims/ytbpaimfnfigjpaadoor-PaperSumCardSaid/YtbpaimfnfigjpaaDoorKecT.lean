/- keccakTells; and how many bytes a sponge holds. Conditions: none. -/
import Derived.Test.YtbpaimfnfigjpaaDoorKecV
import Derived.Test.YtbpaimfnfigjpaaDoorDMark
namespace Go.Proofs.YtbpaimfnfigjpaaDoor
open Go.RowKit Go.Lib Go.IntWalk Kec
set_option linter.unusedVariables false
set_option maxRecDepth 100000

theorem addA_n : ∀ (b : List UInt8) (s : S × List UInt8), s.2.length < 136 → (addA s b).2.length = (s.2.length + b.length) % 136
  | [], s, h => by
    show s.2.length = _
    simp; omega
  | c :: b, s, h => by
    show (addA (addS s c) b).2.length = _
    rw [addA_n b (addS s c) (addS_lt s c h)]
    unfold addS
    simp only [List.length_cons]
    split
    · simp only [List.length_nil]; omega
    · simp only [List.length_append, List.length_cons, List.length_nil]; omega
theorem addA_app (s : S × List UInt8) (a b : List UInt8) : addA (addA s a) b = addA s (a ++ b) := by
  unfold addA; rw [List.foldl_append]
theorem sp_facts (s : S × List UInt8) (hs : s.2.length < 136) : (∀ ze, cut ⟨true, 162, ze⟩ 0 (spD s) = some (.agg (spD s))) ∧ (∀ cs : List D, cs.length = 162 → splice 0 (spD s) cs = some (spD s)) ∧ (spD s).length = 162 ∧ (∀ ze, cut ⟨false, 1, ze⟩ 161 (spD s) = some (.int .i64 (s.2.length : Int))) ∧ D.fzs [D.agg (spD s)] = [D.agg (spD s)] ∧ D.cl (.agg (spD s)) = true :=
  ⟨spC_whole _ _ _ (hld_len _ (by omega)), fun cs hc => spC_lay _ _ _ (hld_len _ (by omega)) cs hc, spD_len _ hs, spC_n _ _ _ (hld_len _ (by omega)), spD_fz1 s, spD_cl s⟩
theorem take1 {z y : List UInt8} (h : z.take 8 = 0x4e :: y) (ze : List D) : cut ⟨false, 1, ze⟩ 0 (bs z) = some (.int .u8 78) := by
  unfold cut
  rw [cond_false]
  have : z[0]? = some 0x4e := by
    have e : (z.take 8)[0]? = some 0x4e := by rw [h]; rfl
    rw [List.getElem?_take] at e
    simpa using e
  exact bs_get z 0 _ this
theorem k_tells : Pur Tryd.prog 8 [] (.bool true) := by
  have hA : Pur Tryd.prog 14 [.slice .frozen 3 [.int .u8 97, .int .u8 98, .int .u8 99]] (.agg (bs (kec [97, 98, 99]))) := Sum_ok [97, 98, 99] 3 rfl (by decide)
  have e1 := take1 kec_abc
  have l1 := kec_len [97, 98, 99]
  generalize kec [97, 98, 99] = z1 at *
  refine pur_intro Tryd.func8 rfl Tryd.ntmps8 rfl (by first | rfl | assumption | exact bs_cl _) fun B => ?_
  repeat (first | with_reducible refine W_seq ?_ | with_reducible refine q_then ?_ | with_reducible refine q_thenr ?_ | with_reducible refine q_thenx ?_ | with_reducible refine W_block ?_ | with_reducible refine q_block ?_ | with_reducible refine q_blockr ?_ | with_reducible refine q_blockx ?_ | with_reducible refine W_ret ?_ | with_reducible refine W_skip ?_ | with_reducible refine W_label ?_ | with_reducible refine W_exit ?_ | with_reducible refine W_scope ?_ | with_reducible refine q_scope ?_ | with_reducible refine q_scoper ?_ | with_reducible refine q_scopex ?_ | (with_reducible refine R_nil ?_; try dsimp only [slots0, slots_ud, cells_U, agg_ud, drop0, dropS, takeS, take0, ud_nil, take_ud, take_ud0, drop_ud, drop_ud0, take_udk, D.cells, D.fz, D.fzs, List.take_succ_cons, List.take_zero, List.drop_succ_cons, List.drop_zero, List.cons_append, List.nil_append, List.append_eq, List.length_cons, List.length_nil, Nat.reduceAdd, Nat.reduceMul, Nat.reduceSub, Int.reduceAdd, Int.reduceSub, Int.reduceToNat, Int.reduceNeg, Int.reduceMul]) | refine q_blocky rfl ?_ | refine W_plain rfl ?_ | refine W_drawn mixed rfl ?_ | refine and_chk (by kernel_rfl) ?_ | refine k_store rfl rfl rfl rfl (b_len l1) (b_fits _) (by exact b_put l1 _ rfl) ?_ | refine k_load rfl rfl rfl (by exact e1 _) ?_ | refine k_move rfl rfl ?_ | refine k_assign rfl rfl ?_ | refine k_load rfl rfl rfl rfl ?_ | refine k_alloc rfl ?_ | refine k_box rfl rfl rfl ?_ | refine k_store rfl rfl rfl rfl rfl rfl rfl ?_ | refine k_extract rfl rfl rfl ?_ | refine k_fieldAddr rfl rfl rfl ?_ | refine k_field rfl rfl rfl ?_ | refine k_build rfl rfl rfl ?_ | refine k_mark rfl Tryd.underlying5 rfl rfl rfl ?_ | refine k_call rfl hA rfl rfl rfl (bs_cl _) ?_ | refine k_append rfl rfl rfl (by first | rfl | exact trivial | (show 0 < _; omega)) (by first | rfl | (simp <;> omega)) (by first | rfl | (simp <;> omega)) rfl (by omega) rfl rfl rfl ?_ | refine k_slice rfl rfl rfl rfl ⟨by omega, by omega, by omega⟩ rfl rfl rfl ?_ | refine k_slice3 rfl rfl rfl rfl rfl ⟨by omega, by omega, by omega⟩ rfl rfl rfl ?_ | refine k_sliceA rfl rfl rfl rfl ⟨by omega, by omega, by omega, by omega⟩ rfl rfl ?_ | refine k_sliceE rfl rfl rfl rfl ⟨by omega, by omega, by omega, by omega⟩ rfl rfl rfl rfl ?_ | refine k_buildSlice (cs := []) rfl rfl rfl rfl rfl rfl rfl ?_ | refine k_buildSlice rfl rfl rfl rfl rfl rfl rfl ?_ | refine k_indexAddr rfl rfl rfl ⟨by omega, by omega⟩ ?_ | refine k_indexAddrs rfl rfl rfl ⟨by omega, by omega⟩ rfl ?_ | refine k_index rfl rfl rfl ⟨by omega, by omega⟩ rfl ?_ | refine k_loade rfl rfl rfl ?_ | refine k_fieldAddre rfl rfl rfl rfl ?_ | refine k_len rfl rfl ?_ | refine k_nilCheck rfl rfl rfl ?_ | refine k_pickT rfl rfl rfl ?_ | refine k_pickF rfl rfl rfl ?_ | refine k_addi rfl rfl rfl (by omega) ?_ | refine k_subi rfl rfl rfl (by omega) ?_ | refine k_negi rfl rfl (by omega) ?_ | refine k_not rfl rfl rfl ?_ | refine k_lssT rfl rfl rfl (by omega) ?_ | refine k_lssF rfl rfl rfl (by omega) ?_ | refine k_leqT rfl rfl rfl (by omega) ?_ | refine k_leqF rfl rfl rfl (by omega) ?_ | refine k_gtrT rfl rfl rfl (by omega) ?_ | refine k_gtrF rfl rfl rfl (by omega) ?_ | refine k_geqT rfl rfl rfl (by omega) ?_ | refine k_geqF rfl rfl rfl (by omega) ?_ | refine k_eqlT rfl rfl rfl (by omega) ?_ | refine k_eqlF rfl rfl rfl (by omega) ?_ | refine k_neqT rfl rfl rfl (by omega) ?_ | refine k_neqF rfl rfl rfl (by omega) ?_ | refine k_eqa rfl rfl rfl rfl rfl rfl ?_ | refine k_nea rfl rfl rfl rfl rfl rfl ?_ | refine k_makeFunc rfl rfl rfl ?_ | refine k_skip rfl ?_ | refine k_skip0 rfl ?_ | refine k_pick rfl rfl rfl rfl rfl ?_ | refine W_yes rfl ?_ | refine W_no rfl ?_)
  (first | with_reducible refine q_endr ?_ | with_reducible refine q_endn ?_); refine rets1 Tryd.results8 (by first | exact RetV.tmp _ _ rfl | exact RetV.cell _ _ _ _ _ _ _ _ inferInstance rfl rfl rfl) ?_
  rfl
end Go.Proofs.YtbpaimfnfigjpaaDoor
