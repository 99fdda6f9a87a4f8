/- What the laws of coins share: what is made somebody has. No conditions. -/
import Derived.Test.YthbkfohdphfgaaaCoin5
namespace Go.Proofs.Ythbkfohdphfgaaa
open Go.RowKit Go.Lib Go.IntWalk
set_option linter.unusedVariables false
set_option maxRecDepth 100000
--nrm hold_all hold_who who_all cn_all cn_s cD_all rt_all cD_s

theorem cD_s (f : Nat → Nat) : List.take 4 (cD f) = ud (sm f 0 6) := rfl
/-- what is less is served too -/
theorem pur_ups {P : Program} {F : FuncId} {ds es : List D} {d : D} (h : Pur P F es d) (u : Ups ds es) : Pur P F ds d := fun w hw vs hok hr => h w hw vs hok (u.reps hr)
def only (i n : Nat) : Nat → Nat := fun j => if j = i then n else 0
theorem nil_ups : Ups (ud 0 ++ [.slice .nil 0 []]) (cD fun _ => 0) := .cons (.refl _) (.cons (.refl _) (.cons (.refl _) (.cons (.refl _) (.cons (.nil _) .nil))))
theorem deqs_who (i j : Nat) (hi : i < 6) (hj : j < 6) : deqs (bs (who i)) (bs (who j)) = decide (i = j) := by
  obtain rfl | rfl | rfl | rfl | rfl | rfl : i = 0 ∨ i = 1 ∨ i = 2 ∨ i = 3 ∨ i = 4 ∨ i = 5 := by omega
  all_goals obtain rfl | rfl | rfl | rfl | rfl | rfl : j = 0 ∨ j = 1 ∨ j = 2 ∨ j = 3 ∨ j = 4 ∨ j = 5 := by omega
  all_goals rfl
set_option maxHeartbeats 8000000 in
theorem p_tells : Pur Try.prog 10 [] (.bool true) := by
  have hM : (2000000 : Nat) < M256 := by decide
  have w1 := Who_ok 1 1 (by decide)
  have mi := Mint_ok (fun _ => 0) 1 5 (by decide) (by show 0 + 5 < _; omega)
  have mi := pur_ups mi (.cons (.agg_ nil_ups) (Ups.refl _))
  have o := Of_ok (upd (fun _ => 0) 1 ((fun _ => 0) 1 + 5)) (by show 5 < _; omega) 1 (by decide)
  have e : cD (upd (fun _ => 0) 1 ((fun _ => 0) 1 + 5)) = ud 5 ++ [.slice .frozen 1 (hold (1, 5))] := rfl
  rw [e] at mi o
  have hs := deqs_ud 5 5 (by omega) (by omega)
  refine pur_intro Try.func10 rfl Try.ntmps10 rfl rfl fun B => ?_
  repeat (first | with_reducible refine W_seq ?_ | with_reducible refine q_then ?_ | with_reducible refine q_thenr ?_ | with_reducible refine q_thenx ?_ | with_reducible refine W_block ?_ | with_reducible refine q_block ?_ | with_reducible refine q_blockr ?_ | with_reducible refine q_blockx ?_ | with_reducible refine W_ret ?_ | with_reducible refine W_skip ?_ | with_reducible refine W_label ?_ | with_reducible refine W_exit ?_ | (with_reducible refine R_nil ?_; try dsimp only [slots0, slots_ud, hold_all, hold_who, who_all, cn_all, cn_s, cD_all, rt_all, cD_s, cells_U, agg_ud, drop0, dropS, takeS, take0, ud_nil, take_ud, take_ud0, drop_ud, drop_ud0, take_udk, D.cells, D.fz, D.fzs, List.take_succ_cons, List.take_zero, List.drop_succ_cons, List.drop_zero, List.cons_append, List.nil_append, List.append_eq, List.length_cons, List.length_nil, Nat.reduceAdd, Nat.reduceMul, Nat.reduceSub, Int.reduceAdd, Int.reduceSub, Int.reduceToNat, Int.reduceNeg, Int.reduceMul]) | refine q_blocky rfl ?_ | refine W_plain rfl ?_ | refine W_drawn mixed rfl ?_ | refine and_chk (by kernel_rfl) ?_ | refine k_move rfl rfl ?_ | refine k_assign rfl rfl ?_ | refine k_load rfl rfl rfl rfl ?_ | refine k_alloc rfl ?_ | refine k_box rfl rfl rfl ?_ | refine k_store rfl rfl rfl rfl rfl rfl rfl ?_ | refine k_extract rfl rfl rfl ?_ | refine k_fieldAddr rfl rfl rfl ?_ | refine k_field rfl rfl rfl ?_ | refine k_build rfl rfl rfl ?_ | refine k_call rfl w1 rfl rfl rfl rfl ?_ | refine k_call rfl mi rfl rfl rfl rfl ?_ | refine k_call rfl o rfl rfl rfl rfl ?_ | refine k_eqa rfl rfl rfl rfl rfl hs ?_ | refine W_unroll (WL_round ?_) | refine WL_round ?_ | refine k_append rfl rfl rfl (by first | rfl | exact trivial | (show 0 < _; omega)) (by first | rfl | (simp <;> omega)) (by first | rfl | (simp <;> omega)) rfl (by omega) rfl rfl rfl ?_ | refine k_slice rfl rfl rfl rfl ⟨by omega, by omega, by omega⟩ rfl rfl rfl ?_ | refine k_slice3 rfl rfl rfl rfl rfl ⟨by omega, by omega, by omega⟩ rfl rfl rfl ?_ | refine k_sliceA rfl rfl rfl rfl ⟨by omega, by omega, by omega, by omega⟩ rfl rfl ?_ | refine k_sliceE rfl rfl rfl rfl ⟨by omega, by omega, by omega, by omega⟩ rfl rfl rfl rfl ?_ | refine k_buildSlice (cs := []) rfl rfl rfl rfl rfl rfl rfl ?_ | refine k_buildSlice rfl rfl rfl rfl rfl rfl rfl ?_ | refine k_indexAddr rfl rfl rfl ⟨by omega, by omega⟩ ?_ | refine k_indexAddrs rfl rfl rfl ⟨by omega, by omega⟩ rfl ?_ | refine k_index rfl rfl rfl ⟨by omega, by omega⟩ rfl ?_ | refine k_loade rfl rfl rfl ?_ | refine k_fieldAddre rfl rfl rfl rfl ?_ | refine k_len rfl rfl ?_ | refine k_nilCheck rfl rfl rfl ?_ | refine k_pickT rfl rfl rfl ?_ | refine k_pickF rfl rfl rfl ?_ | refine k_addi rfl rfl rfl (by omega) ?_ | refine k_subi rfl rfl rfl (by omega) ?_ | refine k_negi rfl rfl (by omega) ?_ | refine k_not rfl rfl rfl ?_ | refine k_lssT rfl rfl rfl (by omega) ?_ | refine k_lssF rfl rfl rfl (by omega) ?_ | refine k_leqT rfl rfl rfl (by omega) ?_ | refine k_leqF rfl rfl rfl (by omega) ?_ | refine k_gtrT rfl rfl rfl (by omega) ?_ | refine k_gtrF rfl rfl rfl (by omega) ?_ | refine k_geqT rfl rfl rfl (by omega) ?_ | refine k_geqF rfl rfl rfl (by omega) ?_ | refine k_eqlT rfl rfl rfl (by omega) ?_ | refine k_eqlF rfl rfl rfl (by omega) ?_ | refine k_neqT rfl rfl rfl (by omega) ?_ | refine k_neqF rfl rfl rfl (by omega) ?_ | refine k_eqa rfl rfl rfl rfl rfl rfl ?_ | refine k_nea rfl rfl rfl rfl rfl rfl ?_ | refine k_makeFunc rfl rfl rfl ?_ | refine k_skip rfl ?_ | refine k_skip0 rfl ?_ | refine k_pick rfl rfl rfl rfl rfl ?_ | refine W_yes rfl ?_ | refine W_no rfl ?_)
  (first | with_reducible refine q_endr ?_ | with_reducible refine q_endn ?_); refine rets1 Try.results10 (by first | exact RetV.tmp _ _ rfl | exact RetV.cell _ _ _ _ _ _ _ _ inferInstance rfl rfl rfl) ?_
  rfl
end Go.Proofs.Ythbkfohdphfgaaa
