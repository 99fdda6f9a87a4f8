/- CoinGives: what one gives another has, nobody else has more or less. No conditions. -/
import Derived.Test.YthbkfohdphfgaaaCoin6
namespace Go.Proofs.Ythbkfohdphfgaaa.coinGives
open Go.ChangeShapes Go.WideShapes Go.RowKit Go.Joins
set_option linter.unusedVariables false
open Go.Proofs.Ythbkfohdphfgaaa
set_option maxRecDepth 100000
--nrm hold_all hold_who who_all cn_all cn_s cD_all rt_all cD_s

set_option maxHeartbeats 8000000 in
theorem pur (l : List RawT) (hok : ∀ r ∈ l, r.ok) (p q b o : Int) : Pur Try.prog 5 [.slice .frozen l.length (rws l), .int .i64 p, .int .i64 q, .int .i64 b, .int .i64 o] (.bool true) := by
  have mt := minted_ok l hok
  have hM : (2000000 : Nat) < M256 := by decide
  have hs : sm (mst (l.take 20)) 0 6 ≤ 99 * 20 := by
    have h1 := mst_sm (l.take 20) fun _ => 0
    have h2 : (l.take 20).length ≤ 20 := by rw [List.length_take]; omega
    have h3 : sm (fun _ => 0) 0 6 = 0 := rfl
    rw [h3] at h1
    show sm ((l.take 20).foldl stp fun _ => 0) 0 6 ≤ _
    omega
  generalize mst (l.take 20) = f at *
  have hn := am_lt b
  have pk := p_picked b 100 _ (by decide) (by decide) (am_at b)
  generalize am b = n at *
  have hc : IntKind.u64.wrap (n : Int) = (n : Int) := Go.IntWalk.u64_in _ (by omega)
  have wi := Who_ok p _ (ix_at p)
  have hi := ix_lt p
  generalize ix p = i at *
  have wj := Who_ok q _ (ix_at q)
  have hj := ix_lt q
  generalize ix q = j at *
  have wo := Who_ok o _ (ix_at o)
  have ho := ix_lt o
  generalize ix o = u at *
  have hle := sm_le f i hi
  have hle2 := sm_le f j hj
  have hle3 := sm_le f u ho
  have oi := Of_ok f (by omega) i hi
  have oj := Of_ok f (by omega) j hj
  have oo := Of_ok f (by omega) u ho
  have us := ud_small n (by omega)
  by_cases hlt : f i < n
  · have mo := Move_no f i j n hi hj (by omega) (by omega) hlt
    have cm := p_cmp (f i) n (-1) (by omega) (by omega) (by unfold cmpI; rw [if_pos hlt])
    rw [us] at mo cm
    refine pur_intro Try.func5 rfl Try.ntmps5 rfl rfl fun B => ?_
    repeat (first | with_reducible refine W_seq ?_ | with_reducible refine q_then ?_ | with_reducible refine q_thenr ?_ | with_reducible refine q_thenx ?_ | with_reducible refine W_block ?_ | with_reducible refine q_block ?_ | with_reducible refine q_blockr ?_ | with_reducible refine q_blockx ?_ | with_reducible refine W_ret ?_ | with_reducible refine W_skip ?_ | with_reducible refine W_label ?_ | with_reducible refine W_exit ?_ | (with_reducible refine R_nil ?_; try dsimp only [slots0, slots_ud, hold_all, hold_who, who_all, cn_all, cn_s, cD_all, rt_all, cD_s, cells_U, agg_ud, drop0, dropS, takeS, take0, ud_nil, take_ud, take_ud0, drop_ud, drop_ud0, take_udk, D.cells, D.fz, D.fzs, List.take_succ_cons, List.take_zero, List.drop_succ_cons, List.drop_zero, List.cons_append, List.nil_append, List.append_eq, List.length_cons, List.length_nil, Nat.reduceAdd, Nat.reduceMul, Nat.reduceSub, Int.reduceAdd, Int.reduceSub, Int.reduceToNat, Int.reduceNeg, Int.reduceMul]) | refine q_blocky rfl ?_ | refine W_plain rfl ?_ | refine W_drawn mixed rfl ?_ | refine and_chk (by kernel_rfl) ?_ | refine k_move rfl rfl ?_ | refine k_assign rfl rfl ?_ | refine k_load rfl rfl rfl rfl ?_ | refine k_alloc rfl ?_ | refine k_box rfl rfl rfl ?_ | refine k_store rfl rfl rfl rfl rfl rfl rfl ?_ | refine k_extract rfl rfl rfl ?_ | refine k_fieldAddr rfl rfl rfl ?_ | refine k_field rfl rfl rfl ?_ | refine k_build rfl rfl rfl ?_ | refine k_call rfl mt rfl rfl rfl rfl ?_ | refine k_call rfl pk rfl rfl rfl rfl ?_ | refine k_call rfl wi rfl rfl rfl rfl ?_ | refine k_call rfl wj rfl rfl rfl rfl ?_ | refine k_call rfl wo rfl rfl rfl rfl ?_ | refine k_call rfl oi rfl rfl rfl rfl ?_ | refine k_call rfl oj rfl rfl rfl rfl ?_ | refine k_call rfl oo rfl rfl rfl rfl ?_ | refine k_call rfl mo rfl rfl rfl rfl ?_ | refine k_call rfl cm rfl rfl rfl rfl ?_ | refine k_call rfl p_tells rfl rfl rfl rfl ?_ | refine k_conv rfl rfl hc ?_ | refine W_unroll (WL_round ?_) | refine WL_round ?_ | refine k_append rfl rfl rfl (by first | rfl | exact trivial | (show 0 < _; omega)) (by first | rfl | (simp <;> omega)) (by first | rfl | (simp <;> omega)) rfl (by omega) rfl rfl rfl ?_ | refine k_slice rfl rfl rfl rfl ⟨by omega, by omega, by omega⟩ rfl rfl rfl ?_ | refine k_slice3 rfl rfl rfl rfl rfl ⟨by omega, by omega, by omega⟩ rfl rfl rfl ?_ | refine k_sliceA rfl rfl rfl rfl ⟨by omega, by omega, by omega, by omega⟩ rfl rfl ?_ | refine k_sliceE rfl rfl rfl rfl ⟨by omega, by omega, by omega, by omega⟩ rfl rfl rfl rfl ?_ | refine k_buildSlice (cs := []) rfl rfl rfl rfl rfl rfl rfl ?_ | refine k_buildSlice rfl rfl rfl rfl rfl rfl rfl ?_ | refine k_indexAddr rfl rfl rfl ⟨by omega, by omega⟩ ?_ | refine k_indexAddrs rfl rfl rfl ⟨by omega, by omega⟩ rfl ?_ | refine k_index rfl rfl rfl ⟨by omega, by omega⟩ rfl ?_ | refine k_loade rfl rfl rfl ?_ | refine k_fieldAddre rfl rfl rfl rfl ?_ | refine k_len rfl rfl ?_ | refine k_nilCheck rfl rfl rfl ?_ | refine k_pickT rfl rfl rfl ?_ | refine k_pickF rfl rfl rfl ?_ | refine k_addi rfl rfl rfl (by omega) ?_ | refine k_subi rfl rfl rfl (by omega) ?_ | refine k_negi rfl rfl (by omega) ?_ | refine k_not rfl rfl rfl ?_ | refine k_lssT rfl rfl rfl (by omega) ?_ | refine k_lssF rfl rfl rfl (by omega) ?_ | refine k_leqT rfl rfl rfl (by omega) ?_ | refine k_leqF rfl rfl rfl (by omega) ?_ | refine k_gtrT rfl rfl rfl (by omega) ?_ | refine k_gtrF rfl rfl rfl (by omega) ?_ | refine k_geqT rfl rfl rfl (by omega) ?_ | refine k_geqF rfl rfl rfl (by omega) ?_ | refine k_eqlT rfl rfl rfl (by omega) ?_ | refine k_eqlF rfl rfl rfl (by omega) ?_ | refine k_neqT rfl rfl rfl (by omega) ?_ | refine k_neqF rfl rfl rfl (by omega) ?_ | refine k_eqa rfl rfl rfl rfl rfl rfl ?_ | refine k_nea rfl rfl rfl rfl rfl rfl ?_ | refine k_makeFunc rfl rfl rfl ?_ | refine k_skip rfl ?_ | refine k_skip0 rfl ?_ | refine k_pick rfl rfl rfl rfl rfl ?_ | refine W_yes rfl ?_ | refine W_no rfl ?_)
    (first | with_reducible refine q_endr ?_ | with_reducible refine q_endn ?_); refine rets1 Try.results5 (by first | exact RetV.tmp _ _ rfl | exact RetV.cell _ _ _ _ _ _ _ _ inferInstance rfl rfl rfl) ?_
    rfl
  · have mo := Move_ok f i j n hi hj (by omega) (by omega)
    obtain ⟨c, cm⟩ : ∃ c : Int, 0 ≤ c ∧ Pur Try.prog 17 [U (f i), U n] (.int .i64 c) := by
      refine ⟨_, ?_, p_cmp (f i) n _ (by omega) (by omega) rfl⟩
      unfold cmpI; rw [if_neg hlt]; split <;> decide
    obtain ⟨hc0, cm⟩ := cm
    rw [us] at mo cm
    obtain ⟨g, hg⟩ : ∃ g, mv f i j n = g := ⟨_, rfl⟩
    have hsm := mv_sm f i j n hi hj (by omega)
    rw [hg] at mo hsm
    have oi2 := Of_ok g (by omega) i hi
    have oj2 := Of_ok g (by omega) j hj
    have oo2 := Of_ok g (by omega) u ho
    have q1 := deqs_who i j hi hj
    have hd := deqs_ud (sm g 0 6) (sm f 0 6) (by omega) (by omega)
    rw [decide_eq_true hsm] at hd
    by_cases hij : i = j
    · subst hij
      rw [decide_eq_true rfl] at q1
      have gi : g i = f i := by rw [← hg]; unfold mv; simp [upd]; omega
      have q2 := deqs_ud (g i) (f i) (by omega) (by omega)
      rw [decide_eq_true gi] at q2
      refine pur_intro Try.func5 rfl Try.ntmps5 rfl rfl fun B => ?_
      repeat (first | with_reducible refine W_seq ?_ | with_reducible refine q_then ?_ | with_reducible refine q_thenr ?_ | with_reducible refine q_thenx ?_ | with_reducible refine W_block ?_ | with_reducible refine q_block ?_ | with_reducible refine q_blockr ?_ | with_reducible refine q_blockx ?_ | with_reducible refine W_ret ?_ | with_reducible refine W_skip ?_ | with_reducible refine W_label ?_ | with_reducible refine W_exit ?_ | (with_reducible refine R_nil ?_; try dsimp only [slots0, slots_ud, hold_all, hold_who, who_all, cn_all, cn_s, cD_all, rt_all, cD_s, cells_U, agg_ud, drop0, dropS, takeS, take0, ud_nil, take_ud, take_ud0, drop_ud, drop_ud0, take_udk, D.cells, D.fz, D.fzs, List.take_succ_cons, List.take_zero, List.drop_succ_cons, List.drop_zero, List.cons_append, List.nil_append, List.append_eq, List.length_cons, List.length_nil, Nat.reduceAdd, Nat.reduceMul, Nat.reduceSub, Int.reduceAdd, Int.reduceSub, Int.reduceToNat, Int.reduceNeg, Int.reduceMul]) | refine q_blocky rfl ?_ | refine W_plain rfl ?_ | refine W_drawn mixed rfl ?_ | refine and_chk (by kernel_rfl) ?_ | refine k_move rfl rfl ?_ | refine k_assign rfl rfl ?_ | refine k_load rfl rfl rfl rfl ?_ | refine k_alloc rfl ?_ | refine k_box rfl rfl rfl ?_ | refine k_store rfl rfl rfl rfl rfl rfl rfl ?_ | refine k_extract rfl rfl rfl ?_ | refine k_fieldAddr rfl rfl rfl ?_ | refine k_field rfl rfl rfl ?_ | refine k_build rfl rfl rfl ?_ | refine k_call rfl mt rfl rfl rfl rfl ?_ | refine k_call rfl pk rfl rfl rfl rfl ?_ | refine k_call rfl wi rfl rfl rfl rfl ?_ | refine k_call rfl wj rfl rfl rfl rfl ?_ | refine k_call rfl wo rfl rfl rfl rfl ?_ | refine k_call rfl oi rfl rfl rfl rfl ?_ | refine k_call rfl oj rfl rfl rfl rfl ?_ | refine k_call rfl oo rfl rfl rfl rfl ?_ | refine k_call rfl mo rfl rfl rfl rfl ?_ | refine k_call rfl cm rfl rfl rfl rfl ?_ | refine k_call rfl p_tells rfl rfl rfl rfl ?_ | refine k_call rfl oi2 rfl rfl rfl rfl ?_ | refine k_call rfl oj2 rfl rfl rfl rfl ?_ | refine k_call rfl oo2 rfl rfl rfl rfl ?_ | refine k_conv rfl rfl hc ?_ | refine k_eqa rfl rfl rfl rfl rfl q1 ?_ | refine k_eqa rfl rfl rfl rfl rfl q2 ?_ | refine k_eqa rfl rfl rfl rfl rfl hd ?_ | refine W_unroll (WL_round ?_) | refine WL_round ?_ | refine k_append rfl rfl rfl (by first | rfl | exact trivial | (show 0 < _; omega)) (by first | rfl | (simp <;> omega)) (by first | rfl | (simp <;> omega)) rfl (by omega) rfl rfl rfl ?_ | refine k_slice rfl rfl rfl rfl ⟨by omega, by omega, by omega⟩ rfl rfl rfl ?_ | refine k_slice3 rfl rfl rfl rfl rfl ⟨by omega, by omega, by omega⟩ rfl rfl rfl ?_ | refine k_sliceA rfl rfl rfl rfl ⟨by omega, by omega, by omega, by omega⟩ rfl rfl ?_ | refine k_sliceE rfl rfl rfl rfl ⟨by omega, by omega, by omega, by omega⟩ rfl rfl rfl rfl ?_ | refine k_buildSlice (cs := []) rfl rfl rfl rfl rfl rfl rfl ?_ | refine k_buildSlice rfl rfl rfl rfl rfl rfl rfl ?_ | refine k_indexAddr rfl rfl rfl ⟨by omega, by omega⟩ ?_ | refine k_indexAddrs rfl rfl rfl ⟨by omega, by omega⟩ rfl ?_ | refine k_index rfl rfl rfl ⟨by omega, by omega⟩ rfl ?_ | refine k_loade rfl rfl rfl ?_ | refine k_fieldAddre rfl rfl rfl rfl ?_ | refine k_len rfl rfl ?_ | refine k_nilCheck rfl rfl rfl ?_ | refine k_pickT rfl rfl rfl ?_ | refine k_pickF rfl rfl rfl ?_ | refine k_addi rfl rfl rfl (by omega) ?_ | refine k_subi rfl rfl rfl (by omega) ?_ | refine k_negi rfl rfl (by omega) ?_ | refine k_not rfl rfl rfl ?_ | refine k_lssT rfl rfl rfl (by omega) ?_ | refine k_lssF rfl rfl rfl (by omega) ?_ | refine k_leqT rfl rfl rfl (by omega) ?_ | refine k_leqF rfl rfl rfl (by omega) ?_ | refine k_gtrT rfl rfl rfl (by omega) ?_ | refine k_gtrF rfl rfl rfl (by omega) ?_ | refine k_geqT rfl rfl rfl (by omega) ?_ | refine k_geqF rfl rfl rfl (by omega) ?_ | refine k_eqlT rfl rfl rfl (by omega) ?_ | refine k_eqlF rfl rfl rfl (by omega) ?_ | refine k_neqT rfl rfl rfl (by omega) ?_ | refine k_neqF rfl rfl rfl (by omega) ?_ | refine k_eqa rfl rfl rfl rfl rfl rfl ?_ | refine k_nea rfl rfl rfl rfl rfl rfl ?_ | refine k_makeFunc rfl rfl rfl ?_ | refine k_skip rfl ?_ | refine k_skip0 rfl ?_ | refine k_pick rfl rfl rfl rfl rfl ?_ | refine W_yes rfl ?_ | refine W_no rfl ?_)
      (first | with_reducible refine q_endr ?_ | with_reducible refine q_endn ?_); refine rets1 Try.results5 (by first | exact RetV.tmp _ _ rfl | exact RetV.cell _ _ _ _ _ _ _ _ inferInstance rfl rfl rfl) ?_
      rfl
    · rw [decide_eq_false hij] at q1
      have gi : g i = f i - n := by rw [← hg]; unfold mv; simp [upd, hij]
      have gj : g j = f j + n := by
        rw [← hg]; unfold mv; simp [upd]; intro h; exact absurd h.symm hij
      have hsij : f i + f j ≤ sm f 0 6 := by
        have h1 := sm_upd f i 0 hi
        have h2 := sm_le (upd f i 0) j hj
        rw [upd_no _ _ _ _ (fun h => hij h.symm)] at h2
        omega
      have a1 := p_wsub (f i) n (f i - n) _ (by omega) (by omega) (by rw [show f i + M256 - n = (f i - n) + M256 from by omega, Nat.add_mod_right, Nat.mod_eq_of_lt (by omega)]) rfl
      have a2 := p_wadd (f j) n (f j + n) _ (by omega) (by omega) (by rw [Nat.mod_eq_of_lt (by omega)]) rfl
      rw [us] at a1 a2
      have q2 := deqs_ud (g i) (f i - n) (by omega) (by omega)
      rw [decide_eq_true gi] at q2
      have q3 := deqs_ud (g j) (f j + n) (by omega) (by omega)
      rw [decide_eq_true gj] at q3
      by_cases hui : u = i
      · subst hui
        have q4 : (!deqs (bs (who u)) (bs (who u))) = false := by rw [deqs_who u u hi hi]; simp
        refine pur_intro Try.func5 rfl Try.ntmps5 rfl rfl fun B => ?_
        repeat (first | with_reducible refine W_seq ?_ | with_reducible refine q_then ?_ | with_reducible refine q_thenr ?_ | with_reducible refine q_thenx ?_ | with_reducible refine W_block ?_ | with_reducible refine q_block ?_ | with_reducible refine q_blockr ?_ | with_reducible refine q_blockx ?_ | with_reducible refine W_ret ?_ | with_reducible refine W_skip ?_ | with_reducible refine W_label ?_ | with_reducible refine W_exit ?_ | (with_reducible refine R_nil ?_; try dsimp only [slots0, slots_ud, hold_all, hold_who, who_all, cn_all, cn_s, cD_all, rt_all, cD_s, cells_U, agg_ud, drop0, dropS, takeS, take0, ud_nil, take_ud, take_ud0, drop_ud, drop_ud0, take_udk, D.cells, D.fz, D.fzs, List.take_succ_cons, List.take_zero, List.drop_succ_cons, List.drop_zero, List.cons_append, List.nil_append, List.append_eq, List.length_cons, List.length_nil, Nat.reduceAdd, Nat.reduceMul, Nat.reduceSub, Int.reduceAdd, Int.reduceSub, Int.reduceToNat, Int.reduceNeg, Int.reduceMul]) | refine q_blocky rfl ?_ | refine W_plain rfl ?_ | refine W_drawn mixed rfl ?_ | refine and_chk (by kernel_rfl) ?_ | refine k_move rfl rfl ?_ | refine k_assign rfl rfl ?_ | refine k_load rfl rfl rfl rfl ?_ | refine k_alloc rfl ?_ | refine k_box rfl rfl rfl ?_ | refine k_store rfl rfl rfl rfl rfl rfl rfl ?_ | refine k_extract rfl rfl rfl ?_ | refine k_fieldAddr rfl rfl rfl ?_ | refine k_field rfl rfl rfl ?_ | refine k_build rfl rfl rfl ?_ | refine k_call rfl mt rfl rfl rfl rfl ?_ | refine k_call rfl pk rfl rfl rfl rfl ?_ | refine k_call rfl wi rfl rfl rfl rfl ?_ | refine k_call rfl wj rfl rfl rfl rfl ?_ | refine k_call rfl wo rfl rfl rfl rfl ?_ | refine k_call rfl oi rfl rfl rfl rfl ?_ | refine k_call rfl oj rfl rfl rfl rfl ?_ | refine k_call rfl oo rfl rfl rfl rfl ?_ | refine k_call rfl mo rfl rfl rfl rfl ?_ | refine k_call rfl cm rfl rfl rfl rfl ?_ | refine k_call rfl p_tells rfl rfl rfl rfl ?_ | refine k_call rfl oi2 rfl rfl rfl rfl ?_ | refine k_call rfl oj2 rfl rfl rfl rfl ?_ | refine k_call rfl oo2 rfl rfl rfl rfl ?_ | refine k_call rfl a1 rfl rfl rfl rfl ?_ | refine k_call rfl a2 rfl rfl rfl rfl ?_ | refine k_conv rfl rfl hc ?_ | refine k_eqa rfl rfl rfl rfl rfl q1 ?_ | refine k_eqa rfl rfl rfl rfl rfl q2 ?_ | refine k_eqa rfl rfl rfl rfl rfl q3 ?_ | refine k_eqa rfl rfl rfl rfl rfl hd ?_ | refine k_nea rfl rfl rfl rfl rfl q4 ?_ | refine W_unroll (WL_round ?_) | refine WL_round ?_ | refine k_append rfl rfl rfl (by first | rfl | exact trivial | (show 0 < _; omega)) (by first | rfl | (simp <;> omega)) (by first | rfl | (simp <;> omega)) rfl (by omega) rfl rfl rfl ?_ | refine k_slice rfl rfl rfl rfl ⟨by omega, by omega, by omega⟩ rfl rfl rfl ?_ | refine k_slice3 rfl rfl rfl rfl rfl ⟨by omega, by omega, by omega⟩ rfl rfl rfl ?_ | refine k_sliceA rfl rfl rfl rfl ⟨by omega, by omega, by omega, by omega⟩ rfl rfl ?_ | refine k_sliceE rfl rfl rfl rfl ⟨by omega, by omega, by omega, by omega⟩ rfl rfl rfl rfl ?_ | refine k_buildSlice (cs := []) rfl rfl rfl rfl rfl rfl rfl ?_ | refine k_buildSlice rfl rfl rfl rfl rfl rfl rfl ?_ | refine k_indexAddr rfl rfl rfl ⟨by omega, by omega⟩ ?_ | refine k_indexAddrs rfl rfl rfl ⟨by omega, by omega⟩ rfl ?_ | refine k_index rfl rfl rfl ⟨by omega, by omega⟩ rfl ?_ | refine k_loade rfl rfl rfl ?_ | refine k_fieldAddre rfl rfl rfl rfl ?_ | refine k_len rfl rfl ?_ | refine k_nilCheck rfl rfl rfl ?_ | refine k_pickT rfl rfl rfl ?_ | refine k_pickF rfl rfl rfl ?_ | refine k_addi rfl rfl rfl (by omega) ?_ | refine k_subi rfl rfl rfl (by omega) ?_ | refine k_negi rfl rfl (by omega) ?_ | refine k_not rfl rfl rfl ?_ | refine k_lssT rfl rfl rfl (by omega) ?_ | refine k_lssF rfl rfl rfl (by omega) ?_ | refine k_leqT rfl rfl rfl (by omega) ?_ | refine k_leqF rfl rfl rfl (by omega) ?_ | refine k_gtrT rfl rfl rfl (by omega) ?_ | refine k_gtrF rfl rfl rfl (by omega) ?_ | refine k_geqT rfl rfl rfl (by omega) ?_ | refine k_geqF rfl rfl rfl (by omega) ?_ | refine k_eqlT rfl rfl rfl (by omega) ?_ | refine k_eqlF rfl rfl rfl (by omega) ?_ | refine k_neqT rfl rfl rfl (by omega) ?_ | refine k_neqF rfl rfl rfl (by omega) ?_ | refine k_eqa rfl rfl rfl rfl rfl rfl ?_ | refine k_nea rfl rfl rfl rfl rfl rfl ?_ | refine k_makeFunc rfl rfl rfl ?_ | refine k_skip rfl ?_ | refine k_skip0 rfl ?_ | refine k_pick rfl rfl rfl rfl rfl ?_ | refine W_yes rfl ?_ | refine W_no rfl ?_)
        (first | with_reducible refine q_endr ?_ | with_reducible refine q_endn ?_); refine rets1 Try.results5 (by first | exact RetV.tmp _ _ rfl | exact RetV.cell _ _ _ _ _ _ _ _ inferInstance rfl rfl rfl) ?_
        rfl
      · have q4 : (!deqs (bs (who u)) (bs (who i))) = true := by rw [deqs_who u i ho hi]; simp [hui]
        by_cases huj : u = j
        · subst huj
          have q5 : (!deqs (bs (who u)) (bs (who u))) = false := by rw [deqs_who u u hj hj]; simp
          refine pur_intro Try.func5 rfl Try.ntmps5 rfl rfl fun B => ?_
          repeat (first | with_reducible refine W_seq ?_ | with_reducible refine q_then ?_ | with_reducible refine q_thenr ?_ | with_reducible refine q_thenx ?_ | with_reducible refine W_block ?_ | with_reducible refine q_block ?_ | with_reducible refine q_blockr ?_ | with_reducible refine q_blockx ?_ | with_reducible refine W_ret ?_ | with_reducible refine W_skip ?_ | with_reducible refine W_label ?_ | with_reducible refine W_exit ?_ | (with_reducible refine R_nil ?_; try dsimp only [slots0, slots_ud, hold_all, hold_who, who_all, cn_all, cn_s, cD_all, rt_all, cD_s, cells_U, agg_ud, drop0, dropS, takeS, take0, ud_nil, take_ud, take_ud0, drop_ud, drop_ud0, take_udk, D.cells, D.fz, D.fzs, List.take_succ_cons, List.take_zero, List.drop_succ_cons, List.drop_zero, List.cons_append, List.nil_append, List.append_eq, List.length_cons, List.length_nil, Nat.reduceAdd, Nat.reduceMul, Nat.reduceSub, Int.reduceAdd, Int.reduceSub, Int.reduceToNat, Int.reduceNeg, Int.reduceMul]) | refine q_blocky rfl ?_ | refine W_plain rfl ?_ | refine W_drawn mixed rfl ?_ | refine and_chk (by kernel_rfl) ?_ | refine k_move rfl rfl ?_ | refine k_assign rfl rfl ?_ | refine k_load rfl rfl rfl rfl ?_ | refine k_alloc rfl ?_ | refine k_box rfl rfl rfl ?_ | refine k_store rfl rfl rfl rfl rfl rfl rfl ?_ | refine k_extract rfl rfl rfl ?_ | refine k_fieldAddr rfl rfl rfl ?_ | refine k_field rfl rfl rfl ?_ | refine k_build rfl rfl rfl ?_ | refine k_call rfl mt rfl rfl rfl rfl ?_ | refine k_call rfl pk rfl rfl rfl rfl ?_ | refine k_call rfl wi rfl rfl rfl rfl ?_ | refine k_call rfl wj rfl rfl rfl rfl ?_ | refine k_call rfl wo rfl rfl rfl rfl ?_ | refine k_call rfl oi rfl rfl rfl rfl ?_ | refine k_call rfl oj rfl rfl rfl rfl ?_ | refine k_call rfl oo rfl rfl rfl rfl ?_ | refine k_call rfl mo rfl rfl rfl rfl ?_ | refine k_call rfl cm rfl rfl rfl rfl ?_ | refine k_call rfl p_tells rfl rfl rfl rfl ?_ | refine k_call rfl oi2 rfl rfl rfl rfl ?_ | refine k_call rfl oj2 rfl rfl rfl rfl ?_ | refine k_call rfl oo2 rfl rfl rfl rfl ?_ | refine k_call rfl a1 rfl rfl rfl rfl ?_ | refine k_call rfl a2 rfl rfl rfl rfl ?_ | refine k_conv rfl rfl hc ?_ | refine k_eqa rfl rfl rfl rfl rfl q1 ?_ | refine k_eqa rfl rfl rfl rfl rfl q2 ?_ | refine k_eqa rfl rfl rfl rfl rfl q3 ?_ | refine k_eqa rfl rfl rfl rfl rfl hd ?_ | refine k_nea rfl rfl rfl rfl rfl q4 ?_ | refine k_nea rfl rfl rfl rfl rfl q5 ?_ | refine W_unroll (WL_round ?_) | refine WL_round ?_ | refine k_append rfl rfl rfl (by first | rfl | exact trivial | (show 0 < _; omega)) (by first | rfl | (simp <;> omega)) (by first | rfl | (simp <;> omega)) rfl (by omega) rfl rfl rfl ?_ | refine k_slice rfl rfl rfl rfl ⟨by omega, by omega, by omega⟩ rfl rfl rfl ?_ | refine k_slice3 rfl rfl rfl rfl rfl ⟨by omega, by omega, by omega⟩ rfl rfl rfl ?_ | refine k_sliceA rfl rfl rfl rfl ⟨by omega, by omega, by omega, by omega⟩ rfl rfl ?_ | refine k_sliceE rfl rfl rfl rfl ⟨by omega, by omega, by omega, by omega⟩ rfl rfl rfl rfl ?_ | refine k_buildSlice (cs := []) rfl rfl rfl rfl rfl rfl rfl ?_ | refine k_buildSlice rfl rfl rfl rfl rfl rfl rfl ?_ | refine k_indexAddr rfl rfl rfl ⟨by omega, by omega⟩ ?_ | refine k_indexAddrs rfl rfl rfl ⟨by omega, by omega⟩ rfl ?_ | refine k_index rfl rfl rfl ⟨by omega, by omega⟩ rfl ?_ | refine k_loade rfl rfl rfl ?_ | refine k_fieldAddre rfl rfl rfl rfl ?_ | refine k_len rfl rfl ?_ | refine k_nilCheck rfl rfl rfl ?_ | refine k_pickT rfl rfl rfl ?_ | refine k_pickF rfl rfl rfl ?_ | refine k_addi rfl rfl rfl (by omega) ?_ | refine k_subi rfl rfl rfl (by omega) ?_ | refine k_negi rfl rfl (by omega) ?_ | refine k_not rfl rfl rfl ?_ | refine k_lssT rfl rfl rfl (by omega) ?_ | refine k_lssF rfl rfl rfl (by omega) ?_ | refine k_leqT rfl rfl rfl (by omega) ?_ | refine k_leqF rfl rfl rfl (by omega) ?_ | refine k_gtrT rfl rfl rfl (by omega) ?_ | refine k_gtrF rfl rfl rfl (by omega) ?_ | refine k_geqT rfl rfl rfl (by omega) ?_ | refine k_geqF rfl rfl rfl (by omega) ?_ | refine k_eqlT rfl rfl rfl (by omega) ?_ | refine k_eqlF rfl rfl rfl (by omega) ?_ | refine k_neqT rfl rfl rfl (by omega) ?_ | refine k_neqF rfl rfl rfl (by omega) ?_ | refine k_eqa rfl rfl rfl rfl rfl rfl ?_ | refine k_nea rfl rfl rfl rfl rfl rfl ?_ | refine k_makeFunc rfl rfl rfl ?_ | refine k_skip rfl ?_ | refine k_skip0 rfl ?_ | refine k_pick rfl rfl rfl rfl rfl ?_ | refine W_yes rfl ?_ | refine W_no rfl ?_)
          (first | with_reducible refine q_endr ?_ | with_reducible refine q_endn ?_); refine rets1 Try.results5 (by first | exact RetV.tmp _ _ rfl | exact RetV.cell _ _ _ _ _ _ _ _ inferInstance rfl rfl rfl) ?_
          rfl
        · have q5 : (!deqs (bs (who u)) (bs (who j))) = true := by rw [deqs_who u j ho hj]; simp [huj]
          have gu : g u = f u := by rw [← hg]; unfold mv; simp [upd, huj, hui]
          have q6 : (!deqs (ud (g u)) (ud (f u))) = false := by rw [deqs_ud (g u) (f u) (by omega) (by omega)]; simp [gu]
          refine pur_intro Try.func5 rfl Try.ntmps5 rfl rfl fun B => ?_
          repeat (first | with_reducible refine W_seq ?_ | with_reducible refine q_then ?_ | with_reducible refine q_thenr ?_ | with_reducible refine q_thenx ?_ | with_reducible refine W_block ?_ | with_reducible refine q_block ?_ | with_reducible refine q_blockr ?_ | with_reducible refine q_blockx ?_ | with_reducible refine W_ret ?_ | with_reducible refine W_skip ?_ | with_reducible refine W_label ?_ | with_reducible refine W_exit ?_ | (with_reducible refine R_nil ?_; try dsimp only [slots0, slots_ud, hold_all, hold_who, who_all, cn_all, cn_s, cD_all, rt_all, cD_s, cells_U, agg_ud, drop0, dropS, takeS, take0, ud_nil, take_ud, take_ud0, drop_ud, drop_ud0, take_udk, D.cells, D.fz, D.fzs, List.take_succ_cons, List.take_zero, List.drop_succ_cons, List.drop_zero, List.cons_append, List.nil_append, List.append_eq, List.length_cons, List.length_nil, Nat.reduceAdd, Nat.reduceMul, Nat.reduceSub, Int.reduceAdd, Int.reduceSub, Int.reduceToNat, Int.reduceNeg, Int.reduceMul]) | refine q_blocky rfl ?_ | refine W_plain rfl ?_ | refine W_drawn mixed rfl ?_ | refine and_chk (by kernel_rfl) ?_ | refine k_move rfl rfl ?_ | refine k_assign rfl rfl ?_ | refine k_load rfl rfl rfl rfl ?_ | refine k_alloc rfl ?_ | refine k_box rfl rfl rfl ?_ | refine k_store rfl rfl rfl rfl rfl rfl rfl ?_ | refine k_extract rfl rfl rfl ?_ | refine k_fieldAddr rfl rfl rfl ?_ | refine k_field rfl rfl rfl ?_ | refine k_build rfl rfl rfl ?_ | refine k_call rfl mt rfl rfl rfl rfl ?_ | refine k_call rfl pk rfl rfl rfl rfl ?_ | refine k_call rfl wi rfl rfl rfl rfl ?_ | refine k_call rfl wj rfl rfl rfl rfl ?_ | refine k_call rfl wo rfl rfl rfl rfl ?_ | refine k_call rfl oi rfl rfl rfl rfl ?_ | refine k_call rfl oj rfl rfl rfl rfl ?_ | refine k_call rfl oo rfl rfl rfl rfl ?_ | refine k_call rfl mo rfl rfl rfl rfl ?_ | refine k_call rfl cm rfl rfl rfl rfl ?_ | refine k_call rfl p_tells rfl rfl rfl rfl ?_ | refine k_call rfl oi2 rfl rfl rfl rfl ?_ | refine k_call rfl oj2 rfl rfl rfl rfl ?_ | refine k_call rfl oo2 rfl rfl rfl rfl ?_ | refine k_call rfl a1 rfl rfl rfl rfl ?_ | refine k_call rfl a2 rfl rfl rfl rfl ?_ | refine k_conv rfl rfl hc ?_ | refine k_eqa rfl rfl rfl rfl rfl q1 ?_ | refine k_eqa rfl rfl rfl rfl rfl q2 ?_ | refine k_eqa rfl rfl rfl rfl rfl q3 ?_ | refine k_eqa rfl rfl rfl rfl rfl hd ?_ | refine k_nea rfl rfl rfl rfl rfl q4 ?_ | refine k_nea rfl rfl rfl rfl rfl q5 ?_ | refine k_nea rfl rfl rfl rfl rfl q6 ?_ | refine W_unroll (WL_round ?_) | refine WL_round ?_ | refine k_append rfl rfl rfl (by first | rfl | exact trivial | (show 0 < _; omega)) (by first | rfl | (simp <;> omega)) (by first | rfl | (simp <;> omega)) rfl (by omega) rfl rfl rfl ?_ | refine k_slice rfl rfl rfl rfl ⟨by omega, by omega, by omega⟩ rfl rfl rfl ?_ | refine k_slice3 rfl rfl rfl rfl rfl ⟨by omega, by omega, by omega⟩ rfl rfl rfl ?_ | refine k_sliceA rfl rfl rfl rfl ⟨by omega, by omega, by omega, by omega⟩ rfl rfl ?_ | refine k_sliceE rfl rfl rfl rfl ⟨by omega, by omega, by omega, by omega⟩ rfl rfl rfl rfl ?_ | refine k_buildSlice (cs := []) rfl rfl rfl rfl rfl rfl rfl ?_ | refine k_buildSlice rfl rfl rfl rfl rfl rfl rfl ?_ | refine k_indexAddr rfl rfl rfl ⟨by omega, by omega⟩ ?_ | refine k_indexAddrs rfl rfl rfl ⟨by omega, by omega⟩ rfl ?_ | refine k_index rfl rfl rfl ⟨by omega, by omega⟩ rfl ?_ | refine k_loade rfl rfl rfl ?_ | refine k_fieldAddre rfl rfl rfl rfl ?_ | refine k_len rfl rfl ?_ | refine k_nilCheck rfl rfl rfl ?_ | refine k_pickT rfl rfl rfl ?_ | refine k_pickF rfl rfl rfl ?_ | refine k_addi rfl rfl rfl (by omega) ?_ | refine k_subi rfl rfl rfl (by omega) ?_ | refine k_negi rfl rfl (by omega) ?_ | refine k_not rfl rfl rfl ?_ | refine k_lssT rfl rfl rfl (by omega) ?_ | refine k_lssF rfl rfl rfl (by omega) ?_ | refine k_leqT rfl rfl rfl (by omega) ?_ | refine k_leqF rfl rfl rfl (by omega) ?_ | refine k_gtrT rfl rfl rfl (by omega) ?_ | refine k_gtrF rfl rfl rfl (by omega) ?_ | refine k_geqT rfl rfl rfl (by omega) ?_ | refine k_geqF rfl rfl rfl (by omega) ?_ | refine k_eqlT rfl rfl rfl (by omega) ?_ | refine k_eqlF rfl rfl rfl (by omega) ?_ | refine k_neqT rfl rfl rfl (by omega) ?_ | refine k_neqF rfl rfl rfl (by omega) ?_ | refine k_eqa rfl rfl rfl rfl rfl rfl ?_ | refine k_nea rfl rfl rfl rfl rfl rfl ?_ | refine k_makeFunc rfl rfl rfl ?_ | refine k_skip rfl ?_ | refine k_skip0 rfl ?_ | refine k_pick rfl rfl rfl rfl rfl ?_ | refine W_yes rfl ?_ | refine W_no rfl ?_)
          (first | with_reducible refine q_endr ?_ | with_reducible refine q_endn ?_); refine rets1 Try.results5 (by first | exact RetV.tmp _ _ rfl | exact RetV.cell _ _ _ _ _ _ _ _ inferInstance rfl rfl rfl) ?_
          rfl

theorem walk (l : List RawT) (hok : ∀ r ∈ l, r.ok) (p q b o : Int) (v : Value) (w : World) (hr : Rep (bare (allhw w)) w (.slice .frozen l.length (rws l)) v) : Calls Try.prog 5 #[v, .int .i64 p, .int .i64 q, .int .i64 b, .int .i64 o] w fun e w' => e = .returned (.bool true) ∧ New w w' :=
  calls_of_purS (pur l hok p q b o) (.cons hr (.cons (.int _ _) (.cons (.int _ _) (.cons (.int _ _) (.cons (.int _ _) .nil)))))

set_option maxRecDepth 100000 in
theorem lifted (os : Os) (started : os.Started) (H : Type) (enc : TypeId × Value → H) :
    ReturnsInHanded {} Try.checked os 5 .any (Rows.coinGivesSpec.pre6 enc Try.prog Try.f5 Rows.coinGivesRow.domain false) (Rows.coinGivesSpec.post enc Try.prog Try.f5 false true false false) := by
  refine returnsInHanded_of_change (C := Try.checked) own started (by kernel_rfl) Try.func5
    (ChangeSpec.witness6 (enc := enc) (C := Try.checked) false ⟨#[], #[.slice none 0 0, .int .i64 0, .int .i64 0, .int .i64 0, .int .i64 0], []⟩ 8 (by kernel_rfl) (by kernel_rfl) (by kernel_rfl) (by kernel_rfl)) ?_
  intro W base args ds gs before hval0 hW hcnd _
  have hval : ∀ (j : Nat) t v, Try.f5.params[j]? = some t → args[j]? = some v → Value.okWide Try.prog W .any base t v := hval0
  have hW' := hW
  obtain ⟨p, q, hA0, hV, rfl, hfz, hnd⟩ := hW
  have hA : DataW.TrodAll enc Try.prog W 0 (fun _ => true) true Try.f5.params.toList args.toList ds p := hA0
  rw [Try.params5] at hA hval
  obtain ⟨v0, vs0, d0, ds0, p0, q0, hargs, rfl, rfl, h0, r0⟩ := trodAll_cons hA
  obtain ⟨v1, vs1, d1, ds1, p1, q1, rfl, rfl, rfl, h1, r1⟩ := trodAll_cons r0
  obtain ⟨v2, vs2, d2, ds2, p2, q2, rfl, rfl, rfl, h2, r2⟩ := trodAll_cons r1
  obtain ⟨v3, vs3, d3, ds3, p3, q3, rfl, rfl, rfl, h3, r3⟩ := trodAll_cons r2
  obtain ⟨v4, vs4, d4, ds4, p4, q4, rfl, rfl, rfl, h4, r4⟩ := trodAll_cons r3
  obtain ⟨rfl, rfl, rfl⟩ := trodAll_nil r4
  obtain rfl : args = #[v0, v1, v2, v3, v4] := by cases args; simp_all
  obtain ⟨rfl, rfl⟩ := trodVars_none hV
  obtain ⟨l1, wl1, hl1⟩ := open_raws (hval 0 22 v0 rfl rfl) h0
  obtain ⟨n2, rfl, rfl, rfl, wn2⟩ := open_int Try.underlying3 (hval 1 3 v1 rfl rfl) h1
  obtain ⟨n3, rfl, rfl, rfl, wn3⟩ := open_int Try.underlying3 (hval 2 3 v2 rfl rfl) h2
  obtain ⟨n4, rfl, rfl, rfl, wn4⟩ := open_int Try.underlying3 (hval 3 3 v3 rfl rfl) h3
  obtain ⟨n5, rfl, rfl, rfl, wn5⟩ := open_int Try.underlying3 (hval 4 3 v4 rfl rfl) h4
  refine (walk l1 wl1 n2 n3 n4 n5 v0 W hl1).mono fun e W' ⟨he, hN⟩ => ?_
  subst he
  exact ⟨_, rfl, law_post laidOut (by kernel_rfl) (by kernel_rfl) Try.underlying4 rfl hW' rfl hN⟩

theorem holds : Rows.CoinGivesSaid :=
  OpenClaim.holds_of_wide 5 Try.f5 rfl rfl rfl rfl rfl rfl rfl ⟨rfl, rfl, rfl, rfl, rfl⟩ rfl rfl rfl rfl rfl (by kernel_rfl) Try.func5 (by kernel_rfl)
    (of_decide_eq_true (by kernel_rfl)) (by unfold Func.isWrapper; first | (rw [if_pos (by decide +kernel)]; kernel_rfl) | (rw [if_neg (by decide +kernel)]; exact ⟨rfl, rfl⟩))
    (fun os started H enc _ => lifted os started H enc)

#print axioms holds
end Go.Proofs.Ythbkfohdphfgaaa.coinGives
