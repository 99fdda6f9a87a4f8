/- CoinSum: whatever is done, all have together as much as there is. No conditions. -/
import Derived.Test.YthbkfohdphfgaaaCoin6
namespace Go.Proofs.Ythbkfohdphfgaaa.coinSum
open Go.ChangeShapes Go.WideShapes Go.RowKit Go.Joins
set_option linter.unusedVariables false
open Go.Proofs.Ythbkfohdphfgaaa
set_option maxRecDepth 100000
--nrm hold_all hold_who who_all cn_all cn_s cD_all rt_all cD_s

set_option maxHeartbeats 8000000 in
theorem pur (l : List RawT) (hok : ∀ r ∈ l, r.ok) : Pur Try.prog 3 [.slice .frozen l.length (rws l)] (.bool true) := by
  have mt := minted_ok l hok
  have hM : (2000000 : Nat) < M256 := by decide
  have hs : sm (mst (l.take 20)) 0 6 ≤ 99 * 20 := by
    have h1 := mst_sm (l.take 20) fun _ => 0
    have h2 : (l.take 20).length ≤ 20 := by rw [List.length_take]; omega
    have h3 : sm (fun _ => 0) 0 6 = 0 := rfl
    rw [h3] at h1
    show sm ((l.take 20).foldl stp fun _ => 0) 0 6 ≤ _
    omega
  generalize mst (l.take 20) = f at *
  have hsm : sm f 0 6 = f 0 + (f 1 + (f 2 + (f 3 + (f 4 + (f 5 + 0))))) := rfl
  have w0 := Who_ok 0 0 rfl
  have w1 := Who_ok 1 1 rfl
  have w2 := Who_ok 2 2 rfl
  have w3 := Who_ok 3 3 rfl
  have w4 := Who_ok 4 4 rfl
  have w5 := Who_ok 5 5 rfl
  have o0 := Of_ok f (by omega) 0 (by decide)
  have o1 := Of_ok f (by omega) 1 (by decide)
  have o2 := Of_ok f (by omega) 2 (by decide)
  have o3 := Of_ok f (by omega) 3 (by decide)
  have o4 := Of_ok f (by omega) 4 (by decide)
  have o5 := Of_ok f (by omega) 5 (by decide)
  obtain ⟨s1, h1⟩ : ∃ s, 0 + f 0 = s := ⟨_, rfl⟩
  obtain ⟨s2, h2⟩ : ∃ s, s1 + f 1 = s := ⟨_, rfl⟩
  obtain ⟨s3, h3⟩ : ∃ s, s2 + f 2 = s := ⟨_, rfl⟩
  obtain ⟨s4, h4⟩ : ∃ s, s3 + f 3 = s := ⟨_, rfl⟩
  obtain ⟨s5, h5⟩ : ∃ s, s4 + f 4 = s := ⟨_, rfl⟩
  obtain ⟨s6, h6⟩ : ∃ s, s5 + f 5 = s := ⟨_, rfl⟩
  have a0 := p_wadd 0 (f 0) s1 false (by omega) (by omega) (by rw [Nat.mod_eq_of_lt (by omega)]; omega) (decide_eq_false (by omega))
  have a1 := p_wadd s1 (f 1) s2 false (by omega) (by omega) (by rw [Nat.mod_eq_of_lt (by omega)]; omega) (decide_eq_false (by omega))
  have a2 := p_wadd s2 (f 2) s3 false (by omega) (by omega) (by rw [Nat.mod_eq_of_lt (by omega)]; omega) (decide_eq_false (by omega))
  have a3 := p_wadd s3 (f 3) s4 false (by omega) (by omega) (by rw [Nat.mod_eq_of_lt (by omega)]; omega) (decide_eq_false (by omega))
  have a4 := p_wadd s4 (f 4) s5 false (by omega) (by omega) (by rw [Nat.mod_eq_of_lt (by omega)]; omega) (decide_eq_false (by omega))
  have a5 := p_wadd s5 (f 5) s6 false (by omega) (by omega) (by rw [Nat.mod_eq_of_lt (by omega)]; omega) (decide_eq_false (by omega))
  have ck : Pur Try.prog 11 [.agg (cD f)] (.int .i64 0) := check_cl f (by omega)
  have hd := deqs_ud s6 (sm f 0 6) (by omega) (by omega)
  rw [decide_eq_true (by omega)] at hd
  refine pur_intro Try.func3 rfl Try.ntmps3 rfl rfl fun B => ?_
  repeat (first | with_reducible refine W_seq ?_ | with_reducible refine q_then ?_ | with_reducible refine q_thenr ?_ | with_reducible refine q_thenx ?_ | with_reducible refine W_block ?_ | with_reducible refine q_block ?_ | with_reducible refine q_blockr ?_ | with_reducible refine q_blockx ?_ | with_reducible refine W_ret ?_ | with_reducible refine W_skip ?_ | with_reducible refine W_label ?_ | with_reducible refine W_exit ?_ | (with_reducible refine R_nil ?_; try dsimp only [slots0, slots_ud, hold_all, hold_who, who_all, cn_all, cn_s, cD_all, rt_all, cD_s, cells_U, agg_ud, drop0, dropS, takeS, take0, ud_nil, take_ud, take_ud0, drop_ud, drop_ud0, take_udk, D.cells, D.fz, D.fzs, List.take_succ_cons, List.take_zero, List.drop_succ_cons, List.drop_zero, List.cons_append, List.nil_append, List.append_eq, List.length_cons, List.length_nil, Nat.reduceAdd, Nat.reduceMul, Nat.reduceSub, Int.reduceAdd, Int.reduceSub, Int.reduceToNat, Int.reduceNeg, Int.reduceMul]) | refine q_blocky rfl ?_ | refine W_plain rfl ?_ | refine W_drawn mixed rfl ?_ | refine and_chk (by kernel_rfl) ?_ | refine k_move rfl rfl ?_ | refine k_assign rfl rfl ?_ | refine k_load rfl rfl rfl rfl ?_ | refine k_alloc rfl ?_ | refine k_box rfl rfl rfl ?_ | refine k_store rfl rfl rfl rfl rfl rfl rfl ?_ | refine k_extract rfl rfl rfl ?_ | refine k_fieldAddr rfl rfl rfl ?_ | refine k_field rfl rfl rfl ?_ | refine k_build rfl rfl rfl ?_ | refine k_call rfl mt rfl rfl rfl rfl ?_ | refine k_call rfl w0 rfl rfl rfl rfl ?_ | refine k_call rfl w1 rfl rfl rfl rfl ?_ | refine k_call rfl w2 rfl rfl rfl rfl ?_ | refine k_call rfl w3 rfl rfl rfl rfl ?_ | refine k_call rfl w4 rfl rfl rfl rfl ?_ | refine k_call rfl w5 rfl rfl rfl rfl ?_ | refine k_call rfl o0 rfl rfl rfl rfl ?_ | refine k_call rfl o1 rfl rfl rfl rfl ?_ | refine k_call rfl o2 rfl rfl rfl rfl ?_ | refine k_call rfl o3 rfl rfl rfl rfl ?_ | refine k_call rfl o4 rfl rfl rfl rfl ?_ | refine k_call rfl o5 rfl rfl rfl rfl ?_ | refine k_call rfl a0 rfl rfl rfl rfl ?_ | refine k_call rfl a1 rfl rfl rfl rfl ?_ | refine k_call rfl a2 rfl rfl rfl rfl ?_ | refine k_call rfl a3 rfl rfl rfl rfl ?_ | refine k_call rfl a4 rfl rfl rfl rfl ?_ | refine k_call rfl a5 rfl rfl rfl rfl ?_ | refine k_call rfl p_tells rfl rfl rfl rfl ?_ | refine k_call rfl ck rfl rfl rfl rfl ?_ | refine k_eqa rfl rfl rfl rfl rfl hd ?_ | refine W_unroll (WL_round ?_) | refine WL_round ?_ | refine k_append rfl rfl rfl (by first | rfl | exact trivial | (show 0 < _; omega)) (by first | rfl | (simp <;> omega)) (by first | rfl | (simp <;> omega)) rfl (by omega) rfl rfl rfl ?_ | refine k_slice rfl rfl rfl rfl ⟨by omega, by omega, by omega⟩ rfl rfl rfl ?_ | refine k_slice3 rfl rfl rfl rfl rfl ⟨by omega, by omega, by omega⟩ rfl rfl rfl ?_ | refine k_sliceA rfl rfl rfl rfl ⟨by omega, by omega, by omega, by omega⟩ rfl rfl ?_ | refine k_sliceE rfl rfl rfl rfl ⟨by omega, by omega, by omega, by omega⟩ rfl rfl rfl rfl ?_ | refine k_buildSlice (cs := []) rfl rfl rfl rfl rfl rfl rfl ?_ | refine k_buildSlice rfl rfl rfl rfl rfl rfl rfl ?_ | refine k_indexAddr rfl rfl rfl ⟨by omega, by omega⟩ ?_ | refine k_indexAddrs rfl rfl rfl ⟨by omega, by omega⟩ rfl ?_ | refine k_index rfl rfl rfl ⟨by omega, by omega⟩ rfl ?_ | refine k_loade rfl rfl rfl ?_ | refine k_fieldAddre rfl rfl rfl rfl ?_ | refine k_len rfl rfl ?_ | refine k_nilCheck rfl rfl rfl ?_ | refine k_pickT rfl rfl rfl ?_ | refine k_pickF rfl rfl rfl ?_ | refine k_addi rfl rfl rfl (by omega) ?_ | refine k_subi rfl rfl rfl (by omega) ?_ | refine k_negi rfl rfl (by omega) ?_ | refine k_not rfl rfl rfl ?_ | refine k_lssT rfl rfl rfl (by omega) ?_ | refine k_lssF rfl rfl rfl (by omega) ?_ | refine k_leqT rfl rfl rfl (by omega) ?_ | refine k_leqF rfl rfl rfl (by omega) ?_ | refine k_gtrT rfl rfl rfl (by omega) ?_ | refine k_gtrF rfl rfl rfl (by omega) ?_ | refine k_geqT rfl rfl rfl (by omega) ?_ | refine k_geqF rfl rfl rfl (by omega) ?_ | refine k_eqlT rfl rfl rfl (by omega) ?_ | refine k_eqlF rfl rfl rfl (by omega) ?_ | refine k_neqT rfl rfl rfl (by omega) ?_ | refine k_neqF rfl rfl rfl (by omega) ?_ | refine k_eqa rfl rfl rfl rfl rfl rfl ?_ | refine k_nea rfl rfl rfl rfl rfl rfl ?_ | refine k_makeFunc rfl rfl rfl ?_ | refine k_skip rfl ?_ | refine k_skip0 rfl ?_ | refine k_pick rfl rfl rfl rfl rfl ?_ | refine W_yes rfl ?_ | refine W_no rfl ?_)
  (first | with_reducible refine q_endr ?_ | with_reducible refine q_endn ?_); refine rets1 Try.results3 (by first | exact RetV.tmp _ _ rfl | exact RetV.cell _ _ _ _ _ _ _ _ inferInstance rfl rfl rfl) ?_
  rfl

theorem walk (l : List RawT) (hok : ∀ r ∈ l, r.ok) (v : Value) (w : World) (hr : Rep (bare (allhw w)) w (.slice .frozen l.length (rws l)) v) : Calls Try.prog 3 #[v] w fun e w' => e = .returned (.bool true) ∧ New w w' :=
  calls_of_purS (pur l hok) (.cons hr .nil)

set_option maxRecDepth 100000 in
theorem lifted (os : Os) (started : os.Started) (H : Type) (enc : TypeId × Value → H) :
    ReturnsInHanded {} Try.checked os 3 .any (Rows.coinSumSpec.pre6 enc Try.prog Try.f3 Rows.coinSumRow.domain false) (Rows.coinSumSpec.post enc Try.prog Try.f3 false true false false) := by
  refine returnsInHanded_of_change (C := Try.checked) own started (by kernel_rfl) Try.func3
    (ChangeSpec.witness6 (enc := enc) (C := Try.checked) false ⟨#[], #[.slice none 0 0], []⟩ 8 (by kernel_rfl) (by kernel_rfl) (by kernel_rfl) (by kernel_rfl)) ?_
  intro W base args ds gs before hval0 hW hcnd _
  have hval : ∀ (j : Nat) t v, Try.f3.params[j]? = some t → args[j]? = some v → Value.okWide Try.prog W .any base t v := hval0
  have hW' := hW
  obtain ⟨p, q, hA0, hV, rfl, hfz, hnd⟩ := hW
  have hA : DataW.TrodAll enc Try.prog W 0 (fun _ => true) true Try.f3.params.toList args.toList ds p := hA0
  rw [Try.params3] at hA hval
  obtain ⟨v0, vs0, d0, ds0, p0, q0, hargs, rfl, rfl, h0, r0⟩ := trodAll_cons hA
  obtain ⟨rfl, rfl, rfl⟩ := trodAll_nil r0
  obtain rfl : args = #[v0] := by cases args; simp_all
  obtain ⟨rfl, rfl⟩ := trodVars_none hV
  obtain ⟨l1, wl1, hl1⟩ := open_raws (hval 0 22 v0 rfl rfl) h0
  refine (walk l1 wl1 v0 W hl1).mono fun e W' ⟨he, hN⟩ => ?_
  subst he
  exact ⟨_, rfl, law_post laidOut (by kernel_rfl) (by kernel_rfl) Try.underlying4 rfl hW' rfl hN⟩

theorem holds : Rows.CoinSumSaid :=
  OpenClaim.holds_of_wide 3 Try.f3 rfl rfl rfl rfl rfl rfl rfl ⟨rfl, rfl, rfl, rfl, rfl⟩ rfl rfl rfl rfl rfl (by kernel_rfl) Try.func3 (by kernel_rfl)
    (of_decide_eq_true (by kernel_rfl)) (by unfold Func.isWrapper; first | (rw [if_pos (by decide +kernel)]; kernel_rfl) | (rw [if_neg (by decide +kernel)]; exact ⟨rfl, rfl⟩))
    (fun os started H enc _ => lifted os started H enc)

#print axioms holds
end Go.Proofs.Ythbkfohdphfgaaa.coinSum
