/- GateOnce: what has come does not come again as long as it is known. No conditions. -/
import Derived.Test.YtnlacdclnhoghaaGate6
import Derived.Test.YtnlacdclnhoghaaRowS
namespace Go.Proofs.Ytnlacdclnhoghaa.gateOnce
open Go.ChangeShapes Go.WideShapes Go.RowKit Go.Joins Go.Lib Go.IntWalk
set_option linter.unusedVariables false
open Go.Proofs.Ytnlacdclnhoghaa
set_option maxRecDepth 100000
set_option maxHeartbeats 32000000 in
theorem pur (k a b : Int) (s : ByteArray) (l : List RawT) (which : Int) : Pur Try.prog 6 [.agg [.int .i64 k, .int .i64 a, .int .i64 b, .str s], .slice .frozen l.length (rws l), .int .i64 which] (.bool true) := by
  have hgo := gateOf_ok k a b s
  have hgt := gateTells_ok
  have hst := gof_start a b
  have hl40 : (l.take 30).length ≤ 40 := by rw [List.length_take]; omega
  have hop := pur_upl (opened_ok (gofG a b) hst l 30 (by decide) _ rfl) (.cons ((gofG a b).ups0 hst) (.cons (.refl _) (.cons (.refl _) .nil)))
  have hinv := opn_inv (gofG a b) hst (l.take 30) _ (Nat.le_refl _) hl40
  generalize gofG a b = g at *
  generalize opn g (l.take 30) (l.take 30).length = t at *
  have hok := hinv.ok
  have hpz := qs_len t.g.past
  have hqz := qs_len t.g.queue
  have hap := qs_app t.g.past t.g.queue
  have hac := qs_cut (t.g.past ++ t.g.queue)
  have hal := qs_len (t.g.past ++ t.g.queue)
  have hnl : (t.g.past ++ t.g.queue).length = t.g.past.length + t.g.queue.length := List.length_append
  have hp40 := hok.plen
  have hq40 := hok.qlen
  have gcut : ∀ (l0 l1 l2 b0 b1 b2 now : D) (p q : D) ze, cut ⟨true, 9, ze⟩ 0 [l0, l1, l2, b0, b1, b2, now, p, q] = some (.agg [l0, l1, l2, b0, b1, b2, now, p, q]) := fun _ _ _ _ _ _ _ _ _ _ => rfl
  have hof : ∀ q ∈ t.g.past ++ t.g.queue, Pur Try.prog 17 [.agg t.g.cells, .int .i64 (q.id : Int), .int .i64 (q.val : Int), .int .i64 (q.ch : Int)] (.tup [.agg g0C, .bool false, .int .i64 8]) := fun q hq => by
    have he := hok.each q hq
    refine Offer_ok t.g hok q.id q.val q.ch he.2.2.2 he.1 he.2.1 _ ?_
    unfold offerD
    rw [if_pos (has_yes hq rfl)]
  unfold GT.cells gC qD at hof hop
  unfold GT.cells0 at hgo hop
  unfold g0C gC at hof
  generalize hnp : t.g.past.length = np at *
  generalize hnq : t.g.queue.length = nq at *
  generalize qsC t.g.past = zp at *
  generalize qsC t.g.queue = zq at *
  generalize t.g.past ++ t.g.queue = all at *
  obtain ⟨na, hna⟩ : ∃ n, all.length = n := ⟨_, rfl⟩
  rw [hna] at hal hnl
  have hp1 : np * 4 = zp.length := hpz.symm
  have hq1 : nq * 4 = zq.length := hqz.symm
  have ha1 : na * 4 = (qsC all).length := hal.symm
  have h0np : 0 + np = np := Nat.zero_add _
  have hsm0 : 0 + np ≤ 16777216 := by omega
  have hsm : np + nq ≤ 16777216 := by omega
  have hsum : np + nq = na := hnl.symm
  have hzz := hap.symm
  generalize qsC all = za at *
  by_cases h0 : na = 0
  · refine pur_intro Try.func6 rfl Try.ntmps6 rfl (by first | rfl | assumption | exact bs_cl _) fun B => ?_
    repeat (first | with_reducible (first | refine W_seq ?_ | refine q_then ?_ | refine q_thenr ?_ | refine q_thenx ?_ | refine W_block ?_ | refine q_block ?_ | refine q_blockr ?_ | refine q_blockx ?_ | refine W_ret ?_ | refine W_skip ?_ | refine W_label ?_ | refine W_exit ?_ | refine W_scope ?_ | refine q_scope ?_ | refine q_scoper ?_ | refine q_scopex ?_) | (with_reducible refine R_nil ?_; try dsimp only [slots0, slots_ud, cells_U, agg_ud, drop0, dropS, takeS, take0, ud_nil, take_ud, take_ud0, drop_ud, drop_ud0, take_udk, D.cells, D.fz, D.fzs, List.take_succ_cons, List.take_zero, List.drop_succ_cons, List.drop_zero, List.cons_append, List.nil_append, List.append_eq, List.length_cons, List.length_nil, Nat.reduceAdd, Nat.reduceMul, Nat.reduceSub, Int.reduceAdd, Int.reduceSub, Int.reduceToNat, Int.reduceNeg, Int.reduceMul]) | refine q_blocky rfl ?_ | refine W_plain rfl ?_ | refine W_drawn mixed rfl ?_ | refine and_chk (by kernel_rfl) ?_ | refine k_load rfl rfl rfl (gcut _ _ _ _ _ _ _ _ _ _) ?_ | (refine k_append rfl rfl rfl ?_ rfl hp1 rfl hsm0 rfl h0np (List.nil_append _) ?_; (rfl)) | (refine k_append rfl rfl rfl ?_ hp1 hq1 rfl hsm rfl hsum (by exact hzz) ?_; (rfl)) | refine k_move rfl rfl ?_ | refine k_assign rfl rfl ?_ | refine k_load rfl rfl rfl rfl ?_ | refine k_alloc rfl ?_ | refine k_box rfl rfl rfl ?_ | refine k_store rfl rfl rfl rfl rfl rfl rfl ?_ | refine k_extract rfl rfl rfl ?_ | refine k_fieldAddr rfl rfl rfl ?_ | refine k_call rfl hgo rfl rfl rfl rfl ?_ | refine k_call rfl hop rfl rfl rfl rfl ?_ | refine k_call rfl hgt rfl rfl rfl rfl ?_ | (refine k_append rfl rfl rfl ?_ ?_ ?_ rfl ?_ rfl rfl rfl ?_; (first | rfl | exact trivial | (show 0 < _; omega)); (first | rfl | (simp <;> omega)); (first | rfl | (simp <;> omega)); (omega)) | (refine k_slice rfl rfl rfl rfl ⟨?_, ?_, ?_⟩ rfl rfl rfl ?_; (omega); (omega); (omega)) | (refine k_slice3 rfl rfl rfl rfl rfl ⟨?_, ?_, ?_⟩ rfl rfl rfl ?_; (omega); (omega); (omega)) | (refine k_sliceA rfl rfl rfl rfl ⟨?_, ?_, ?_, ?_⟩ rfl rfl ?_; (omega); (omega); (omega); (omega)) | (refine k_sliceE rfl rfl rfl rfl ⟨?_, ?_, ?_, ?_⟩ rfl rfl rfl rfl ?_; (omega); (omega); (omega); (omega)) | refine k_buildSlice (cs := []) rfl rfl rfl rfl rfl rfl rfl ?_ | refine k_buildSlice rfl rfl rfl rfl rfl rfl rfl ?_ | (refine k_indexAddr rfl rfl rfl ⟨?_, ?_⟩ ?_; (omega); (omega)) | (refine k_indexAddrs rfl rfl rfl ⟨?_, ?_⟩ rfl ?_; (omega); (omega)) | refine k_loade rfl rfl rfl ?_ | refine k_fieldAddre rfl rfl rfl rfl ?_ | refine k_len rfl rfl ?_ | refine k_pickT rfl rfl rfl ?_ | refine k_pickF rfl rfl rfl ?_ | refine k_not rfl rfl rfl ?_ | (refine k_eqlT rfl rfl rfl ?_ ?_; (omega)) | (refine k_eqlF rfl rfl rfl ?_ ?_; (omega)) | refine k_eqa rfl rfl rfl rfl rfl rfl ?_ | refine k_skip rfl ?_ | refine k_skip0 rfl ?_ | refine k_pick rfl rfl rfl rfl rfl ?_ | refine W_yes rfl ?_ | refine W_no rfl ?_)
    (first | with_reducible refine q_endr ?_ | with_reducible refine q_endn ?_); refine rets1 Try.results6 (by first | exact RetV.tmp _ _ rfl | exact RetV.cell _ _ _ _ _ _ _ _ inferInstance rfl rfl rfl) ?_
    rfl
  · obtain ⟨c, ec, hc⟩ : ∃ c : Nat, which % (na : Int) = c ∧ c < na := ⟨(which % (na : Int)).toNat, by have := Int.emod_nonneg which (show (na : Int) ≠ 0 by omega); omega, by have := Int.emod_lt_of_pos which (show (0 : Int) < na by omega); have := Int.emod_nonneg which (show (na : Int) ≠ 0 by omega); omega⟩
    have pc := p_picked which na c (by omega) (by omega) ec
    obtain ⟨q, hq⟩ : ∃ q, all[c]? = some q := ⟨_, List.getElem?_eq_getElem (by omega)⟩
    have hcq := hac c q hq
    have hf := hof q (List.mem_of_getElem? hq)
    clear hof hac
    obtain ⟨qi, qv, qc, qa⟩ := q
    dsimp only at *
    refine pur_intro Try.func6 rfl Try.ntmps6 rfl (by first | rfl | assumption | exact bs_cl _) fun B => ?_
    repeat (first | with_reducible (first | refine W_seq ?_ | refine q_then ?_ | refine q_thenr ?_ | refine q_thenx ?_ | refine W_block ?_ | refine q_block ?_ | refine q_blockr ?_ | refine q_blockx ?_ | refine W_ret ?_ | refine W_skip ?_ | refine W_label ?_ | refine W_exit ?_ | refine W_scope ?_ | refine q_scope ?_ | refine q_scoper ?_ | refine q_scopex ?_) | (with_reducible refine R_nil ?_; try dsimp only [slots0, slots_ud, cells_U, agg_ud, drop0, dropS, takeS, take0, ud_nil, take_ud, take_ud0, drop_ud, drop_ud0, take_udk, D.cells, D.fz, D.fzs, List.take_succ_cons, List.take_zero, List.drop_succ_cons, List.drop_zero, List.cons_append, List.nil_append, List.append_eq, List.length_cons, List.length_nil, Nat.reduceAdd, Nat.reduceMul, Nat.reduceSub, Int.reduceAdd, Int.reduceSub, Int.reduceToNat, Int.reduceNeg, Int.reduceMul]) | refine q_blocky rfl ?_ | refine W_plain rfl ?_ | refine W_drawn mixed rfl ?_ | refine and_chk (by kernel_rfl) ?_ | refine k_load rfl rfl rfl (gcut _ _ _ _ _ _ _ _ _ _) ?_ | (refine k_append rfl rfl rfl ?_ rfl hp1 rfl hsm0 rfl h0np (List.nil_append _) ?_; (rfl)) | (refine k_append rfl rfl rfl ?_ hp1 hq1 rfl hsm rfl hsum (by exact hzz) ?_; (rfl)) | (refine k_indexAddrs rfl rfl rfl ⟨?_, ?_⟩ ha1 ?_; (omega); (omega)) | refine k_loade rfl rfl (hcq _) ?_ | refine k_move rfl rfl ?_ | refine k_assign rfl rfl ?_ | refine k_load rfl rfl rfl rfl ?_ | refine k_alloc rfl ?_ | refine k_box rfl rfl rfl ?_ | refine k_store rfl rfl rfl rfl rfl rfl rfl ?_ | refine k_extract rfl rfl rfl ?_ | refine k_fieldAddr rfl rfl rfl ?_ | refine k_call rfl hgo rfl rfl rfl rfl ?_ | refine k_call rfl hop rfl rfl rfl rfl ?_ | refine k_call rfl hgt rfl rfl rfl rfl ?_ | refine k_call rfl pc rfl rfl rfl rfl ?_ | refine k_call rfl hf rfl rfl rfl rfl ?_ | (refine k_append rfl rfl rfl ?_ ?_ ?_ rfl ?_ rfl rfl rfl ?_; (first | rfl | exact trivial | (show 0 < _; omega)); (first | rfl | (simp <;> omega)); (first | rfl | (simp <;> omega)); (omega)) | (refine k_slice rfl rfl rfl rfl ⟨?_, ?_, ?_⟩ rfl rfl rfl ?_; (omega); (omega); (omega)) | (refine k_slice3 rfl rfl rfl rfl rfl ⟨?_, ?_, ?_⟩ rfl rfl rfl ?_; (omega); (omega); (omega)) | (refine k_sliceA rfl rfl rfl rfl ⟨?_, ?_, ?_, ?_⟩ rfl rfl ?_; (omega); (omega); (omega); (omega)) | (refine k_sliceE rfl rfl rfl rfl ⟨?_, ?_, ?_, ?_⟩ rfl rfl rfl rfl ?_; (omega); (omega); (omega); (omega)) | refine k_buildSlice (cs := []) rfl rfl rfl rfl rfl rfl rfl ?_ | refine k_buildSlice rfl rfl rfl rfl rfl rfl rfl ?_ | (refine k_indexAddr rfl rfl rfl ⟨?_, ?_⟩ ?_; (omega); (omega)) | (refine k_indexAddrs rfl rfl rfl ⟨?_, ?_⟩ rfl ?_; (omega); (omega)) | refine k_loade rfl rfl rfl ?_ | refine k_fieldAddre rfl rfl rfl rfl ?_ | refine k_len rfl rfl ?_ | refine k_pickT rfl rfl rfl ?_ | refine k_pickF rfl rfl rfl ?_ | refine k_not rfl rfl rfl ?_ | (refine k_eqlT rfl rfl rfl ?_ ?_; (omega)) | (refine k_eqlF rfl rfl rfl ?_ ?_; (omega)) | refine k_eqa rfl rfl rfl rfl rfl rfl ?_ | refine k_skip rfl ?_ | refine k_skip0 rfl ?_ | refine k_pick rfl rfl rfl rfl rfl ?_ | refine W_yes rfl ?_ | refine W_no rfl ?_)
    (first | with_reducible refine q_endr ?_ | with_reducible refine q_endn ?_); refine rets1 Try.results6 (by first | exact RetV.tmp _ _ rfl | exact RetV.cell _ _ _ _ _ _ _ _ inferInstance rfl rfl rfl) ?_
    rfl
theorem walk {w : World} {v : Value} (l : List RawT) (hok : ∀ x ∈ l, x.ok) (hr : Rep (bare (allhw w)) w (.slice .frozen l.length (rws l)) v) (k a b which : Int) (s : ByteArray) : Calls Try.prog 6 #[.agg #[.int .i64 k, .int .i64 a, .int .i64 b, .string s], v, .int .i64 which] w fun e w' => e = .returned (.bool true) ∧ New w w' :=
  calls_of_purS (pur k a b s l which) (.cons (rep_raw _ _ _ _ _ _) (.cons hr (.cons (.int _ _) .nil)))

set_option maxRecDepth 100000 in
theorem lifted (os : Os) (started : os.Started) (H : Type) (enc : TypeId × Value → H) :
    ReturnsInHanded {} Try.checked os 6 .any (Rows.gateOnceSpec.pre6 enc Try.prog Try.f6 Rows.gateOnceRow.domain false) (Rows.gateOnceSpec.post enc Try.prog Try.f6 false true false false) := by
  refine returnsInHanded_of_change (C := Try.checked) own started (by kernel_rfl) Try.func6
    (ChangeSpec.witness6 (enc := enc) (C := Try.checked) false ⟨#[], #[.agg #[.int .i64 0, .int .i64 0, .int .i64 0, .string ⟨#[]⟩], .slice none 0 0, .int .i64 0], []⟩ 8 (by kernel_rfl) (by kernel_rfl) (by kernel_rfl) (by kernel_rfl)) ?_
  intro W base args ds gs before hval0 hW hcnd _
  have hval : ∀ (j : Nat) t v, Try.f6.params[j]? = some t → args[j]? = some v → Value.okWide Try.prog W .any base t v := hval0
  have hW' := hW
  obtain ⟨p, q, hA0, hV, rfl, hfz, hnd⟩ := hW
  have hA : DataW.TrodAll enc Try.prog W 0 (fun _ => true) true Try.f6.params.toList args.toList ds p := hA0
  rw [Try.params6] at hA hval
  obtain ⟨v0, vs0, d0, ds0, p0, q0, hargs, rfl, rfl, h0, r0⟩ := trodAll_cons hA
  obtain ⟨v1, vs1, d1, ds1, p1, q1, rfl, rfl, rfl, h1, r1⟩ := trodAll_cons r0
  obtain ⟨v2, vs2, d2, ds2, p2, q2, rfl, rfl, rfl, h2, r2⟩ := trodAll_cons r1
  obtain ⟨rfl, rfl, rfl⟩ := trodAll_nil r2
  obtain rfl : args = #[v0, v1, v2] := by cases args; simp_all
  obtain ⟨rfl, rfl⟩ := trodVars_none hV
  obtain ⟨k1, a1, b1, s1, rfl, wk1, wa1, wb1, ws1⟩ := open_raw (hval 0 36 v0 rfl rfl) h0
  obtain ⟨l2, wl2, hl2⟩ := open_raws (hval 1 22 v1 rfl rfl) h1
  obtain ⟨n3, rfl, rfl, rfl, wn3⟩ := open_int Try.underlying3 (hval 2 3 v2 rfl rfl) h2
  refine (walk l2 wl2 hl2 k1 a1 b1 n3 s1).mono fun e W' ⟨he, hN⟩ => ?_
  subst he
  exact ⟨_, rfl, law_post laidOut (by kernel_rfl) (by kernel_rfl) Try.underlying4 rfl hW' rfl hN⟩

theorem holds : Rows.GateOnceSaid :=
  OpenClaim.holds_of_wide 6 Try.f6 rfl rfl rfl rfl rfl rfl rfl ⟨rfl, rfl, rfl, rfl, rfl⟩ rfl rfl rfl rfl rfl (by kernel_rfl) Try.func6 (by kernel_rfl)
    (of_decide_eq_true (by kernel_rfl)) (by unfold Func.isWrapper; first | (rw [if_pos (by decide +kernel)]; kernel_rfl) | (rw [if_neg (by decide +kernel)]; exact ⟨rfl, rfl⟩))
    (fun os started H enc _ => lifted os started H enc)

#print axioms holds
end Go.Proofs.Ytnlacdclnhoghaa.gateOnce
