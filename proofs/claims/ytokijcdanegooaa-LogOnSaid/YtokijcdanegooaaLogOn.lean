/- LogOn: a mended log goes on as if nothing had been. No conditions. -/
import Derived.Test.YtokijcdanegooaaLog5
import Derived.ChangeMaps5
namespace Go.Proofs.Ytokijcdanegooaa.logOn
open Go.ChangeMaps Go.ChangeShapes Go.WideShapes Go.RowKit Go.Joins
set_option linter.unusedVariables false
open Go.Proofs.Ytokijcdanegooaa
set_option maxRecDepth 100000
--nrm lg_all lgn_all rt_all

theorem same_ok' (l : List By) (hl : l.length ≤ 10000) (d : D) (hd : d = .slice .frozen l.length (rcs l)) : Pur Try.prog 20 [.slice .frozen l.length (rcs l), d] (.bool true) := by
  subst hd; exact same_ok l hl
set_option maxHeartbeats 16000000 in
theorem pur (l : List RawT) (hok : ∀ r ∈ l, r.ok) (keep : Int) (more : ByteArray) : Pur Try.prog 7 [.slice .frozen l.length (rws l), .int .i64 keep, .str more] (.bool true) := by
  obtain ⟨x, hx⟩ : ∃ x, wst (l.take 20) = x := ⟨_, rfl⟩
  have lo := logged_ok l hok x hx
  have hw := wst_ok (l.take 20)
  rw [hx] at hw
  have h20 : (l.take 20).length ≤ 20 := by rw [List.length_take]; omega
  have hlen := wab_len hw
  have hwl := hw.len
  obtain ⟨k, hk⟩ : ∃ k : Nat, keep % ((wb x).length + 1 : Int) = k := ⟨(keep % ((wb x).length + 1 : Int)).toNat, by
    have := Int.emod_nonneg keep (show ((wb x).length + 1 : Int) ≠ 0 by omega)
    omega⟩
  have hkb : k ≤ (wb x).length := by
    have := Int.emod_lt_of_pos keep (show (0 : Int) < (wb x).length + 1 by omega)
    omega
  have pk := p_picked keep ((wb x).length + 1 : Int) k (by omega) (by omega) hk
  have cr := Crash_at (wa x) (wb x) (by omega) k hkb
  obtain ⟨t, ht1, ht2, ho, htk⟩ := opn_fall hw k
  have hcl : (wa x ++ (wb x).take k).length ≤ 9000 := by rw [List.length_append, List.length_take]; omega
  have hle := opn_le _ (wa x ++ (wb x).take k) (Nat.le_refl _)
  rw [ho] at hle
  have of := pur_ups (Open_ok (wa x ++ (wb x).take k) [] (by simpa using hcl) (x.1.take t) (cat8 (x.1.take t)).length (by rw [List.append_nil]; exact ho)) (.cons (.agg_ (lgn_ups _)) .nil)
  have me := pur_ups (Mend_ok (wa x ++ (wb x).take k) hcl _ _ ho) (.cons (.agg_ (lgn_ups _)) .nil)
  rw [htk] at me
  have hGs : ∀ r ∈ x.1.take t, r.length ≤ 40 := fun r hr => hw.small r (List.mem_of_mem_take hr)
  have hG20 : (x.1.take t).length ≤ 20 := by rw [List.length_take]; omega
  generalize x.1.take t = G at *
  generalize wa x ++ (wb x).take k = c at *
  generalize wa x = a at *
  generalize wb x = b at *
  generalize x.1 = w at *
  generalize x.2 = sy at *
  have hdl := cat8_le G hGs
  obtain ⟨s', hs1, ct⟩ := cut_at more
  have htl := txt_len more
  generalize txt more = tx at *
  have oc := opn_cat G [] (fun r hr => by have := hGs r hr; omega)
  rw [opn_stop [] (.inl (by decide)), List.append_nil, List.append_nil] at oc
  have on_ := opn_cat G (rec8 tx) (fun r hr => by have := hGs r hr; omega)
  have orr := opn_rec tx [] (by omega)
  rw [List.append_nil, opn_stop [] (.inl (by decide))] at orr
  rw [orr] at on_
  have hL : (G ++ [tx]).length ≤ 10000 := by simp; omega
  have lG := rcs_len G
  have eL : D.slice .frozen (0 + G.length + 1) (rcs G ++ [.slice .frozen tx.length (bs tx)]) = .slice .frozen (G ++ [tx]).length (rcs (G ++ [tx])) := by
    rw [Nat.zero_add, List.length_append]; simp [rcs]
  have sm := same_ok' (G ++ [tx]) hL _ eL
  have hlr := rec8_len tx
  generalize hd : cat8 G = d at *
  have ap := pur_ups (Append_ok d [] tx (by omega) (by simp; omega)) (.cons (.agg_ (lgn_ups _)) (.cons (.refl _) .nil))
  rw [List.nil_append] at ap
  have tw := pur_ups (Mend_ok d (by omega) G d.length oc) (.cons (.agg_ (lgn_ups _)) .nil)
  rw [List.take_length] at tw
  have op := Open_ok d (rec8 tx) (by omega) (G ++ [tx]) (d.length + (tx.length + 3 + 0)) on_
  have mn := Mend_no d (rec8 tx) (by omega)
  generalize rec8 tx = rc at *
  have hq : ((⟨d.toArray⟩ : ByteArray).toList == (⟨d.toArray⟩ : ByteArray).toList) = true := by simp
  generalize G ++ [tx] = L at *
  refine pur_intro Try.func7 rfl Try.ntmps7 rfl rfl fun B => ?_
  repeat (first | with_reducible refine W_seq ?_ | with_reducible refine q_then ?_ | with_reducible refine q_thenr ?_ | with_reducible refine q_thenx ?_ | with_reducible refine W_block ?_ | with_reducible refine q_block ?_ | with_reducible refine q_blockr ?_ | with_reducible refine q_blockx ?_ | with_reducible refine W_ret ?_ | with_reducible refine W_skip ?_ | with_reducible refine W_label ?_ | with_reducible refine W_exit ?_ | with_reducible refine W_scope ?_ | with_reducible refine q_scope ?_ | with_reducible refine q_scoper ?_ | with_reducible refine q_scopex ?_ | (with_reducible refine R_nil ?_; try dsimp only [slots0, slots_ud, lg_all, lgn_all, rt_all, cells_U, agg_ud, drop0, dropS, takeS, take0, ud_nil, take_ud, take_ud0, drop_ud, drop_ud0, take_udk, D.cells, D.fz, D.fzs, List.take_succ_cons, List.take_zero, List.drop_succ_cons, List.drop_zero, List.cons_append, List.nil_append, List.append_eq, List.length_cons, List.length_nil, Nat.reduceAdd, Nat.reduceMul, Nat.reduceSub, Int.reduceAdd, Int.reduceSub, Int.reduceToNat, Int.reduceNeg, Int.reduceMul]) | refine q_blocky rfl ?_ | refine W_plain rfl ?_ | refine W_drawn mixed rfl ?_ | refine and_chk (by kernel_rfl) ?_ | refine k_move rfl rfl ?_ | refine k_assign rfl rfl ?_ | refine k_load rfl rfl rfl rfl ?_ | refine k_alloc rfl ?_ | refine k_box rfl rfl rfl ?_ | refine k_store rfl rfl rfl rfl rfl rfl rfl ?_ | refine k_extract rfl rfl rfl ?_ | refine k_fieldAddr rfl rfl rfl ?_ | refine k_field rfl rfl rfl ?_ | refine k_build rfl rfl rfl ?_ | refine k_call rfl lo rfl rfl rfl rfl ?_ | refine k_call rfl pk rfl rfl rfl rfl ?_ | refine k_call rfl cr rfl rfl rfl rfl ?_ | refine k_call rfl of rfl rfl rfl rfl ?_ | refine k_call rfl me rfl rfl rfl rfl ?_ | refine k_call rfl ct rfl rfl rfl rfl ?_ | refine k_call rfl ap rfl rfl rfl rfl ?_ | refine k_call rfl op rfl rfl rfl rfl ?_ | refine k_call rfl tw rfl rfl rfl rfl ?_ | refine k_call rfl mn rfl rfl rfl rfl ?_ | refine k_call rfl p_ltells rfl rfl rfl rfl ?_ | refine k_call rfl sm rfl rfl rfl rfl ?_ | refine k_s2b rfl Try.underlying9 Try.underlying5 rfl hs1 rfl ?_ | refine k_b2s rfl Try.underlying9 Try.underlying5 rfl rfl ?_ | refine k_eqs rfl rfl rfl hq ?_ | refine W_unroll (WL_round ?_) | refine WL_round ?_ | refine k_append rfl rfl rfl (by first | rfl | exact trivial | (show 0 < _; omega)) (by first | rfl | (simp <;> omega)) (by first | rfl | (simp <;> omega)) rfl (by omega) rfl rfl rfl ?_ | refine k_slice rfl rfl rfl rfl ⟨by omega, by omega, by omega⟩ rfl rfl rfl ?_ | refine k_slice3 rfl rfl rfl rfl rfl ⟨by omega, by omega, by omega⟩ rfl rfl rfl ?_ | refine k_sliceA rfl rfl rfl rfl ⟨by omega, by omega, by omega, by omega⟩ rfl rfl ?_ | refine k_sliceE rfl rfl rfl rfl ⟨by omega, by omega, by omega, by omega⟩ rfl rfl rfl rfl ?_ | refine k_buildSlice (cs := []) rfl rfl rfl rfl rfl rfl rfl ?_ | refine k_buildSlice rfl rfl rfl rfl rfl rfl rfl ?_ | refine k_indexAddr rfl rfl rfl ⟨by omega, by omega⟩ ?_ | refine k_indexAddrs rfl rfl rfl ⟨by omega, by omega⟩ rfl ?_ | refine k_index rfl rfl rfl ⟨by omega, by omega⟩ rfl ?_ | refine k_loade rfl rfl rfl ?_ | refine k_fieldAddre rfl rfl rfl rfl ?_ | refine k_len rfl rfl ?_ | refine k_nilCheck rfl rfl rfl ?_ | refine k_pickT rfl rfl rfl ?_ | refine k_pickF rfl rfl rfl ?_ | refine k_addi rfl rfl rfl (by omega) ?_ | refine k_subi rfl rfl rfl (by omega) ?_ | refine k_negi rfl rfl (by omega) ?_ | refine k_not rfl rfl rfl ?_ | refine k_lssT rfl rfl rfl (by omega) ?_ | refine k_lssF rfl rfl rfl (by omega) ?_ | refine k_leqT rfl rfl rfl (by omega) ?_ | refine k_leqF rfl rfl rfl (by omega) ?_ | refine k_gtrT rfl rfl rfl (by omega) ?_ | refine k_gtrF rfl rfl rfl (by omega) ?_ | refine k_geqT rfl rfl rfl (by omega) ?_ | refine k_geqF rfl rfl rfl (by omega) ?_ | refine k_eqlT rfl rfl rfl (by omega) ?_ | refine k_eqlF rfl rfl rfl (by omega) ?_ | refine k_neqT rfl rfl rfl (by omega) ?_ | refine k_neqF rfl rfl rfl (by omega) ?_ | refine k_eqa rfl rfl rfl rfl rfl rfl ?_ | refine k_nea rfl rfl rfl rfl rfl rfl ?_ | refine k_makeFunc rfl rfl rfl ?_ | refine k_skip rfl ?_ | refine k_skip0 rfl ?_ | refine k_pick rfl rfl rfl rfl rfl ?_ | refine W_yes rfl ?_ | refine W_no rfl ?_)
  (first | with_reducible refine q_endr ?_ | with_reducible refine q_endn ?_); refine rets1 Try.results7 (by first | exact RetV.tmp _ _ rfl | exact RetV.cell _ _ _ _ _ _ _ _ inferInstance rfl rfl rfl) ?_
  rfl

theorem walk (l : List RawT) (hok : ∀ r ∈ l, r.ok) (keep : Int) (s : ByteArray) (v : Value) (w : World) (hr : Rep (bare (allhw w)) w (.slice .frozen l.length (rws l)) v) : Calls Try.prog 7 #[v, .int .i64 keep, .string s] w fun e w' => e = .returned (.bool true) ∧ New w w' :=
  calls_of_purS (pur l hok keep s) (.cons hr (.cons (.int _ _) (.cons (.str _) .nil)))

set_option maxRecDepth 100000 in
theorem lifted (os : Os) (started : os.Started) (H : Type) (enc : TypeId × Value → H) :
    ReturnsInHanded {} Try.checked os 7 .any (Rows.logOnSpec.pre6 enc Try.prog Try.f7 Rows.logOnRow.domain false) (Rows.logOnSpec.post enc Try.prog Try.f7 false true false false) := by
  refine returnsInHanded_of_change (C := Try.checked) own started (by kernel_rfl) Try.func7
    (ChangeSpec.witness6 (enc := enc) (C := Try.checked) false ⟨#[], #[.slice none 0 0, .int .i64 0, .string ⟨#[]⟩], []⟩ 8 (by kernel_rfl) (by kernel_rfl) (by kernel_rfl) (by kernel_rfl)) ?_
  intro W base args ds gs before hval0 hW hcnd _
  have hval : ∀ (j : Nat) t v, Try.f7.params[j]? = some t → args[j]? = some v → Value.okWide Try.prog W .any base t v := hval0
  have hW' := hW
  obtain ⟨p, q, hA0, hV, rfl, hfz, hnd⟩ := hW
  have hA : DataW.TrodAll enc Try.prog W 0 (fun _ => true) true Try.f7.params.toList args.toList ds p := hA0
  rw [Try.params7] at hA hval
  obtain ⟨v0, vs0, d0, ds0, p0, q0, hargs, rfl, rfl, h0, r0⟩ := trodAll_cons hA
  obtain ⟨v1, vs1, d1, ds1, p1, q1, rfl, rfl, rfl, h1, r1⟩ := trodAll_cons r0
  obtain ⟨v2, vs2, d2, ds2, p2, q2, rfl, rfl, rfl, h2, r2⟩ := trodAll_cons r1
  obtain ⟨rfl, rfl, rfl⟩ := trodAll_nil r2
  obtain rfl : args = #[v0, v1, v2] := by cases args; simp_all
  obtain ⟨rfl, rfl⟩ := trodVars_none hV
  obtain ⟨l1, wl1, hl1⟩ := open_raws (hval 0 36 v0 rfl rfl) h0
  obtain ⟨n2, rfl, rfl, rfl, wn2⟩ := open_int Try.underlying3 (hval 1 3 v1 rfl rfl) h1
  obtain ⟨s3, rfl, rfl, rfl, ws3⟩ := open_string Try.underlying9 (hval 2 9 v2 rfl rfl) h2
  refine (walk l1 wl1 n2 s3 v0 W hl1).mono fun e W' ⟨he, hN⟩ => ?_
  subst he
  exact ⟨_, rfl, law_post laidOut (by kernel_rfl) (by kernel_rfl) Try.underlying4 rfl hW' rfl hN⟩

theorem holds : Rows.LogOnSaid :=
  OpenClaim.holds_of_wide 7 Try.f7 rfl rfl rfl rfl rfl rfl rfl ⟨rfl, rfl, rfl, rfl, rfl⟩ rfl rfl rfl rfl rfl (by kernel_rfl) Try.func7 (by kernel_rfl)
    (of_decide_eq_true (by kernel_rfl)) (by unfold Func.isWrapper; first | (rw [if_pos (by decide +kernel)]; kernel_rfl) | (rw [if_neg (by decide +kernel)]; exact ⟨rfl, rfl⟩))
    (fun os started H enc _ => lifted os started H enc)

#print axioms holds
end Go.Proofs.Ytokijcdanegooaa.logOn
