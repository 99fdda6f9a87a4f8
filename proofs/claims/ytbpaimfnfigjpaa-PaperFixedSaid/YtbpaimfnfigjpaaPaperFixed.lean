/- PaperFixed: what is read is written just so. No conditions. -/
import Derived.Test.YtbpaimfnfigjpaaPapG
import Derived.Test.YtbpaimfnfigjpaaEnc2
import Derived.Test.YtbpaimfnfigjpaaRowB
import Derived.HandedShaped
namespace Go.Proofs.Ytbpaimfnfigjpaa.paperFixed
open Go.ChangeShapes Go.WideShapes Go.RowKit Go.Joins Go.Lib Go.IntWalk
set_option linter.unusedVariables false
open Go.Proofs.Ytbpaimfnfigjpaa
set_option maxRecDepth 100000

theorem pur_ups {P : Program} {F : FuncId} {ds es : List D} {d : D} (h : Pur P F es d) (u : Ups ds es) : Pur P F ds d := fun w hw vs hg hok hr => h w hw vs hg hok (u.reps hr)
/-- nothing is read out of nothing -/
theorem dec_nil : Pur Try.prog 9 [.slice .frozen 0 []] (.tup [.agg pp0, .int .i64 4]) :=
  Decode_cut ⟨0, [], ⟨0, 0, 0, List.replicate 32 0, 0, 0, []⟩⟩ ⟨Nat.zero_le _, Nat.zero_le _, fun e he => absurd he List.not_mem_nil, ⟨Nat.zero_le _, Nat.zero_le _, Nat.zero_le _, rfl, Nat.zero_le _, Nat.zero_le _, Nat.zero_le _⟩⟩ 0 (by decide)
set_option maxHeartbeats 16000000 in
theorem pur (b : List UInt8) (hb : b.length ≤ 140737488351232) : Pur Try.prog 4 [.slice .frozen b.length (bs b)] (.bool true) := by
  have d0 := pur_ups (ds := [.slice .nil 0 []]) dec_nil (.cons (.nil _) .nil)
  rcases Decode_any b hb with ⟨e, hne, hd⟩ | ⟨q, hq, hqb⟩
  · generalize b.length = L at *
    generalize bs b = z at *
    refine pur_intro Try.func4 rfl Try.ntmps4 rfl (by first | rfl | assumption | exact bs_cl _) fun B => ?_
    repeat (first | with_reducible (first | refine W_seq ?_ | refine q_then ?_ | refine q_thenr ?_ | refine q_thenx ?_ | refine W_block ?_ | refine q_block ?_ | refine q_blockr ?_ | refine q_blockx ?_ | refine W_ret ?_ | refine W_skip ?_ | refine W_label ?_ | refine W_exit ?_ | refine W_scope ?_ | refine q_scope ?_ | refine q_scoper ?_ | refine q_scopex ?_) | (with_reducible refine R_nil ?_; try dsimp only [slots0, slots_ud, cells_U, agg_ud, drop0, dropS, takeS, take0, ud_nil, take_ud, take_ud0, drop_ud, drop_ud0, take_udk, D.cells, D.fz, D.fzs, List.take_succ_cons, List.take_zero, List.drop_succ_cons, List.drop_zero, List.cons_append, List.nil_append, List.append_eq, List.length_cons, List.length_nil, Nat.reduceAdd, Nat.reduceMul, Nat.reduceSub, Int.reduceAdd, Int.reduceSub, Int.reduceToNat, Int.reduceNeg, Int.reduceMul]) | refine q_blocky rfl ?_ | refine W_plain rfl ?_ | refine W_drawn mixed rfl ?_ | refine and_chk (by kernel_rfl) ?_ | refine k_move rfl rfl ?_ | refine k_assign rfl rfl ?_ | refine k_load rfl rfl rfl rfl ?_ | refine k_alloc rfl ?_ | refine k_store rfl rfl rfl rfl rfl rfl rfl ?_ | refine k_extract rfl rfl rfl ?_ | refine k_fieldAddr rfl rfl rfl ?_ | refine k_call rfl d0 rfl rfl rfl rfl ?_ | refine k_call rfl hd rfl rfl rfl rfl ?_ | refine k_append rfl rfl rfl (by first | rfl | exact trivial | (show 0 < _; omega)) (by first | rfl | (simp <;> omega)) (by first | rfl | (simp <;> omega)) rfl (by omega) rfl rfl rfl ?_ | refine k_slice rfl rfl rfl rfl ⟨by omega, by omega, by omega⟩ rfl rfl rfl ?_ | refine k_slice3 rfl rfl rfl rfl rfl ⟨by omega, by omega, by omega⟩ rfl rfl rfl ?_ | refine k_sliceA rfl rfl rfl rfl ⟨by omega, by omega, by omega, by omega⟩ rfl rfl ?_ | refine k_sliceE rfl rfl rfl rfl ⟨by omega, by omega, by omega, by omega⟩ rfl rfl rfl rfl ?_ | refine k_loade rfl rfl rfl ?_ | refine k_fieldAddre rfl rfl rfl rfl ?_ | refine k_len rfl rfl ?_ | refine k_pickT rfl rfl rfl ?_ | refine k_pickF rfl rfl rfl ?_ | refine k_eqlT rfl rfl rfl (by omega) ?_ | refine k_eqlF rfl rfl rfl (by omega) ?_ | refine k_neqT rfl rfl rfl (by omega) ?_ | refine k_neqF rfl rfl rfl (by omega) ?_ | refine k_eqa rfl rfl rfl rfl rfl rfl ?_ | refine k_nea rfl rfl rfl rfl rfl rfl ?_ | refine k_skip rfl ?_ | refine k_skip0 rfl ?_ | refine k_pick rfl rfl rfl rfl rfl ?_ | refine W_yes rfl ?_ | refine W_no rfl ?_)
    (first | with_reducible refine q_endr ?_ | with_reducible refine q_endn ?_); refine rets1 Try.results4 (by first | exact RetV.tmp _ _ rfl | exact RetV.cell _ _ _ _ _ _ _ _ inferInstance rfl rfl rfl) ?_
    rfl
  · obtain ⟨no, hno⟩ : ∃ no, q.out.length = no := ⟨_, rfl⟩
    have he := Encode_ok q hq no hno
    have hd := Decode_out q hq no hno
    rw [← hqb, hno]
    have hbe := hq.b.e
    have hxl := bd_len hbe
    have hxf : D.fzs q.b.cells = q.b.cells := by have := bd_fz q.b; simpa [D.fzs, D.fz] using this
    have hxc : D.cls q.b.cells = true := bd_cls q.b
    have hcp := pp_cl q.set q.sg.length (sgsC q.sg) q.b.cells hxc
    have hct : D.cl (.tup [.agg (.int .i64 q.set :: .slice .frozen q.sg.length (sgsC q.sg) :: q.b.cells), .int .i64 0]) = true := by
      show (D.cls (ppC q.set q.sg.length (sgsC q.sg) q.b.cells) && true) = true
      rw [hcp]; rfl
    have hcx : D.cls [D.agg (.int .i64 q.set :: .slice .frozen q.sg.length (sgsC q.sg) :: q.b.cells)] = true := by
      show (D.cls (ppC q.set q.sg.length (sgsC q.sg) q.b.cells) && true) = true
      rw [hcp]; rfl
    have hfx : D.fzs [D.agg (.int .i64 q.set :: .slice .frozen q.sg.length (sgsC q.sg) :: q.b.cells)] = [D.agg (.int .i64 q.set :: .slice .frozen q.sg.length (sgsC q.sg) :: q.b.cells)] := by
      show [D.agg (_ :: _ :: D.fzs q.b.cells)] = _
      rw [hxf]; rfl
    unfold PapT.cells ppC at he hd
    unfold ppC at hcp
    obtain ⟨z, hz⟩ : ∃ z, q.out = z := ⟨_, rfl⟩
    rw [hz] at he hd hno ⊢
    have hqs : ((ByteArray.mk z.toArray).toList == (ByteArray.mk z.toArray).toList) = true := by simp
    generalize q.b.cells = x at *
    generalize sgsC q.sg = zs at *
    generalize q.sg.length = L at *
    have hwa : ∀ (a c : D) ze, cut ⟨true, 40, ze⟩ 0 (a :: c :: x) = some (.agg (a :: c :: x)) := fun a c ze => wh_all hxl a c ze
    have hwl : ∀ a c : D, (D.agg (a :: c :: x)).cells.length = 40 := fun a c => by show (a :: c :: x).length = 40; simp [hxl]
    have hws : ∀ (a c : D) (cs : List D), cs.length = 40 → splice 0 (a :: c :: x) cs = some (a :: c :: x) := fun a c cs hc => wh_lay hxl a c cs hc
    refine pur_intro Try.func4 rfl Try.ntmps4 rfl (by first | rfl | assumption | exact bs_cl _) fun B => ?_
    repeat (first | with_reducible (first | refine W_seq ?_ | refine q_then ?_ | refine q_thenr ?_ | refine q_thenx ?_ | refine W_block ?_ | refine q_block ?_ | refine q_blockr ?_ | refine q_blockx ?_ | refine W_ret ?_ | refine W_skip ?_ | refine W_label ?_ | refine W_exit ?_ | refine W_scope ?_ | refine q_scope ?_ | refine q_scoper ?_ | refine q_scopex ?_) | (with_reducible refine R_nil ?_; try dsimp only [slots0, slots_ud, cells_U, agg_ud, drop0, dropS, takeS, take0, ud_nil, take_ud, take_ud0, drop_ud, drop_ud0, take_udk, D.cells, D.fz, D.fzs, List.take_succ_cons, List.take_zero, List.drop_succ_cons, List.drop_zero, List.cons_append, List.nil_append, List.append_eq, List.length_cons, List.length_nil, Nat.reduceAdd, Nat.reduceMul, Nat.reduceSub, Int.reduceAdd, Int.reduceSub, Int.reduceToNat, Int.reduceNeg, Int.reduceMul]) | refine q_blocky rfl ?_ | refine W_plain rfl ?_ | refine W_drawn mixed rfl ?_ | refine and_chk (by kernel_rfl) ?_ | refine k_load rfl rfl rfl (by exact hwa _ _ _) ?_ | refine k_store rfl rfl rfl rfl (by exact hwl _ _) rfl (by exact hws _ _ _ rfl) ?_ | refine k_move rfl rfl ?_ | refine k_assign rfl rfl ?_ | refine k_load rfl rfl rfl rfl ?_ | refine k_alloc rfl ?_ | refine k_store rfl rfl rfl rfl rfl rfl rfl ?_ | refine k_extract rfl rfl rfl ?_ | refine k_fieldAddr rfl rfl rfl ?_ | refine k_call rfl d0 rfl rfl rfl rfl ?_ | refine k_call rfl hd rfl rfl rfl hct ?_ | refine k_call rfl he rfl hfx hcx rfl ?_ | refine k_b2s rfl Try.underlying9 Try.underlying5 rfl hno.symm ?_ | refine k_eqs rfl rfl rfl hqs ?_ | refine k_append rfl rfl rfl (by first | rfl | exact trivial | (show 0 < _; omega)) (by first | rfl | (simp <;> omega)) (by first | rfl | (simp <;> omega)) rfl (by omega) rfl rfl rfl ?_ | refine k_slice rfl rfl rfl rfl ⟨by omega, by omega, by omega⟩ rfl rfl rfl ?_ | refine k_slice3 rfl rfl rfl rfl rfl ⟨by omega, by omega, by omega⟩ rfl rfl rfl ?_ | refine k_sliceA rfl rfl rfl rfl ⟨by omega, by omega, by omega, by omega⟩ rfl rfl ?_ | refine k_sliceE rfl rfl rfl rfl ⟨by omega, by omega, by omega, by omega⟩ rfl rfl rfl rfl ?_ | refine k_loade rfl rfl rfl ?_ | refine k_fieldAddre rfl rfl rfl rfl ?_ | refine k_len rfl rfl ?_ | refine k_pickT rfl rfl rfl ?_ | refine k_pickF rfl rfl rfl ?_ | refine k_eqlT rfl rfl rfl (by omega) ?_ | refine k_eqlF rfl rfl rfl (by omega) ?_ | refine k_neqT rfl rfl rfl (by omega) ?_ | refine k_neqF rfl rfl rfl (by omega) ?_ | refine k_eqa rfl rfl rfl rfl rfl rfl ?_ | refine k_nea rfl rfl rfl rfl rfl rfl ?_ | refine k_skip rfl ?_ | refine k_skip0 rfl ?_ | refine k_pick rfl rfl rfl rfl rfl ?_ | refine W_yes rfl ?_ | refine W_no rfl ?_)
    (first | with_reducible refine q_endr ?_ | with_reducible refine q_endn ?_); refine rets1 Try.results4 (by first | exact RetV.tmp _ _ rfl | exact RetV.cell _ _ _ _ _ _ _ _ inferInstance rfl rfl rfl) ?_
    rfl
theorem walk {w : World} {v : Value} (b : List UInt8) (hb : Rep (bare (allhw w)) w (.slice .frozen b.length (bs b)) v) (hl : b.length ≤ 140737488351232) : Calls Try.prog 4 #[v] w fun e w' => e = .returned (.bool true) ∧ New w w' :=
  calls_of_purS (pur b hl) (.cons hb .nil)

set_option maxRecDepth 100000 in
theorem lifted (os : Os) (started : os.Started) (H : Type) (enc : TypeId × Value → H) :
    ReturnsInHanded {} Try.checked os 4 .any (Rows.paperFixedSpec.pre6 enc Try.prog Try.f4 Rows.paperFixedRow.domain false) (Rows.paperFixedSpec.post enc Try.prog Try.f4 false true false false) := by
  refine returnsInHanded_of_change_shaped (C := Try.checked) own started (by kernel_rfl) Try.func4
    (ChangeSpec.witness6 (enc := enc) (C := Try.checked) false ⟨#[], #[.slice none 0 0], []⟩ 8 (by kernel_rfl) (by kernel_rfl) (by kernel_rfl) (by kernel_rfl)) ?_
  intro W base args ds gs before hval0 hW hcnd hwt _ _
  have hval : ∀ (j : Nat) t v, Try.f4.params[j]? = some t → args[j]? = some v → Value.okWide Try.prog W .any base t v := hval0
  have hW' := hW
  obtain ⟨p, q, hA0, hV, rfl, hfz, hnd⟩ := hW
  have hA : DataW.TrodAll enc Try.prog W 0 (fun _ => true) true Try.f4.params.toList args.toList ds p := hA0
  rw [Try.params4] at hA hval
  obtain ⟨v0, vs0, d0, ds0, p0, q0, hargs, rfl, rfl, h0, r0⟩ := trodAll_cons hA
  obtain ⟨rfl, rfl, rfl⟩ := trodAll_nil r0
  obtain rfl : args = #[v0] := by cases args; simp_all
  obtain ⟨rfl, rfl⟩ := trodVars_none hV
  obtain ⟨l1, hl1⟩ := open_bytes (hval 0 27 v0 rfl rfl) h0
  have lb1 := bytes_short h0 hl1 fun x hx => by
    have := List.all_eq_true.1 hwt x (by rw [Try.params4]; exact List.mem_append_left _ hx)
    simpa using this
  refine (walk l1 hl1 lb1).mono fun e W' ⟨he, hN⟩ => ?_
  subst he
  exact ⟨_, rfl, law_post laidOut (by kernel_rfl) (by kernel_rfl) Try.underlying4 rfl hW' rfl hN⟩

theorem holds : Rows.PaperFixedSaid :=
  OpenClaim.holds_of_wide 4 Try.f4 rfl rfl rfl rfl rfl rfl rfl ⟨rfl, rfl, rfl, rfl, rfl⟩ rfl rfl rfl rfl rfl (by kernel_rfl) Try.func4 (by kernel_rfl)
    (of_decide_eq_true (by kernel_rfl)) (by unfold Func.isWrapper; first | (rw [if_pos (by decide +kernel)]; kernel_rfl) | (rw [if_neg (by decide +kernel)]; exact ⟨rfl, rfl⟩))
    (fun os started H enc _ => lifted os started H enc)

#print axioms holds
end Go.Proofs.Ytbpaimfnfigjpaa.paperFixed
