/- TextBack: a number is read as it was shown; with a nought ahead it isn't. No conditions. -/
import Derived.Test.YtcgdcnhggejgbaaParse
import Derived.Test.YtcgdcnhggejgbaaBase
import Derived.Test.YtcgdcnhggejgbaaRow
import Derived.Test.YtcgdcnhggejgbaaLaw
namespace Go.Proofs.Ytcgdcnhggejgbaa.textBack
open Go.ChangeShapes Go.WideShapes Go.RowKit Go.Joins Go.Lib Go.IntWalk
set_option linter.unusedVariables false
open Go.Proofs.Ytcgdcnhggejgbaa
set_option maxRecDepth 100000

theorem num_p (k a b : Int) (s : ByteArray) (x : Nat) (h : num k a b = x) : Pur Try.prog 16 [.agg [.int .i64 k, .int .i64 a, .int .i64 b, .str s]] (U x) :=
  pur_of_calls (vs := [.agg #[.int .i64 k, .int .i64 a, .int .i64 b, .string s]]) rfl rfl rfl fun w => h ▸ number_any k a b s w
set_option maxHeartbeats 8000000 in
theorem pur (k a b : Int) (s : ByteArray) : Pur Try.prog 12 [.agg [.int .i64 k, .int .i64 a, .int .i64 b, .str s]] (.bool true) := by
  have n1 := num_p k a b s _ rfl
  have hx := num_lt k a b
  generalize num k a b = x at *
  have sh := Show_ok x hx
  have hnum := dec_num x
  have hval := dec_val x
  have hlen := dec_len x hx
  obtain ⟨l, hl⟩ : ∃ l, dec x = l := ⟨_, rfl⟩
  rw [hl] at sh hnum hval hlen
  obtain ⟨hn1, hn2, hn3⟩ := hnum
  have hp := Parse_ok ⟨l.toArray⟩ l (by simp) l.length rfl hlen hn2 hn3
  unfold read at hp
  rw [if_pos (show isNum l from hn1), hval, if_pos hx] at hp
  have hsz : (ByteArray.mk l.toArray).size = l.length := by show l.toArray.size = _; simp
  obtain ⟨t, ht⟩ : ∃ t, (ByteArray.mk #[48]) ++ (ByteArray.mk l.toArray) = t := ⟨_, rfl⟩
  have htd : t.data.toList = 48 :: l := by rw [← ht]; simp
  have htl : t.size = l.length + 1 := by
    have := congrArg List.length htd
    rw [Array.length_toList] at this
    exact this
  have dq := deqs_ud x x hx hx
  simp only [decide_true] at dq
  have hs1 : (ByteArray.mk #[48]).size = 1 := rfl
  have hl1 : 1 ≤ l.length := by
    cases l with
    | nil => exact absurd rfl hn2
    | cons a l => exact Nat.succ_pos _
  have hcase : l.length = 78 ∨ l.length < 78 := by omega
  have hcat : (ByteArray.mk #[48]).size + (ByteArray.mk l.toArray).size ≤ 9223372036854775807 := by rw [hsz, hs1]; omega
  rcases hcase with hc | hc
  · have hq := Parse_long t (by omega)
    clear hn1 hn3 hval
    generalize ByteArray.mk l.toArray = st at *
    refine pur_intro Try.func12 rfl Try.ntmps12 rfl (by first | rfl | assumption | exact bs_cl _) fun B => ?_
    repeat (first | with_reducible (first | refine W_seq ?_ | refine q_then ?_ | refine q_thenr ?_ | refine q_thenx ?_ | refine W_block ?_ | refine q_block ?_ | refine q_blockr ?_ | refine q_blockx ?_ | refine W_ret ?_ | refine W_skip ?_ | refine W_label ?_ | refine W_exit ?_ | refine W_scope ?_ | refine q_scope ?_ | refine q_scoper ?_ | refine q_scopex ?_) | (with_reducible refine R_nil ?_; try dsimp only [slots0, slots_ud, cells_U, agg_ud, drop0, dropS, takeS, take0, ud_nil, take_ud, take_ud0, drop_ud, drop_ud0, take_udk, D.cells, D.fz, D.fzs, List.take_succ_cons, List.take_zero, List.drop_succ_cons, List.drop_zero, List.cons_append, List.nil_append, List.append_eq, List.length_cons, List.length_nil, Nat.reduceAdd, Nat.reduceMul, Nat.reduceSub, Int.reduceAdd, Int.reduceSub, Int.reduceToNat, Int.reduceNeg, Int.reduceMul]) | refine q_blocky rfl ?_ | refine W_plain rfl ?_ | refine W_drawn mixed rfl ?_ | refine and_chk (by kernel_rfl) ?_ | refine k_cats rfl rfl rfl hcat ht ?_ | refine k_move rfl rfl ?_ | refine k_assign rfl rfl ?_ | refine k_load rfl rfl rfl rfl ?_ | refine k_alloc rfl ?_ | refine k_box rfl rfl rfl ?_ | refine k_store rfl rfl rfl rfl rfl rfl rfl ?_ | refine k_extract rfl rfl rfl ?_ | refine k_call rfl n1 rfl rfl rfl rfl ?_ | refine k_call rfl sh rfl rfl rfl rfl ?_ | refine k_call rfl hp rfl rfl rfl rfl ?_ | refine k_call rfl hq rfl rfl rfl rfl ?_ | refine k_eqa rfl rfl rfl rfl rfl dq ?_ | refine k_lens rfl Try.underlying9 rfl ?_ | refine k_append rfl rfl rfl (by first | rfl | exact trivial | (show 0 < _; omega)) (by first | rfl | (simp <;> omega)) (by first | rfl | (simp <;> omega)) rfl (by omega) rfl rfl rfl ?_ | refine k_slice rfl rfl rfl rfl ⟨by omega, by omega, by omega⟩ rfl rfl rfl ?_ | refine k_slice3 rfl rfl rfl rfl rfl ⟨by omega, by omega, by omega⟩ rfl rfl rfl ?_ | refine k_sliceA rfl rfl rfl rfl ⟨by omega, by omega, by omega, by omega⟩ rfl rfl ?_ | refine k_sliceE rfl rfl rfl rfl ⟨by omega, by omega, by omega, by omega⟩ rfl rfl rfl rfl ?_ | refine k_loade rfl rfl rfl ?_ | refine k_len rfl rfl ?_ | refine k_pickT rfl rfl rfl ?_ | refine k_pickF rfl rfl rfl ?_ | refine k_addi rfl rfl rfl (by omega) ?_ | refine k_eqlT rfl rfl rfl (by omega) ?_ | refine k_eqlF rfl rfl rfl (by omega) ?_ | refine k_eqa rfl rfl rfl rfl rfl rfl ?_ | refine k_skip rfl ?_ | refine k_skip0 rfl ?_ | refine k_pick rfl rfl rfl rfl rfl ?_ | refine W_yes rfl ?_ | refine W_no rfl ?_)
    (first | with_reducible refine q_endr ?_ | with_reducible refine q_endn ?_); refine rets1 Try.results12 (by first | exact RetV.tmp _ _ rfl | exact RetV.cell _ _ _ _ _ _ _ _ inferInstance rfl rfl rfl) ?_
    rfl
  · have hq := Parse_form t (48 :: l) htd (l.length + 1) rfl (by omega) (.inr ⟨by omega, rfl⟩)
    clear hn1 hn3 hval
    generalize ByteArray.mk l.toArray = st at *
    refine pur_intro Try.func12 rfl Try.ntmps12 rfl (by first | rfl | assumption | exact bs_cl _) fun B => ?_
    repeat (first | with_reducible (first | refine W_seq ?_ | refine q_then ?_ | refine q_thenr ?_ | refine q_thenx ?_ | refine W_block ?_ | refine q_block ?_ | refine q_blockr ?_ | refine q_blockx ?_ | refine W_ret ?_ | refine W_skip ?_ | refine W_label ?_ | refine W_exit ?_ | refine W_scope ?_ | refine q_scope ?_ | refine q_scoper ?_ | refine q_scopex ?_) | (with_reducible refine R_nil ?_; try dsimp only [slots0, slots_ud, cells_U, agg_ud, drop0, dropS, takeS, take0, ud_nil, take_ud, take_ud0, drop_ud, drop_ud0, take_udk, D.cells, D.fz, D.fzs, List.take_succ_cons, List.take_zero, List.drop_succ_cons, List.drop_zero, List.cons_append, List.nil_append, List.append_eq, List.length_cons, List.length_nil, Nat.reduceAdd, Nat.reduceMul, Nat.reduceSub, Int.reduceAdd, Int.reduceSub, Int.reduceToNat, Int.reduceNeg, Int.reduceMul]) | refine q_blocky rfl ?_ | refine W_plain rfl ?_ | refine W_drawn mixed rfl ?_ | refine and_chk (by kernel_rfl) ?_ | refine k_cats rfl rfl rfl hcat ht ?_ | refine k_move rfl rfl ?_ | refine k_assign rfl rfl ?_ | refine k_load rfl rfl rfl rfl ?_ | refine k_alloc rfl ?_ | refine k_box rfl rfl rfl ?_ | refine k_store rfl rfl rfl rfl rfl rfl rfl ?_ | refine k_extract rfl rfl rfl ?_ | refine k_call rfl n1 rfl rfl rfl rfl ?_ | refine k_call rfl sh rfl rfl rfl rfl ?_ | refine k_call rfl hp rfl rfl rfl rfl ?_ | refine k_call rfl hq rfl rfl rfl rfl ?_ | refine k_eqa rfl rfl rfl rfl rfl dq ?_ | refine k_append rfl rfl rfl (by first | rfl | exact trivial | (show 0 < _; omega)) (by first | rfl | (simp <;> omega)) (by first | rfl | (simp <;> omega)) rfl (by omega) rfl rfl rfl ?_ | refine k_slice rfl rfl rfl rfl ⟨by omega, by omega, by omega⟩ rfl rfl rfl ?_ | refine k_slice3 rfl rfl rfl rfl rfl ⟨by omega, by omega, by omega⟩ rfl rfl rfl ?_ | refine k_sliceA rfl rfl rfl rfl ⟨by omega, by omega, by omega, by omega⟩ rfl rfl ?_ | refine k_sliceE rfl rfl rfl rfl ⟨by omega, by omega, by omega, by omega⟩ rfl rfl rfl rfl ?_ | refine k_loade rfl rfl rfl ?_ | refine k_len rfl rfl ?_ | refine k_pickT rfl rfl rfl ?_ | refine k_pickF rfl rfl rfl ?_ | refine k_addi rfl rfl rfl (by omega) ?_ | refine k_eqlT rfl rfl rfl (by omega) ?_ | refine k_eqlF rfl rfl rfl (by omega) ?_ | refine k_eqa rfl rfl rfl rfl rfl rfl ?_ | refine k_skip rfl ?_ | refine k_skip0 rfl ?_ | refine k_pick rfl rfl rfl rfl rfl ?_ | refine W_yes rfl ?_ | refine W_no rfl ?_)
    (first | with_reducible refine q_endr ?_ | with_reducible refine q_endn ?_); refine rets1 Try.results12 (by first | exact RetV.tmp _ _ rfl | exact RetV.cell _ _ _ _ _ _ _ _ inferInstance rfl rfl rfl) ?_
    rfl
theorem walk (k a b : Int) (s : ByteArray) (w : World) : Calls Try.prog 12 #[.agg (raw k a b s)] w fun e w' => e = .returned (.bool true) ∧ New w w' :=
  calls_of_pur (vs := [.agg #[.int .i64 k, .int .i64 a, .int .i64 b, .string s]]) rfl rfl rfl (pur k a b s) w

set_option maxRecDepth 100000 in
theorem lifted (os : Os) (started : os.Started) (H : Type) (enc : TypeId × Value → H) :
    ReturnsInHanded {} Try.checked os 12 .any (Rows.textBackSpec.pre6 enc Try.prog Try.f12 Rows.textBackRow.domain false) (Rows.textBackSpec.post enc Try.prog Try.f12 false true false false) := by
  refine returnsInHanded_of_change (C := Try.checked) own started (by kernel_rfl) Try.func12
    (ChangeSpec.witness6 (enc := enc) (C := Try.checked) false ⟨#[], #[.agg #[.int .i64 0, .int .i64 0, .int .i64 0, .string ⟨#[]⟩]], []⟩ 8 (by kernel_rfl) (by kernel_rfl) (by kernel_rfl) (by kernel_rfl)) ?_
  intro W base args ds gs before hval0 hW hcnd _
  have hval : ∀ (j : Nat) t v, Try.f12.params[j]? = some t → args[j]? = some v → Value.okWide Try.prog W .any base t v := hval0
  have hW' := hW
  obtain ⟨p, q, hA0, hV, rfl, hfz, hnd⟩ := hW
  have hA : DataW.TrodAll enc Try.prog W 0 (fun _ => true) true Try.f12.params.toList args.toList ds p := hA0
  rw [Try.params12] at hA hval
  obtain ⟨v0, vs0, d0, ds0, p0, q0, hargs, rfl, rfl, h0, r0⟩ := trodAll_cons hA
  obtain ⟨rfl, rfl, rfl⟩ := trodAll_nil r0
  obtain rfl : args = #[v0] := by cases args; simp_all
  obtain ⟨rfl, rfl⟩ := trodVars_none hV
  obtain ⟨k1, a1, b1, s1, rfl, wk1, wa1, wb1, ws1⟩ := open_raw (hval 0 23 v0 rfl rfl) h0
  refine (walk k1 a1 b1 s1 W).mono fun e W' ⟨he, hN⟩ => ?_
  subst he
  exact ⟨_, rfl, law_post laidOut (by kernel_rfl) (by kernel_rfl) Try.underlying4 rfl hW' rfl hN⟩

theorem holds : Rows.TextBackSaid :=
  OpenClaim.holds_of_wide 12 Try.f12 rfl rfl rfl rfl rfl rfl rfl ⟨rfl, rfl, rfl, rfl, rfl⟩ rfl rfl rfl rfl rfl (by kernel_rfl) Try.func12 (by kernel_rfl)
    (of_decide_eq_true (by kernel_rfl)) (by unfold Func.isWrapper; first | (rw [if_pos (by decide +kernel)]; kernel_rfl) | (rw [if_neg (by decide +kernel)]; exact ⟨rfl, rfl⟩))
    (fun os started H enc _ => lifted os started H enc)

#print axioms holds
end Go.Proofs.Ytcgdcnhggejgbaa.textBack
