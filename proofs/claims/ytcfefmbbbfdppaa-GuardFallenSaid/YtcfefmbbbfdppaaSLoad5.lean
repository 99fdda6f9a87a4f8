/- load: check of the kinds. Conditions: as said. -/
import Derived.Test.YtcfefmbbbfdppaaSGe
namespace Go.Proofs.Ytcfefmbbbfdppaa
open Go.RowKit Go.Lib Go.IntWalk
set_option linter.unusedVariables false
set_option maxRecDepth 100000
set_option maxHeartbeats 8000000 in
theorem tr_check (p : Bool) (l : LoadT) (h1 : l.tk.length = 32) (h2 : l.tp.length = 32) (ha : l.am < M256) (hf : l.fe < M256) (r : Bool)
    (hr : decide ((0 ≤ l.ho ∧ l.ho ≤ 65535) ∧ (0 ≤ l.tc ∧ l.tc ≤ 65535) ∧ l.fe ≤ l.am ∧ l.da.length ≤ (if p then 100 else 0)) = r) : Pur Try.prog 85 [.agg [.bool p], .agg l.cells] (.bool r) := by
  unfold LoadT.cells
  have fa := ldC_all (k := l.k) (am := l.am) (fe := l.fe) (ho := l.ho) h1 h2 l.tl rfl
  have f0 := ldC_k l.k l.am l.fe l.tk l.ho l.tp l.tl
  have f1 := ldC_am l.k l.am l.fe l.tk l.ho l.tp l.tl
  have f2 := ldC_fe l.k l.am l.fe l.tk l.ho l.tp l.tl
  have f3 := ldC_tk (k := l.k) (am := l.am) (fe := l.fe) (ho := l.ho) (tp := l.tp) h1 l.tl
  have f4 := ldC_ho (k := l.k) (am := l.am) (fe := l.fe) (ho := l.ho) (tp := l.tp) h1 l.tl
  have f5 := ldC_tp (k := l.k) (am := l.am) (fe := l.fe) (ho := l.ho) h1 h2 l.tl
  have f6 := ldC_tl (k := l.k) (am := l.am) (fe := l.fe) (ho := l.ho) h1 h2 0 _ l.tl rfl 74 rfl
  have f7 := ldC_tl (k := l.k) (am := l.am) (fe := l.fe) (ho := l.ho) h1 h2 1 _ l.tl rfl 75 rfl
  have f8 := ldC_tl (k := l.k) (am := l.am) (fe := l.fe) (ho := l.ho) h1 h2 2 _ l.tl rfl 76 rfl
  have f9 := ldC_tl (k := l.k) (am := l.am) (fe := l.fe) (ho := l.ho) h1 h2 3 _ l.tl rfl 77 rfl
  have f10 := ldC_tl (k := l.k) (am := l.am) (fe := l.fe) (ho := l.ho) h1 h2 4 _ l.tl rfl 78 rfl
  have f11 := ldC_tl (k := l.k) (am := l.am) (fe := l.fe) (ho := l.ho) h1 h2 5 _ l.tl rfl 79 rfl
  have hl := ldC_len (k := l.k) (am := l.am) (fe := l.fe) (ho := l.ho) h1 h2 l.tl rfl
  have c1 : ∃ b1, decide (0 ≤ l.ho ∧ l.ho ≤ 65535) = b1 := ⟨_, rfl⟩
  have c2 : ∃ b2, decide (0 ≤ l.tc ∧ l.tc ≤ 65535) = b2 := ⟨_, rfl⟩
  obtain ⟨b1, hb1⟩ := c1
  obtain ⟨b2, hb2⟩ := c2
  have k1 := small_ok l.ho 65535 b1 hb1
  have k2 := small_ok l.tc 65535 b2 hb2
  have k3 := p_cmp l.fe l.am _ hf ha rfl
  have k4 : decide (cmpI l.fe l.am ≤ 0) = decide (l.fe ≤ l.am) := by
    unfold cmpI
    by_cases h : l.fe ≤ l.am
    · rw [decide_eq_true h]
      by_cases h' : l.fe < l.am
      · rw [if_pos h']; rfl
      · rw [if_neg h', if_neg (by omega)]; rfl
    · rw [decide_eq_false h, if_neg (by omega), if_pos (by omega)]; rfl
  generalize cmpI l.fe l.am = cc at *
  have k5 : decide ((l.da.length : Int) ≤ 100) = decide (l.da.length ≤ 100) := by
    by_cases h : l.da.length ≤ 100
    · rw [decide_eq_true h, decide_eq_true (by omega)]
    · rw [decide_eq_false h, decide_eq_false (by omega)]
  have k6 : decide ((l.da.length : Int) = 0) = decide (l.da.length ≤ 0) := by
    by_cases h : l.da.length ≤ 0
    · rw [decide_eq_true h, decide_eq_true (by omega)]
    · rw [decide_eq_false h, decide_eq_false (by omega)]
  have hr' : (b1 && (b2 && (decide (l.fe ≤ l.am) && decide (l.da.length ≤ (if p then 100 else 0))))) = r := by
    rw [← hr, ← hb1, ← hb2]; simp only [Bool.decide_and]
  clear hr hb1 hb2
  generalize decide (l.fe ≤ l.am) = b3 at *
  cases p with
  | true =>
    simp only [if_true] at hr'
    generalize decide (l.da.length ≤ 100) = b4 at *
    generalize decide (l.da.length ≤ 0) = b5 at *
    generalize ldC l.k l.am l.fe l.tk l.ho l.tp l.tl = X at *
    obtain ⟨k, am, fe, tk, ho, tp, tc, de, sy, da, ix, kn, kz⟩ := l
    dsimp only at *
    cases b1 with
    | false =>
      subst hr'
      refine pur_intro Try.func85 rfl Try.ntmps85 rfl (by first | rfl | assumption | exact bs_cl _) fun B => ?_
      repeat (first | with_reducible (first | refine W_seq ?_ | refine q_then ?_ | refine W_ret ?_) | (with_reducible refine R_nil ?_; try dsimp only [slots0, slots_ud, cells_U, agg_ud, drop0, dropS, takeS, take0, ud_nil, take_ud, take_ud0, drop_ud, drop_ud0, take_udk, D.cells, D.fz, D.fzs, List.take_succ_cons, List.take_zero, List.drop_succ_cons, List.drop_zero, List.cons_append, List.nil_append, List.append_eq, List.length_cons, List.length_nil, Nat.reduceAdd, Nat.reduceMul, Nat.reduceSub, Int.reduceAdd, Int.reduceSub, Int.reduceToNat, Int.reduceNeg, Int.reduceMul]) | refine W_plain rfl ?_ | refine and_chk (by kernel_rfl) ?_ | refine k_load rfl rfl rfl (f1 _) ?_ | refine k_load rfl rfl rfl (f2 _) ?_ | refine k_load rfl rfl rfl (f4 _) ?_ | refine k_load rfl rfl rfl (f6 _) ?_ | refine k_load rfl rfl rfl (f9 _) ?_ | refine k_move rfl rfl ?_ | refine k_assign rfl rfl ?_ | refine k_load rfl rfl rfl rfl ?_ | refine k_box rfl rfl rfl ?_ | refine k_fieldAddr rfl rfl rfl ?_ | refine k_call rfl k1 rfl rfl rfl rfl ?_ | refine k_call rfl k2 rfl rfl rfl rfl ?_ | refine k_call rfl k3 rfl rfl rfl rfl ?_ | refine k_leq rfl rfl rfl k4 ?_ | refine k_leq rfl rfl rfl k5 ?_ | (refine k_append rfl rfl rfl ?_ ?_ ?_ rfl ?_ rfl rfl rfl ?_; (first | rfl | exact trivial | (show 0 < _; omega)); (first | rfl | (simp <;> omega)); (first | rfl | (simp <;> omega)); (omega)) | refine k_len rfl rfl ?_ | refine k_pickT rfl rfl rfl ?_ | refine k_pickF rfl rfl rfl ?_ | refine k_not rfl rfl rfl ?_ | refine k_skip rfl ?_)
      (first | with_reducible refine q_endr ?_); refine rets1 Try.results85 (by first | exact RetV.tmp _ _ rfl | exact RetV.cell _ _ _ _ _ _ _ _ inferInstance rfl rfl rfl) ?_
      rfl
    | true =>
      cases b2 with
      | false =>
        subst hr'
        refine pur_intro Try.func85 rfl Try.ntmps85 rfl (by first | rfl | assumption | exact bs_cl _) fun B => ?_
        repeat (first | with_reducible (first | refine W_seq ?_ | refine q_then ?_ | refine W_ret ?_) | (with_reducible refine R_nil ?_; try dsimp only [slots0, slots_ud, cells_U, agg_ud, drop0, dropS, takeS, take0, ud_nil, take_ud, take_ud0, drop_ud, drop_ud0, take_udk, D.cells, D.fz, D.fzs, List.take_succ_cons, List.take_zero, List.drop_succ_cons, List.drop_zero, List.cons_append, List.nil_append, List.append_eq, List.length_cons, List.length_nil, Nat.reduceAdd, Nat.reduceMul, Nat.reduceSub, Int.reduceAdd, Int.reduceSub, Int.reduceToNat, Int.reduceNeg, Int.reduceMul]) | refine W_plain rfl ?_ | refine and_chk (by kernel_rfl) ?_ | refine k_load rfl rfl rfl (f1 _) ?_ | refine k_load rfl rfl rfl (f2 _) ?_ | refine k_load rfl rfl rfl (f4 _) ?_ | refine k_load rfl rfl rfl (f6 _) ?_ | refine k_load rfl rfl rfl (f9 _) ?_ | refine k_move rfl rfl ?_ | refine k_assign rfl rfl ?_ | refine k_load rfl rfl rfl rfl ?_ | refine k_box rfl rfl rfl ?_ | refine k_fieldAddr rfl rfl rfl ?_ | refine k_call rfl k1 rfl rfl rfl rfl ?_ | refine k_call rfl k2 rfl rfl rfl rfl ?_ | refine k_call rfl k3 rfl rfl rfl rfl ?_ | refine k_leq rfl rfl rfl k4 ?_ | refine k_leq rfl rfl rfl k5 ?_ | (refine k_append rfl rfl rfl ?_ ?_ ?_ rfl ?_ rfl rfl rfl ?_; (first | rfl | exact trivial | (show 0 < _; omega)); (first | rfl | (simp <;> omega)); (first | rfl | (simp <;> omega)); (omega)) | refine k_len rfl rfl ?_ | refine k_pickT rfl rfl rfl ?_ | refine k_pickF rfl rfl rfl ?_ | refine k_not rfl rfl rfl ?_ | refine k_skip rfl ?_)
        (first | with_reducible refine q_endr ?_); refine rets1 Try.results85 (by first | exact RetV.tmp _ _ rfl | exact RetV.cell _ _ _ _ _ _ _ _ inferInstance rfl rfl rfl) ?_
        rfl
      | true =>
        cases b3 with
        | false =>
          subst hr'
          refine pur_intro Try.func85 rfl Try.ntmps85 rfl (by first | rfl | assumption | exact bs_cl _) fun B => ?_
          repeat (first | with_reducible (first | refine W_seq ?_ | refine q_then ?_ | refine W_ret ?_) | (with_reducible refine R_nil ?_; try dsimp only [slots0, slots_ud, cells_U, agg_ud, drop0, dropS, takeS, take0, ud_nil, take_ud, take_ud0, drop_ud, drop_ud0, take_udk, D.cells, D.fz, D.fzs, List.take_succ_cons, List.take_zero, List.drop_succ_cons, List.drop_zero, List.cons_append, List.nil_append, List.append_eq, List.length_cons, List.length_nil, Nat.reduceAdd, Nat.reduceMul, Nat.reduceSub, Int.reduceAdd, Int.reduceSub, Int.reduceToNat, Int.reduceNeg, Int.reduceMul]) | refine W_plain rfl ?_ | refine and_chk (by kernel_rfl) ?_ | refine k_load rfl rfl rfl (f1 _) ?_ | refine k_load rfl rfl rfl (f2 _) ?_ | refine k_load rfl rfl rfl (f4 _) ?_ | refine k_load rfl rfl rfl (f6 _) ?_ | refine k_load rfl rfl rfl (f9 _) ?_ | refine k_move rfl rfl ?_ | refine k_assign rfl rfl ?_ | refine k_load rfl rfl rfl rfl ?_ | refine k_box rfl rfl rfl ?_ | refine k_fieldAddr rfl rfl rfl ?_ | refine k_call rfl k1 rfl rfl rfl rfl ?_ | refine k_call rfl k2 rfl rfl rfl rfl ?_ | refine k_call rfl k3 rfl rfl rfl rfl ?_ | refine k_leq rfl rfl rfl k4 ?_ | refine k_leq rfl rfl rfl k5 ?_ | (refine k_append rfl rfl rfl ?_ ?_ ?_ rfl ?_ rfl rfl rfl ?_; (first | rfl | exact trivial | (show 0 < _; omega)); (first | rfl | (simp <;> omega)); (first | rfl | (simp <;> omega)); (omega)) | refine k_len rfl rfl ?_ | refine k_pickT rfl rfl rfl ?_ | refine k_pickF rfl rfl rfl ?_ | refine k_not rfl rfl rfl ?_ | refine k_skip rfl ?_)
          (first | with_reducible refine q_endr ?_); refine rets1 Try.results85 (by first | exact RetV.tmp _ _ rfl | exact RetV.cell _ _ _ _ _ _ _ _ inferInstance rfl rfl rfl) ?_
          rfl
        | true =>
          cases b4 with
          | false =>
            subst hr'
            refine pur_intro Try.func85 rfl Try.ntmps85 rfl (by first | rfl | assumption | exact bs_cl _) fun B => ?_
            repeat (first | with_reducible (first | refine W_seq ?_ | refine q_then ?_ | refine W_ret ?_) | (with_reducible refine R_nil ?_; try dsimp only [slots0, slots_ud, cells_U, agg_ud, drop0, dropS, takeS, take0, ud_nil, take_ud, take_ud0, drop_ud, drop_ud0, take_udk, D.cells, D.fz, D.fzs, List.take_succ_cons, List.take_zero, List.drop_succ_cons, List.drop_zero, List.cons_append, List.nil_append, List.append_eq, List.length_cons, List.length_nil, Nat.reduceAdd, Nat.reduceMul, Nat.reduceSub, Int.reduceAdd, Int.reduceSub, Int.reduceToNat, Int.reduceNeg, Int.reduceMul]) | refine W_plain rfl ?_ | refine and_chk (by kernel_rfl) ?_ | refine k_load rfl rfl rfl (f1 _) ?_ | refine k_load rfl rfl rfl (f2 _) ?_ | refine k_load rfl rfl rfl (f4 _) ?_ | refine k_load rfl rfl rfl (f6 _) ?_ | refine k_load rfl rfl rfl (f9 _) ?_ | refine k_move rfl rfl ?_ | refine k_assign rfl rfl ?_ | refine k_load rfl rfl rfl rfl ?_ | refine k_box rfl rfl rfl ?_ | refine k_fieldAddr rfl rfl rfl ?_ | refine k_call rfl k1 rfl rfl rfl rfl ?_ | refine k_call rfl k2 rfl rfl rfl rfl ?_ | refine k_call rfl k3 rfl rfl rfl rfl ?_ | refine k_leq rfl rfl rfl k4 ?_ | refine k_leq rfl rfl rfl k5 ?_ | (refine k_append rfl rfl rfl ?_ ?_ ?_ rfl ?_ rfl rfl rfl ?_; (first | rfl | exact trivial | (show 0 < _; omega)); (first | rfl | (simp <;> omega)); (first | rfl | (simp <;> omega)); (omega)) | refine k_len rfl rfl ?_ | refine k_pickT rfl rfl rfl ?_ | refine k_pickF rfl rfl rfl ?_ | refine k_not rfl rfl rfl ?_ | refine k_skip rfl ?_)
            (first | with_reducible refine q_endr ?_); refine rets1 Try.results85 (by first | exact RetV.tmp _ _ rfl | exact RetV.cell _ _ _ _ _ _ _ _ inferInstance rfl rfl rfl) ?_
            rfl
          | true =>
            subst hr'
            refine pur_intro Try.func85 rfl Try.ntmps85 rfl (by first | rfl | assumption | exact bs_cl _) fun B => ?_
            repeat (first | with_reducible (first | refine W_seq ?_ | refine q_then ?_ | refine W_ret ?_) | (with_reducible refine R_nil ?_; try dsimp only [slots0, slots_ud, cells_U, agg_ud, drop0, dropS, takeS, take0, ud_nil, take_ud, take_ud0, drop_ud, drop_ud0, take_udk, D.cells, D.fz, D.fzs, List.take_succ_cons, List.take_zero, List.drop_succ_cons, List.drop_zero, List.cons_append, List.nil_append, List.append_eq, List.length_cons, List.length_nil, Nat.reduceAdd, Nat.reduceMul, Nat.reduceSub, Int.reduceAdd, Int.reduceSub, Int.reduceToNat, Int.reduceNeg, Int.reduceMul]) | refine W_plain rfl ?_ | refine and_chk (by kernel_rfl) ?_ | refine k_load rfl rfl rfl (f1 _) ?_ | refine k_load rfl rfl rfl (f2 _) ?_ | refine k_load rfl rfl rfl (f4 _) ?_ | refine k_load rfl rfl rfl (f6 _) ?_ | refine k_load rfl rfl rfl (f9 _) ?_ | refine k_move rfl rfl ?_ | refine k_assign rfl rfl ?_ | refine k_load rfl rfl rfl rfl ?_ | refine k_box rfl rfl rfl ?_ | refine k_fieldAddr rfl rfl rfl ?_ | refine k_call rfl k1 rfl rfl rfl rfl ?_ | refine k_call rfl k2 rfl rfl rfl rfl ?_ | refine k_call rfl k3 rfl rfl rfl rfl ?_ | refine k_leq rfl rfl rfl k4 ?_ | refine k_leq rfl rfl rfl k5 ?_ | (refine k_append rfl rfl rfl ?_ ?_ ?_ rfl ?_ rfl rfl rfl ?_; (first | rfl | exact trivial | (show 0 < _; omega)); (first | rfl | (simp <;> omega)); (first | rfl | (simp <;> omega)); (omega)) | refine k_len rfl rfl ?_ | refine k_pickT rfl rfl rfl ?_ | refine k_pickF rfl rfl rfl ?_ | refine k_not rfl rfl rfl ?_ | refine k_skip rfl ?_)
            (first | with_reducible refine q_endr ?_); refine rets1 Try.results85 (by first | exact RetV.tmp _ _ rfl | exact RetV.cell _ _ _ _ _ _ _ _ inferInstance rfl rfl rfl) ?_
            rfl
  | false =>
    simp only [if_false, Bool.false_eq_true] at hr'
    generalize decide (l.da.length ≤ 0) = b4 at *
    generalize ldC l.k l.am l.fe l.tk l.ho l.tp l.tl = X at *
    obtain ⟨k, am, fe, tk, ho, tp, tc, de, sy, da, ix, kn, kz⟩ := l
    dsimp only at *
    cases b1 with
    | false =>
      subst hr'
      refine pur_intro Try.func85 rfl Try.ntmps85 rfl (by first | rfl | assumption | exact bs_cl _) fun B => ?_
      repeat (first | with_reducible (first | refine W_seq ?_ | refine q_then ?_ | refine W_ret ?_) | (with_reducible refine R_nil ?_; try dsimp only [slots0, slots_ud, cells_U, agg_ud, drop0, dropS, takeS, take0, ud_nil, take_ud, take_ud0, drop_ud, drop_ud0, take_udk, D.cells, D.fz, D.fzs, List.take_succ_cons, List.take_zero, List.drop_succ_cons, List.drop_zero, List.cons_append, List.nil_append, List.append_eq, List.length_cons, List.length_nil, Nat.reduceAdd, Nat.reduceMul, Nat.reduceSub, Int.reduceAdd, Int.reduceSub, Int.reduceToNat, Int.reduceNeg, Int.reduceMul]) | refine W_plain rfl ?_ | refine and_chk (by kernel_rfl) ?_ | refine k_load rfl rfl rfl (f1 _) ?_ | refine k_load rfl rfl rfl (f2 _) ?_ | refine k_load rfl rfl rfl (f4 _) ?_ | refine k_load rfl rfl rfl (f6 _) ?_ | refine k_load rfl rfl rfl (f9 _) ?_ | refine k_move rfl rfl ?_ | refine k_assign rfl rfl ?_ | refine k_load rfl rfl rfl rfl ?_ | refine k_box rfl rfl rfl ?_ | refine k_fieldAddr rfl rfl rfl ?_ | refine k_call rfl k1 rfl rfl rfl rfl ?_ | refine k_call rfl k2 rfl rfl rfl rfl ?_ | refine k_call rfl k3 rfl rfl rfl rfl ?_ | refine k_leq rfl rfl rfl k4 ?_ | refine k_eql rfl rfl rfl k6 ?_ | (refine k_append rfl rfl rfl ?_ ?_ ?_ rfl ?_ rfl rfl rfl ?_; (first | rfl | exact trivial | (show 0 < _; omega)); (first | rfl | (simp <;> omega)); (first | rfl | (simp <;> omega)); (omega)) | refine k_len rfl rfl ?_ | refine k_pickT rfl rfl rfl ?_ | refine k_pickF rfl rfl rfl ?_ | refine k_not rfl rfl rfl ?_ | refine k_skip rfl ?_)
      (first | with_reducible refine q_endr ?_); refine rets1 Try.results85 (by first | exact RetV.tmp _ _ rfl | exact RetV.cell _ _ _ _ _ _ _ _ inferInstance rfl rfl rfl) ?_
      rfl
    | true =>
      cases b2 with
      | false =>
        subst hr'
        refine pur_intro Try.func85 rfl Try.ntmps85 rfl (by first | rfl | assumption | exact bs_cl _) fun B => ?_
        repeat (first | with_reducible (first | refine W_seq ?_ | refine q_then ?_ | refine W_ret ?_) | (with_reducible refine R_nil ?_; try dsimp only [slots0, slots_ud, cells_U, agg_ud, drop0, dropS, takeS, take0, ud_nil, take_ud, take_ud0, drop_ud, drop_ud0, take_udk, D.cells, D.fz, D.fzs, List.take_succ_cons, List.take_zero, List.drop_succ_cons, List.drop_zero, List.cons_append, List.nil_append, List.append_eq, List.length_cons, List.length_nil, Nat.reduceAdd, Nat.reduceMul, Nat.reduceSub, Int.reduceAdd, Int.reduceSub, Int.reduceToNat, Int.reduceNeg, Int.reduceMul]) | refine W_plain rfl ?_ | refine and_chk (by kernel_rfl) ?_ | refine k_load rfl rfl rfl (f1 _) ?_ | refine k_load rfl rfl rfl (f2 _) ?_ | refine k_load rfl rfl rfl (f4 _) ?_ | refine k_load rfl rfl rfl (f6 _) ?_ | refine k_load rfl rfl rfl (f9 _) ?_ | refine k_move rfl rfl ?_ | refine k_assign rfl rfl ?_ | refine k_load rfl rfl rfl rfl ?_ | refine k_box rfl rfl rfl ?_ | refine k_fieldAddr rfl rfl rfl ?_ | refine k_call rfl k1 rfl rfl rfl rfl ?_ | refine k_call rfl k2 rfl rfl rfl rfl ?_ | refine k_call rfl k3 rfl rfl rfl rfl ?_ | refine k_leq rfl rfl rfl k4 ?_ | refine k_eql rfl rfl rfl k6 ?_ | (refine k_append rfl rfl rfl ?_ ?_ ?_ rfl ?_ rfl rfl rfl ?_; (first | rfl | exact trivial | (show 0 < _; omega)); (first | rfl | (simp <;> omega)); (first | rfl | (simp <;> omega)); (omega)) | refine k_len rfl rfl ?_ | refine k_pickT rfl rfl rfl ?_ | refine k_pickF rfl rfl rfl ?_ | refine k_not rfl rfl rfl ?_ | refine k_skip rfl ?_)
        (first | with_reducible refine q_endr ?_); refine rets1 Try.results85 (by first | exact RetV.tmp _ _ rfl | exact RetV.cell _ _ _ _ _ _ _ _ inferInstance rfl rfl rfl) ?_
        rfl
      | true =>
        cases b3 with
        | false =>
          subst hr'
          refine pur_intro Try.func85 rfl Try.ntmps85 rfl (by first | rfl | assumption | exact bs_cl _) fun B => ?_
          repeat (first | with_reducible (first | refine W_seq ?_ | refine q_then ?_ | refine W_ret ?_) | (with_reducible refine R_nil ?_; try dsimp only [slots0, slots_ud, cells_U, agg_ud, drop0, dropS, takeS, take0, ud_nil, take_ud, take_ud0, drop_ud, drop_ud0, take_udk, D.cells, D.fz, D.fzs, List.take_succ_cons, List.take_zero, List.drop_succ_cons, List.drop_zero, List.cons_append, List.nil_append, List.append_eq, List.length_cons, List.length_nil, Nat.reduceAdd, Nat.reduceMul, Nat.reduceSub, Int.reduceAdd, Int.reduceSub, Int.reduceToNat, Int.reduceNeg, Int.reduceMul]) | refine W_plain rfl ?_ | refine and_chk (by kernel_rfl) ?_ | refine k_load rfl rfl rfl (f1 _) ?_ | refine k_load rfl rfl rfl (f2 _) ?_ | refine k_load rfl rfl rfl (f4 _) ?_ | refine k_load rfl rfl rfl (f6 _) ?_ | refine k_load rfl rfl rfl (f9 _) ?_ | refine k_move rfl rfl ?_ | refine k_assign rfl rfl ?_ | refine k_load rfl rfl rfl rfl ?_ | refine k_box rfl rfl rfl ?_ | refine k_fieldAddr rfl rfl rfl ?_ | refine k_call rfl k1 rfl rfl rfl rfl ?_ | refine k_call rfl k2 rfl rfl rfl rfl ?_ | refine k_call rfl k3 rfl rfl rfl rfl ?_ | refine k_leq rfl rfl rfl k4 ?_ | refine k_eql rfl rfl rfl k6 ?_ | (refine k_append rfl rfl rfl ?_ ?_ ?_ rfl ?_ rfl rfl rfl ?_; (first | rfl | exact trivial | (show 0 < _; omega)); (first | rfl | (simp <;> omega)); (first | rfl | (simp <;> omega)); (omega)) | refine k_len rfl rfl ?_ | refine k_pickT rfl rfl rfl ?_ | refine k_pickF rfl rfl rfl ?_ | refine k_not rfl rfl rfl ?_ | refine k_skip rfl ?_)
          (first | with_reducible refine q_endr ?_); refine rets1 Try.results85 (by first | exact RetV.tmp _ _ rfl | exact RetV.cell _ _ _ _ _ _ _ _ inferInstance rfl rfl rfl) ?_
          rfl
        | true =>
          subst hr'
          refine pur_intro Try.func85 rfl Try.ntmps85 rfl (by first | rfl | assumption | exact bs_cl _) fun B => ?_
          repeat (first | with_reducible (first | refine W_seq ?_ | refine q_then ?_ | refine W_ret ?_) | (with_reducible refine R_nil ?_; try dsimp only [slots0, slots_ud, cells_U, agg_ud, drop0, dropS, takeS, take0, ud_nil, take_ud, take_ud0, drop_ud, drop_ud0, take_udk, D.cells, D.fz, D.fzs, List.take_succ_cons, List.take_zero, List.drop_succ_cons, List.drop_zero, List.cons_append, List.nil_append, List.append_eq, List.length_cons, List.length_nil, Nat.reduceAdd, Nat.reduceMul, Nat.reduceSub, Int.reduceAdd, Int.reduceSub, Int.reduceToNat, Int.reduceNeg, Int.reduceMul]) | refine W_plain rfl ?_ | refine and_chk (by kernel_rfl) ?_ | refine k_load rfl rfl rfl (f1 _) ?_ | refine k_load rfl rfl rfl (f2 _) ?_ | refine k_load rfl rfl rfl (f4 _) ?_ | refine k_load rfl rfl rfl (f6 _) ?_ | refine k_load rfl rfl rfl (f9 _) ?_ | refine k_move rfl rfl ?_ | refine k_assign rfl rfl ?_ | refine k_load rfl rfl rfl rfl ?_ | refine k_box rfl rfl rfl ?_ | refine k_fieldAddr rfl rfl rfl ?_ | refine k_call rfl k1 rfl rfl rfl rfl ?_ | refine k_call rfl k2 rfl rfl rfl rfl ?_ | refine k_call rfl k3 rfl rfl rfl rfl ?_ | refine k_leq rfl rfl rfl k4 ?_ | refine k_eql rfl rfl rfl k6 ?_ | (refine k_append rfl rfl rfl ?_ ?_ ?_ rfl ?_ rfl rfl rfl ?_; (first | rfl | exact trivial | (show 0 < _; omega)); (first | rfl | (simp <;> omega)); (first | rfl | (simp <;> omega)); (omega)) | refine k_len rfl rfl ?_ | refine k_pickT rfl rfl rfl ?_ | refine k_pickF rfl rfl rfl ?_ | refine k_not rfl rfl rfl ?_ | refine k_skip rfl ?_)
          (first | with_reducible refine q_endr ?_); refine rets1 Try.results85 (by first | exact RetV.tmp _ _ rfl | exact RetV.cell _ _ _ _ _ _ _ _ inferInstance rfl rfl rfl) ?_
          rfl
end Go.Proofs.Ytcfefmbbbfdppaa
