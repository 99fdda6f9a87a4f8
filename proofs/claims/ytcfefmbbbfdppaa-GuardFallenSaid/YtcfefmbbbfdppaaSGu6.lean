/- guard: meet. Conditions: as said. -/
import Derived.Test.YtcfefmbbbfdppaaSGu5
import Derived.Test.YtcfefmbbbfdppaaSGateR
namespace Go.Proofs.Ytcfefmbbbfdppaa
open Go.RowKit Go.Lib Go.IntWalk
set_option linter.unusedVariables false
set_option maxRecDepth 100000
def GuT.keep (x : GuT) (r : List UInt8) : GuT := ⟨x.f, x.g, x.la ++ rec8 r, [], x.hd, x.dn⟩
def GuT.take (x : GuT) (b : BodyT) (am : Nat) : GuT := if x.g.fits (qOf x b am) = true then x.pass b am else x.hold b am
def GuT.meet (x : GuT) (b : BodyT) (am : Nat) : GuT := (x.take b am).keep (1 :: b.out)
section
variable (x : GuT) (h : x.ok) (b : BodyT) (hb : b.ok) (hc3 : b.c < 3) (hu : b.u < 256)
include h hb hc3 hu
section
variable (am : Nat) (hw : Wor b am) (hn : ∀ q ∈ x.g.past ++ x.g.queue, q.id ≠ b.id) (hq : x.g.queue.length < 40) (h1 : x.hd.length < 200) (h2 : x.dn.length < 200)
include hw hn hq h1 h2
theorem gtake_ok : (x.take b am).ok := by
  have hidl : b.id < 1099511627776 := by unfold BodyT.id; omega
  have hqo : (qOf x b am).val ≤ 1073741824 ∧ (qOf x b am).ch < 3 ∧ (qOf x b am).at_ ≤ x.g.now ∧ (qOf x b am).id < 1099511627776 := ⟨hw.1, hc3, Nat.le_refl _, hidl⟩
  have ml : ∀ (l : List BodyT), Ml l → l.length < 200 → Ml (l ++ [b]) := fun l hl h => ⟨fun c hc => by
    rcases List.mem_append.1 hc with hc | hc
    · exact hl.ok c hc
    · rw [List.mem_singleton.1 hc]; exact hb, by rw [List.length_append]; simp; omega⟩
  unfold GuT.take
  by_cases hf : x.g.fits (qOf x b am) = true
  · rw [if_pos hf]
    exact ⟨h.f, pass_ok h.g hqo hn (fits_big hf).2.2, h.log, h.hd, ml _ h.dn h2⟩
  · rw [if_neg hf]
    exact ⟨h.f, hold_ok h.g hqo hn hq, h.log, ml _ h.hd h1, h.dn⟩
set_option maxHeartbeats 16000000 in
theorem meet_new (hsi : x.si = []) (hk : knowsB b.id (x.dn ++ x.hd) = false) (n : Nat) (hbo : b.out.length = n) (hn9 : n ≤ 199) (hl : x.la.length + n + 4 ≤ 9000) : Pur Try.prog 34 [.agg x.cells, .agg b.cells] (.tup [.agg (x.meet b am).cells, .bool true]) := by
  have hmt := meeting_ok b hb n hbo
  have hi := Id_ok b hb
  have hkn := knows_ok x h b.id false hk
  have hfr := fresh_fn x h
  have hto := gtake_ok x h b hb hc3 hu am hw hn hq h1 h2
  have hkp := kept_ok (x.take b am) hto (by unfold GuT.take; split <;> exact hsi) (1 :: b.out) (by rw [List.length_cons]; omega) (by rw [List.length_cons]; unfold GuT.take; split <;> (show x.la.length + _ + _ ≤ _; omega))
  rw [show (1 :: b.out).length = 1 + n by rw [List.length_cons]; omega] at hkp
  have hball := bd_all hb.e
  have hbu := bd_at hb.e 0 _ rfl
  have hbc := bd_cls b
  have hbcl := bd_cl b
  have hbfz := bd_fz b
  have hbfz1 : D.fzs b.cells = b.cells := by have := hbfz; simpa [D.fzs, D.fz] using this
  have hbc1 : (D.agg b.cells).cl = true := hbc
  have hcc : ∀ ze, cut ⟨false, 1, ze⟩ 2 b.cells = some (.int .i64 (b.c : Int)) := fun _ => rfl
  have hlb : D.lalls (below 2) b.cells = true := cls_lalls _ _ hbc
  have hub : ∀ f, Ups b.cells (D.rens f b.cells) := fun f => cls_ups _ _ hbc
  have hur := hb.u
  unfold GuT.meet
  have mfp := fun hf => Met_pass x h b hb hc3 hu am hw hn (by omega) hf
  have mfh := fun hf => Met_hold x h b hb hc3 hu am hw hn (by omega) hf
  generalize bs (1 :: b.out) = yr at *
  cases hf : x.g.fits (qOf x b am) with
  | true =>
    have hmm := mfp hf
    clear mfp mfh
    unfold GuT.take at *
    rw [if_pos hf] at *
    unfold GuT.keep
    generalize rec8 (1 :: b.out) = rr at *
    generalize x.pass b am = y at *
    unfold guO GuT.cells guC bD mD at *
    generalize bdC x.hd = y1 at *
    generalize bdC x.dn = y2 at *
    generalize bs x.la = y3 at *
    generalize bs x.si = y4 at *
    generalize bdC y.hd = v1 at *
    generalize bdC y.dn = v2 at *
    generalize bs y.la = v3 at *
    generalize bs y.si = v4 at *
    generalize bs (y.la ++ rr) = v5 at *
    generalize qsC x.f.past = z1 at *
    generalize qsC x.f.queue = z2 at *
    generalize qsC x.g.past = z3 at *
    generalize qsC x.g.queue = z4 at *
    generalize qsC y.f.past = w1 at *
    generalize qsC y.f.queue = w2 at *
    generalize qsC y.g.past = w3 at *
    generalize qsC y.g.queue = w4 at *
    generalize hbce : b.cells = bc at *
    generalize b.id = bi at *
    generalize b.c = bch at *
    generalize b.u = bu at *
    refine pur_intro Try.func34 rfl Try.ntmps34 rfl (by first | rfl | assumption | exact bs_cl _) fun B => ?_
    repeat (first | with_reducible (first | refine W_seq ?_ | refine q_then ?_ | refine W_ret ?_ | refine W_skip ?_) | (with_reducible refine R_nil ?_; try dsimp only [slots0, slots_ud, cells_U, agg_ud, drop0, dropS, takeS, take0, ud_nil, take_ud, take_ud0, drop_ud, drop_ud0, take_udk, D.cells, D.fz, D.fzs, List.take_succ_cons, List.take_zero, List.drop_succ_cons, List.drop_zero, List.cons_append, List.nil_append, List.append_eq, List.length_cons, List.length_nil, Nat.reduceAdd, Nat.reduceMul, Nat.reduceSub, Int.reduceAdd, Int.reduceSub, Int.reduceToNat, Int.reduceNeg, Int.reduceMul]) | refine W_plain rfl ?_ | refine W_drawn mixed rfl ?_ | refine and_chk (by kernel_rfl) ?_ | refine k_load rfl rfl rfl (hball _) ?_ | refine k_load rfl rfl rfl (hcc _) ?_ | refine k_load rfl rfl rfl (by exact hbu _ _ rfl) ?_ | refine k_move rfl rfl ?_ | refine k_assign rfl rfl ?_ | refine k_load rfl rfl rfl rfl ?_ | refine k_alloc rfl ?_ | refine k_box rfl rfl rfl ?_ | refine k_store rfl rfl rfl rfl rfl rfl rfl ?_ | refine k_extract rfl rfl rfl ?_ | refine k_fieldAddr rfl rfl rfl ?_ | refine k_call rfl hmt rfl hbfz hbcl rfl ?_ | refine k_call rfl hi rfl hbfz hbcl rfl ?_ | refine k_call rfl hkn rfl rfl rfl rfl ?_ | refine k_callf (fun l => l + 3) [0, 1] (5) rfl (hfr) rfl (by first | exact Ups.refl _ | assumption | ((repeat refine Ups.cons (by first | exact Up.refl _ | exact Up.nil _ | exact Up.fz _ _ _) ?_); exact Ups.nil)) (rfl) (by (repeat (first | refine ⟨⟨rfl, _, rfl, (by first | exact Ups.refl _ | assumption | ((repeat refine Ups.cons (by first | exact Up.refl _ | exact Up.nil _ | exact Up.fz _ _ _) ?_); exact Ups.nil)), rfl⟩, ?_⟩ | refine ⟨⟨rfl, rfl⟩, ?_⟩)); exact trivial) rfl rfl rfl rfl (rfl) (rfl) rfl rfl rfl rfl ?_ | refine k_callf (fun l => l + 3) [0, 1, 2] (6) rfl (hmm) rfl (.cons (.refl _) (.cons (.agg_ (hub _)) .nil)) ((by show (_ && (D.lalls (below 2) bc && true)) = true; rw [hlb]; rfl)) (by (repeat (first | refine ⟨⟨rfl, _, rfl, (by first | exact Ups.refl _ | assumption | ((repeat refine Ups.cons (by first | exact Up.refl _ | exact Up.nil _ | exact Up.fz _ _ _) ?_); exact Ups.nil)), rfl⟩, ?_⟩ | refine ⟨⟨rfl, rfl⟩, ?_⟩)); exact trivial) rfl rfl rfl rfl (rfl) (rfl) rfl rfl rfl rfl ?_ | refine k_call rfl hkp rfl rfl rfl rfl ?_ | (refine k_append rfl rfl rfl ?_ ?_ ?_ rfl ?_ rfl rfl rfl ?_; (first | rfl | exact trivial | (show 0 < _; omega)); (first | rfl | (simp <;> omega)); (first | rfl | (simp <;> omega)); (omega)) | refine k_pickF rfl rfl rfl ?_ | (refine k_geqF rfl rfl rfl ?_ ?_; (omega)) | (refine k_neqF rfl rfl rfl ?_ ?_; (omega)) | refine W_no rfl ?_)
    (first | with_reducible refine q_endr ?_); refine rets2 Try.results34 (by first | exact RetV.tmp _ _ rfl | exact RetV.cell _ _ _ _ _ _ _ _ inferInstance rfl rfl rfl) (by first | exact RetV.tmp _ _ rfl | exact RetV.cell _ _ _ _ _ _ _ _ inferInstance rfl rfl rfl) ?_ ?_
    · rfl
    · rfl
  | false =>
    have hmm := mfh hf
    clear mfp mfh
    unfold GuT.take at *
    rw [if_neg (by rw [hf]; decide)] at *
    unfold GuT.keep
    generalize rec8 (1 :: b.out) = rr at *
    generalize x.hold b am = y at *
    unfold guO GuT.cells guC bD mD at *
    generalize bdC x.hd = y1 at *
    generalize bdC x.dn = y2 at *
    generalize bs x.la = y3 at *
    generalize bs x.si = y4 at *
    generalize bdC y.hd = v1 at *
    generalize bdC y.dn = v2 at *
    generalize bs y.la = v3 at *
    generalize bs y.si = v4 at *
    generalize bs (y.la ++ rr) = v5 at *
    generalize qsC x.f.past = z1 at *
    generalize qsC x.f.queue = z2 at *
    generalize qsC x.g.past = z3 at *
    generalize qsC x.g.queue = z4 at *
    generalize qsC y.f.past = w1 at *
    generalize qsC y.f.queue = w2 at *
    generalize qsC y.g.past = w3 at *
    generalize qsC y.g.queue = w4 at *
    generalize hbce : b.cells = bc at *
    generalize b.id = bi at *
    generalize b.c = bch at *
    generalize b.u = bu at *
    refine pur_intro Try.func34 rfl Try.ntmps34 rfl (by first | rfl | assumption | exact bs_cl _) fun B => ?_
    repeat (first | with_reducible (first | refine W_seq ?_ | refine q_then ?_ | refine W_ret ?_ | refine W_skip ?_) | (with_reducible refine R_nil ?_; try dsimp only [slots0, slots_ud, cells_U, agg_ud, drop0, dropS, takeS, take0, ud_nil, take_ud, take_ud0, drop_ud, drop_ud0, take_udk, D.cells, D.fz, D.fzs, List.take_succ_cons, List.take_zero, List.drop_succ_cons, List.drop_zero, List.cons_append, List.nil_append, List.append_eq, List.length_cons, List.length_nil, Nat.reduceAdd, Nat.reduceMul, Nat.reduceSub, Int.reduceAdd, Int.reduceSub, Int.reduceToNat, Int.reduceNeg, Int.reduceMul]) | refine W_plain rfl ?_ | refine W_drawn mixed rfl ?_ | refine and_chk (by kernel_rfl) ?_ | refine k_load rfl rfl rfl (hball _) ?_ | refine k_load rfl rfl rfl (hcc _) ?_ | refine k_load rfl rfl rfl (by exact hbu _ _ rfl) ?_ | refine k_move rfl rfl ?_ | refine k_assign rfl rfl ?_ | refine k_load rfl rfl rfl rfl ?_ | refine k_alloc rfl ?_ | refine k_box rfl rfl rfl ?_ | refine k_store rfl rfl rfl rfl rfl rfl rfl ?_ | refine k_extract rfl rfl rfl ?_ | refine k_fieldAddr rfl rfl rfl ?_ | refine k_call rfl hmt rfl hbfz hbcl rfl ?_ | refine k_call rfl hi rfl hbfz hbcl rfl ?_ | refine k_call rfl hkn rfl rfl rfl rfl ?_ | refine k_callf (fun l => l + 3) [0, 1] (5) rfl (hfr) rfl (by first | exact Ups.refl _ | assumption | ((repeat refine Ups.cons (by first | exact Up.refl _ | exact Up.nil _ | exact Up.fz _ _ _) ?_); exact Ups.nil)) (rfl) (by (repeat (first | refine ⟨⟨rfl, _, rfl, (by first | exact Ups.refl _ | assumption | ((repeat refine Ups.cons (by first | exact Up.refl _ | exact Up.nil _ | exact Up.fz _ _ _) ?_); exact Ups.nil)), rfl⟩, ?_⟩ | refine ⟨⟨rfl, rfl⟩, ?_⟩)); exact trivial) rfl rfl rfl rfl (rfl) (rfl) rfl rfl rfl rfl ?_ | refine k_callf (fun l => l + 3) [0, 1, 2] (6) rfl (hmm) rfl (.cons (.refl _) (.cons (.agg_ (hub _)) .nil)) ((by show (_ && (D.lalls (below 2) bc && true)) = true; rw [hlb]; rfl)) (by (repeat (first | refine ⟨⟨rfl, _, rfl, (by first | exact Ups.refl _ | assumption | ((repeat refine Ups.cons (by first | exact Up.refl _ | exact Up.nil _ | exact Up.fz _ _ _) ?_); exact Ups.nil)), rfl⟩, ?_⟩ | refine ⟨⟨rfl, rfl⟩, ?_⟩)); exact trivial) rfl rfl rfl rfl (rfl) (rfl) rfl rfl rfl rfl ?_ | refine k_call rfl hkp rfl rfl rfl rfl ?_ | (refine k_append rfl rfl rfl ?_ ?_ ?_ rfl ?_ rfl rfl rfl ?_; (first | rfl | exact trivial | (show 0 < _; omega)); (first | rfl | (simp <;> omega)); (first | rfl | (simp <;> omega)); (omega)) | refine k_pickF rfl rfl rfl ?_ | (refine k_geqF rfl rfl rfl ?_ ?_; (omega)) | (refine k_neqF rfl rfl rfl ?_ ?_; (omega)) | refine W_no rfl ?_)
    (first | with_reducible refine q_endr ?_); refine rets2 Try.results34 (by first | exact RetV.tmp _ _ rfl | exact RetV.cell _ _ _ _ _ _ _ _ inferInstance rfl rfl rfl) (by first | exact RetV.tmp _ _ rfl | exact RetV.cell _ _ _ _ _ _ _ _ inferInstance rfl rfl rfl) ?_ ?_
    · rfl
    · rfl
end
set_option maxHeartbeats 16000000 in
theorem meet_known (hk : knowsB b.id (x.dn ++ x.hd) = true) (n : Nat) (hbo : b.out.length = n) (hn9 : n ≤ 199) : Pur Try.prog 34 [.agg x.cells, .agg b.cells] (.tup [.agg x.cells, .bool false]) := by
  have hmt := meeting_ok b hb n hbo
  have hi := Id_ok b hb
  have hkn := knows_ok x h b.id true hk
  have hball := bd_all hb.e
  have hbu := bd_at hb.e 0 _ rfl
  have hbcl := bd_cl b
  have hbfz := bd_fz b
  have hcc : ∀ ze, cut ⟨false, 1, ze⟩ 2 b.cells = some (.int .i64 (b.c : Int)) := fun _ => rfl
  have hur := hb.u
  generalize bs (1 :: b.out) = yr at *
  unfold GuT.cells guC bD mD at *
  generalize bdC x.hd = y1 at *
  generalize bdC x.dn = y2 at *
  generalize bs x.la = y3 at *
  generalize bs x.si = y4 at *
  generalize qsC x.f.past = z1 at *
  generalize qsC x.f.queue = z2 at *
  generalize qsC x.g.past = z3 at *
  generalize qsC x.g.queue = z4 at *
  generalize hbce : b.cells = bc at *
  generalize b.id = bi at *
  generalize b.c = bch at *
  generalize b.u = bu at *
  refine pur_intro Try.func34 rfl Try.ntmps34 rfl (by first | rfl | assumption | exact bs_cl _) fun B => ?_
  repeat (first | with_reducible (first | refine W_seq ?_ | refine q_then ?_ | refine q_thenr ?_ | refine W_ret ?_) | (with_reducible refine R_nil ?_; try dsimp only [slots0, slots_ud, cells_U, agg_ud, drop0, dropS, takeS, take0, ud_nil, take_ud, take_ud0, drop_ud, drop_ud0, take_udk, D.cells, D.fz, D.fzs, List.take_succ_cons, List.take_zero, List.drop_succ_cons, List.drop_zero, List.cons_append, List.nil_append, List.append_eq, List.length_cons, List.length_nil, Nat.reduceAdd, Nat.reduceMul, Nat.reduceSub, Int.reduceAdd, Int.reduceSub, Int.reduceToNat, Int.reduceNeg, Int.reduceMul]) | refine W_plain rfl ?_ | refine W_drawn mixed rfl ?_ | refine and_chk (by kernel_rfl) ?_ | refine k_load rfl rfl rfl (hball _) ?_ | refine k_load rfl rfl rfl (hcc _) ?_ | refine k_load rfl rfl rfl (by exact hbu _ _ rfl) ?_ | refine k_move rfl rfl ?_ | refine k_assign rfl rfl ?_ | refine k_load rfl rfl rfl rfl ?_ | refine k_alloc rfl ?_ | refine k_box rfl rfl rfl ?_ | refine k_store rfl rfl rfl rfl rfl rfl rfl ?_ | refine k_extract rfl rfl rfl ?_ | refine k_fieldAddr rfl rfl rfl ?_ | refine k_call rfl hmt rfl hbfz hbcl rfl ?_ | refine k_call rfl hi rfl hbfz hbcl rfl ?_ | refine k_call rfl hkn rfl rfl rfl rfl ?_ | (refine k_append rfl rfl rfl ?_ ?_ ?_ rfl ?_ rfl rfl rfl ?_; (first | rfl | exact trivial | (show 0 < _; omega)); (first | rfl | (simp <;> omega)); (first | rfl | (simp <;> omega)); (omega)) | refine k_pickF rfl rfl rfl ?_ | (refine k_geqF rfl rfl rfl ?_ ?_; (omega)) | (refine k_neqF rfl rfl rfl ?_ ?_; (omega)) | refine W_yes rfl ?_)
  (first | with_reducible refine q_endr ?_); refine rets2 Try.results34 (by first | exact RetV.tmp _ _ rfl | exact RetV.cell _ _ _ _ _ _ _ _ inferInstance rfl rfl rfl) (by first | exact RetV.tmp _ _ rfl | exact RetV.cell _ _ _ _ _ _ _ _ inferInstance rfl rfl rfl) ?_ ?_
  · rfl
  · rfl
end
end Go.Proofs.Ytcfefmbbbfdppaa
