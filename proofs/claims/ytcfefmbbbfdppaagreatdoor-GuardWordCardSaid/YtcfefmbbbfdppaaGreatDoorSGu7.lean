/- guard: Hours, See. Conditions: as said. -/
import Derived.Test.YtcfefmbbbfdppaaGreatDoorSRow
import Derived.Test.YtcfefmbbbfdppaaGreatDoorSGate3
import Derived.Test.YtcfefmbbbfdppaaGreatDoorSBytes
import Derived.Test.YtcfefmbbbfdppaaGreatDoorSGu5
namespace Go.Proofs.YtcfefmbbbfdppaaGreatDoor
open Go.RowKit
set_option linter.unusedVariables false
set_option maxRecDepth 100000
theorem tick_fold (g : GT) (h : Nat) (I : Nat → GT × List Nat → Prop) (h0 : I 0 (g.later h, [])) (hs : ∀ j s x, g.queue[j]? = some x → I j s → I (j + 1) (tickStep s x)) : I g.queue.length (tick g h) := by
  have key : ∀ j, j ≤ g.queue.length → I j ((g.queue.take j).foldl tickStep (g.later h, [])) := by
    intro j
    induction j with
    | zero => exact fun _ => h0
    | succ j ih =>
      intro hj
      obtain ⟨x, hx⟩ : ∃ x, g.queue[j]? = some x := ⟨_, List.getElem?_eq_getElem (by omega)⟩
      rw [foldl_snoc _ _ _ _ _ hx]
      exact hs j _ x hx (ih (by omega))
  have := key g.queue.length (Nat.le_refl _)
  rw [List.take_length] at this
  exact this
theorem tick_out (s : GT × List Nat) (x : QT) : (tickStep s x = (s.1, s.2 ++ [x.id]) ∧ 24 ≤ s.1.now - x.at_) ∨ (tickStep s x = ({ s.1 with past := s.1.past ++ [{ x with at_ := s.1.now }] }, s.2 ++ [x.id]) ∧ ¬ 24 ≤ s.1.now - x.at_ ∧ s.1.fits x = true) ∨ (tickStep s x = ({ s.1 with queue := s.1.queue ++ [x] }, s.2) ∧ ¬ 24 ≤ s.1.now - x.at_ ∧ s.1.fits x = false) := by
  unfold tickStep
  by_cases h1 : 24 ≤ s.1.now - x.at_
  · exact .inl ⟨by rw [if_pos h1], h1⟩
  · cases hf : s.1.fits x with
    | true => exact .inr (.inl ⟨by rw [if_neg h1, if_pos rfl], h1, rfl⟩)
    | false => exact .inr (.inr ⟨by rw [if_neg h1, if_neg (by decide)], h1, rfl⟩)
structure Same (g g' : GT) (now : Nat) : Prop where
  l0 : g'.l0 = g.l0
  l1 : g'.l1 = g.l1
  l2 : g'.l2 = g.l2
  b0 : g'.b0 = g.b0
  b1 : g'.b1 = g.b1
  b2 : g'.b2 = g.b2
  now : g'.now = now
theorem Same.step {g : GT} {n : Nat} {s : GT × List Nat} (h : Same g s.1 n) (x : QT) : Same g (tickStep s x).1 n := by
  rcases tick_out s x with ⟨e, _⟩ | ⟨e, _⟩ | ⟨e, _⟩ <;> rw [e] <;> exact ⟨h.l0, h.l1, h.l2, h.b0, h.b1, h.b2, h.now⟩
theorem tick_same (g : GT) (h : Nat) : Same g (tick g h).1 (g.now + h) :=
  tick_fold g h (fun _ s => Same g s.1 (g.now + h)) ⟨rfl, rfl, rfl, rfl, rfl, rfl, rfl⟩ fun _ _ x _ hs => hs.step x
theorem tick_perm (g : GT) (h : Nat) : ((tick g h).2 ++ (tick g h).1.queue.map QT.id).Perm (g.queue.map QT.id) := by
  have := tick_fold g h (fun j s => (s.2 ++ s.1.queue.map QT.id).Perm ((g.queue.take j).map QT.id)) (List.Perm.refl _) fun j s x hx hs => by
    have e : (g.queue.take (j + 1)).map QT.id = (g.queue.take j).map QT.id ++ [x.id] := by rw [List.take_add_one, hx, Option.toList_some, List.map_append]; rfl
    rw [e]
    rcases tick_out s x with ⟨e, _⟩ | ⟨e, _⟩ | ⟨e, _⟩ <;> rw [e]
    · show (s.2 ++ [x.id] ++ s.1.queue.map QT.id).Perm _
      rw [List.append_assoc]
      refine (List.Perm.append_left s.2 List.perm_append_comm).trans ?_
      rw [← List.append_assoc]
      exact hs.append_right _
    · show (s.2 ++ [x.id] ++ s.1.queue.map QT.id).Perm _
      rw [List.append_assoc]
      refine (List.Perm.append_left s.2 List.perm_append_comm).trans ?_
      rw [← List.append_assoc]
      exact hs.append_right _
    · show (s.2 ++ (s.1.queue ++ [x]).map QT.id).Perm _
      rw [List.map_append, ← List.append_assoc]
      exact hs.append_right _
  rw [List.take_length] at this
  exact this
theorem tick_queue (g : GT) (h : Nat) : ∀ q ∈ (tick g h).1.queue, q ∈ g.queue :=
  tick_fold g h (fun _ s => ∀ q ∈ s.1.queue, q ∈ g.queue) (fun q hq => absurd hq List.not_mem_nil) fun j s x hx hs q hq => by
    rcases tick_out s x with ⟨e, _⟩ | ⟨e, _⟩ | ⟨e, _⟩ <;> rw [e] at hq
    · exact hs q hq
    · exact hs q hq
    · rcases List.mem_append.1 hq with hq | hq
      · exact hs q hq
      · rw [List.mem_singleton.1 hq]; exact List.mem_of_getElem? hx
theorem tick_past (g : GT) (h : Nat) : ∀ q ∈ (tick g h).1.past, ∃ y ∈ g.past ++ g.queue, y.id = q.id ∧ y.val = q.val ∧ y.ch = q.ch ∧ (y.at_ = q.at_ ∨ q.at_ = g.now + h) :=
  (tick_fold g h (fun _ s => Same g s.1 (g.now + h) ∧ ∀ q ∈ s.1.past, ∃ y ∈ g.past ++ g.queue, y.id = q.id ∧ y.val = q.val ∧ y.ch = q.ch ∧ (y.at_ = q.at_ ∨ q.at_ = g.now + h)) ⟨⟨rfl, rfl, rfl, rfl, rfl, rfl, rfl⟩, fun q hq => ⟨q, List.mem_append.2 (.inl (List.mem_filter.1 hq).1), rfl, rfl, rfl, .inl rfl⟩⟩ fun j s x hx hs => ⟨hs.1.step x, fun q hq => by
    rcases tick_out s x with ⟨e, _⟩ | ⟨e, _⟩ | ⟨e, _⟩ <;> rw [e] at hq
    · exact hs.2 q hq
    · rcases List.mem_append.1 hq with hq | hq
      · exact hs.2 q hq
      · rw [List.mem_singleton.1 hq]; exact ⟨x, List.mem_append.2 (.inr (List.mem_of_getElem? hx)), rfl, rfl, rfl, .inr hs.1.now⟩
    · exact hs.2 q hq⟩).2
theorem tick_ok (g : GT) (hg : g.ok) (h : Nat) (hn : g.now + h ≤ 1099511627776) : (tick g h).1.ok := by
  have hi := tick_inv g hg h g.queue.length (Nat.le_refl _)
  rw [List.take_length] at hi
  have hi : TickInv g h g.queue.length (tick g h) := hi
  have hsm := tick_same g h
  refine ⟨?_, by rw [hsm.now]; exact hn, hi.plen, Nat.le_trans hi.qlen hg.qlen, fun x hx => ?_, ?_⟩
  · rw [hsm.l0, hsm.l1, hsm.l2, hsm.b0, hsm.b1, hsm.b2]; exact hg.lims
  · rw [hsm.now]
    rcases List.mem_append.1 hx with hx | hx
    · obtain ⟨y, hy, e1, e2, e3, e4⟩ := tick_past g h x hx
      have := hg.each y hy
      rw [← e1, ← e2, ← e3]
      refine ⟨this.1, this.2.1, ?_, this.2.2.2⟩
      have := this.2.2.1
      rcases e4 with e4 | e4 <;> omega
    · have := hg.each x (List.mem_append.2 (.inr (tick_queue g h x hx)))
      exact ⟨this.1, this.2.1, by have := this.2.2.1; omega, this.2.2.2⟩
  · have key := tick_fold g h (fun j s => ((s.1.past ++ s.1.queue).map QT.id ++ (g.queue.drop j).map QT.id).Nodup) (by
      rw [List.drop_zero]
      show (((g.past.filter _) ++ []).map QT.id ++ g.queue.map QT.id).Nodup
      rw [List.append_nil, ← List.map_append]
      exact List.Nodup.sublist ((List.Sublist.append_right List.filter_sublist _).map _) hg.ids) fun j s x hx hs => by
      have hlt := (List.getElem?_eq_some_iff.1 hx).1
      have hxe := (List.getElem?_eq_some_iff.1 hx).2
      rw [List.drop_eq_getElem_cons hlt, List.map_cons, hxe] at hs
      rcases tick_out s x with ⟨e, _⟩ | ⟨e, _⟩ | ⟨e, _⟩ <;> rw [e]
      · exact List.Nodup.sublist (List.Sublist.append_left (List.sublist_cons_self _ _) _) hs
      · show ((s.1.past ++ [_] ++ s.1.queue).map QT.id ++ (g.queue.drop (j + 1)).map QT.id).Nodup
        refine (List.Perm.nodup_iff ?_).1 hs
        simp only [List.map_append, List.map_cons, List.map_nil, List.append_assoc]
        refine List.Perm.append_left _ ?_
        rw [← List.append_assoc, show ∀ (a : Nat) (l : List Nat), a :: l = [a] ++ l from fun _ _ => rfl, ← List.append_assoc]
        exact List.Perm.append_right _ List.perm_append_comm
      · show ((s.1.past ++ (s.1.queue ++ [x])).map QT.id ++ (g.queue.drop (j + 1)).map QT.id).Nodup
        simpa [List.append_assoc] using hs
    rw [List.drop_length, List.map_nil, List.append_nil] at key
    exact key
structure Start (g : GT) : Prop where
  past : g.past = []
  queue : g.queue = []
  now : g.now < 50
  lims : ∀ x ∈ [g.l0, g.l1, g.l2, g.b0, g.b1, g.b2], x < 150
theorem Start.ok {g : GT} (h : Start g) : g.ok :=
  ⟨fun x hx => by have := h.lims x hx; omega, by have := h.now; omega, by rw [h.past]; exact Nat.zero_le _, by rw [h.queue]; exact Nat.zero_le _, by rw [h.past, h.queue]; exact fun x hx => absurd hx List.not_mem_nil, by rw [h.past, h.queue]; exact List.nodup_nil⟩
end Go.Proofs.YtcfefmbbbfdppaaGreatDoor
namespace Go.Proofs.YtcfefmbbbfdppaaGreatDoor
open Go.RowKit Go.Lib Go.IntWalk
set_option linter.unusedVariables false
theorem fits_big {g : GT} {x : QT} (h : g.fits x = true) : x.val < g.big x.ch ∧ used x.ch g.now g.past + x.val ≤ g.lim x.ch ∧ g.past.length < 40 := by
  unfold GT.fits at h
  simpa only [Bool.and_eq_true, decide_eq_true_eq] using h
theorem pass_ok {g : GT} (hg : g.ok) {x : QT} (hx : x.val ≤ 1073741824 ∧ x.ch < 3 ∧ x.at_ ≤ g.now ∧ x.id < 1099511627776) (hn : ∀ q ∈ g.past ++ g.queue, q.id ≠ x.id) (hl : g.past.length < 40) : (g.pass x).ok := by
  refine ⟨hg.lims, hg.now, by show (g.past ++ [x]).length ≤ 40; rw [List.length_append]; simp; omega, hg.qlen, fun y hy => ?_, ?_⟩
  · have hy : y ∈ (g.past ++ [x]) ++ g.queue := hy
    rcases List.mem_append.1 hy with hy | hy
    · rcases List.mem_append.1 hy with hy | hy
      · exact hg.each y (List.mem_append.2 (.inl hy))
      · rw [List.mem_singleton.1 hy]; exact hx
    · exact hg.each y (List.mem_append.2 (.inr hy))
  · show (((g.past ++ [x]) ++ g.queue).map QT.id).Nodup
    have : (x.id :: (g.past ++ g.queue).map QT.id).Nodup := List.nodup_cons.2 ⟨fun hm => by
      obtain ⟨q, hq, e⟩ := List.mem_map.1 hm
      exact hn q hq e, hg.ids⟩
    refine (List.Perm.nodup_iff ?_).1 this
    simp only [List.map_append, List.map_cons, List.append_assoc, List.singleton_append]
    exact List.perm_middle.symm
theorem hold_ok {g : GT} (hg : g.ok) {x : QT} (hx : x.val ≤ 1073741824 ∧ x.ch < 3 ∧ x.at_ ≤ g.now ∧ x.id < 1099511627776) (hn : ∀ q ∈ g.past ++ g.queue, q.id ≠ x.id) (hl : g.queue.length < 40) : (g.hold x).ok := by
  refine ⟨hg.lims, hg.now, hg.plen, by show (g.queue ++ [x]).length ≤ 40; rw [List.length_append]; simp; omega, fun y hy => ?_, ?_⟩
  · have hy : y ∈ g.past ++ (g.queue ++ [x]) := hy
    rw [← List.append_assoc] at hy
    rcases List.mem_append.1 hy with hy | hy
    · exact hg.each y hy
    · rw [List.mem_singleton.1 hy]; exact hx
  · show ((g.past ++ (g.queue ++ [x])).map QT.id).Nodup
    have : (x.id :: (g.past ++ g.queue).map QT.id).Nodup := List.nodup_cons.2 ⟨fun hm => by
      obtain ⟨q, hq, e⟩ := List.mem_map.1 hm
      exact hn q hq e, hg.ids⟩
    refine (List.Perm.nodup_iff ?_).1 this
    rw [← List.append_assoc, List.map_append (l₁ := g.past ++ g.queue)]
    exact (List.perm_append_singleton _ _).symm
end Go.Proofs.YtcfefmbbbfdppaaGreatDoor
namespace Go.Proofs.YtcfefmbbbfdppaaGreatDoor
open Go.RowKit Go.Lib Go.IntWalk
set_option linter.unusedVariables false
set_option maxRecDepth 100000
def GuT.keep (x : GuT) (r : List UInt8) : GuT := ⟨x.f, x.g, x.la ++ rec8 r, [], x.hd, x.dn⟩
def GuT.take (x : GuT) (b : BodyT) (am : Nat) : GuT := if x.g.fits (qOf x b am) = true then x.pass b am else x.hold b am
def GuT.meet (x : GuT) (b : BodyT) (am : Nat) : GuT := (x.take b am).keep (1 :: b.out)
section
variable (x : GuT) (h : x.ok) (b : BodyT) (hb : b.ok) (hc3 : b.c < 3) (hu : b.u < 256)
include h hb hc3 hu
section
variable (am : Nat) (hw : Wor b am) (hn : ∀ q ∈ x.g.past ++ x.g.queue, q.id ≠ b.id) (hq : x.g.queue.length < 40) (h1 : x.hd.length < 200) (h2 : x.dn.length < 200)
include hw hn hq h1 h2
theorem gtake_ok : (x.take b am).ok := by
  have hidl : b.id < 1099511627776 := by unfold BodyT.id; omega
  have hqo : (qOf x b am).val ≤ 1073741824 ∧ (qOf x b am).ch < 3 ∧ (qOf x b am).at_ ≤ x.g.now ∧ (qOf x b am).id < 1099511627776 := ⟨hw.1, hc3, Nat.le_refl _, hidl⟩
  have ml : ∀ (l : List BodyT), Ml l → l.length < 200 → Ml (l ++ [b]) := fun l hl h => ⟨fun c hc => by
    rcases List.mem_append.1 hc with hc | hc
    · exact hl.ok c hc
    · rw [List.mem_singleton.1 hc]; exact hb, by rw [List.length_append]; simp; omega⟩
  unfold GuT.take
  by_cases hf : x.g.fits (qOf x b am) = true
  · rw [if_pos hf]
    exact ⟨h.f, pass_ok h.g hqo hn (fits_big hf).2.2, h.log, h.hd, ml _ h.dn h2⟩
  · rw [if_neg hf]
    exact ⟨h.f, hold_ok h.g hqo hn hq, h.log, ml _ h.hd h1, h.dn⟩
set_option maxHeartbeats 16000000 in
theorem meet_new (hsi : x.si = []) (hk : knowsB b.id (x.dn ++ x.hd) = false) (n : Nat) (hbo : b.out.length = n) (hn9 : n ≤ 199) (hl : x.la.length + n + 4 ≤ 9000) : Pur Tryz.prog 26 [.agg x.cells, .agg b.cells] (.tup [.agg (x.meet b am).cells, .bool true]) := by
  have hmt := meeting_ok b hb n hbo
  have hi := Id_ok b hb
  have hkn := knows_ok x h b.id false hk
  have hfr := fresh_fn x h
  have hto := gtake_ok x h b hb hc3 hu am hw hn hq h1 h2
  have hkp := kept_ok (x.take b am) hto (by unfold GuT.take; split <;> exact hsi) (1 :: b.out) (by rw [List.length_cons]; omega) (by rw [List.length_cons]; unfold GuT.take; split <;> (show x.la.length + _ + _ ≤ _; omega))
  rw [show (1 :: b.out).length = 1 + n by rw [List.length_cons]; omega] at hkp
  have hball := bd_all hb.e
  have hbu := bd_at hb.e 0 _ rfl
  have hbc := bd_cls b
  have hbcl := bd_cl b
  have hbfz := bd_fz b
  have hbfz1 : D.fzs b.cells = b.cells := by have := hbfz; simpa [D.fzs, D.fz] using this
  have hbc1 : (D.agg b.cells).cl = true := hbc
  have hcc : ∀ ze, cut ⟨false, 1, ze⟩ 2 b.cells = some (.int .i64 (b.c : Int)) := fun _ => rfl
  have hlb : D.lalls (below 2) b.cells = true := cls_lalls _ _ hbc
  have hub : ∀ f, Ups b.cells (D.rens f b.cells) := fun f => cls_ups _ _ hbc
  have hur := hb.u
  unfold GuT.meet
  have mfp := fun hf => Met_pass x h b hb hc3 hu am hw hn (by omega) hf
  have mfh := fun hf => Met_hold x h b hb hc3 hu am hw hn (by omega) hf
  generalize bs (1 :: b.out) = yr at *
  cases hf : x.g.fits (qOf x b am) with
  | true =>
    have hmm := mfp hf
    clear mfp mfh
    unfold GuT.take at *
    rw [if_pos hf] at *
    unfold GuT.keep
    generalize rec8 (1 :: b.out) = rr at *
    generalize x.pass b am = y at *
    unfold guO GuT.cells guC bD mD at *
    generalize bdC x.hd = y1 at *
    generalize bdC x.dn = y2 at *
    generalize bs x.la = y3 at *
    generalize bs x.si = y4 at *
    generalize bdC y.hd = v1 at *
    generalize bdC y.dn = v2 at *
    generalize bs y.la = v3 at *
    generalize bs y.si = v4 at *
    generalize bs (y.la ++ rr) = v5 at *
    generalize qsC x.f.past = z1 at *
    generalize qsC x.f.queue = z2 at *
    generalize qsC x.g.past = z3 at *
    generalize qsC x.g.queue = z4 at *
    generalize qsC y.f.past = w1 at *
    generalize qsC y.f.queue = w2 at *
    generalize qsC y.g.past = w3 at *
    generalize qsC y.g.queue = w4 at *
    generalize hbce : b.cells = bc at *
    generalize b.id = bi at *
    generalize b.c = bch at *
    generalize b.u = bu at *
    refine pur_intro Tryz.func26 rfl Tryz.ntmps26 rfl (by first | rfl | assumption | exact bs_cl _) fun B => ?_
    repeat (first | refine zC ?_ | refine k_load rfl rfl rfl (hball _) ?_ | refine k_load rfl rfl rfl (hcc _) ?_ | refine k_load rfl rfl rfl (by exact hbu _ _ rfl) ?_ | refine zA ?_ | refine k_call rfl hmt rfl hbfz hbcl rfl ?_ | refine k_call rfl hi rfl hbfz hbcl rfl ?_ | refine k_call rfl hkn rfl rfl rfl rfl ?_ | refine k_callf (fun l => l + 3) [0, 1] (5) rfl (hfr) rfl (by exact zus) (rfl) (by exact zmf) rfl rfl rfl rfl (rfl) (rfl) rfl rfl rfl rfl ?_ | refine k_callf (fun l => l + 3) [0, 1, 2] (6) rfl (hmm) rfl (.cons (.refl _) (.cons (.agg_ (hub _)) .nil)) ((by show (_ && (D.lalls (below 2) bc && true)) = true; rw [hlb]; rfl)) (by exact zmf) rfl rfl rfl rfl (rfl) (rfl) rfl rfl rfl rfl ?_ | refine k_call rfl hkp rfl rfl rfl rfl ?_ | refine zB ?_)
    (first | with_reducible refine q_endr ?_); refine rets2 Tryz.results26 (by exact zv) (by exact zv) ?_ ?_
    · rfl
    · rfl
  | false =>
    have hmm := mfh hf
    clear mfp mfh
    unfold GuT.take at *
    rw [if_neg (by rw [hf]; decide)] at *
    unfold GuT.keep
    generalize rec8 (1 :: b.out) = rr at *
    generalize x.hold b am = y at *
    unfold guO GuT.cells guC bD mD at *
    generalize bdC x.hd = y1 at *
    generalize bdC x.dn = y2 at *
    generalize bs x.la = y3 at *
    generalize bs x.si = y4 at *
    generalize bdC y.hd = v1 at *
    generalize bdC y.dn = v2 at *
    generalize bs y.la = v3 at *
    generalize bs y.si = v4 at *
    generalize bs (y.la ++ rr) = v5 at *
    generalize qsC x.f.past = z1 at *
    generalize qsC x.f.queue = z2 at *
    generalize qsC x.g.past = z3 at *
    generalize qsC x.g.queue = z4 at *
    generalize qsC y.f.past = w1 at *
    generalize qsC y.f.queue = w2 at *
    generalize qsC y.g.past = w3 at *
    generalize qsC y.g.queue = w4 at *
    generalize hbce : b.cells = bc at *
    generalize b.id = bi at *
    generalize b.c = bch at *
    generalize b.u = bu at *
    refine pur_intro Tryz.func26 rfl Tryz.ntmps26 rfl (by first | rfl | assumption | exact bs_cl _) fun B => ?_
    repeat (first | refine zC ?_ | refine k_load rfl rfl rfl (hball _) ?_ | refine k_load rfl rfl rfl (hcc _) ?_ | refine k_load rfl rfl rfl (by exact hbu _ _ rfl) ?_ | refine zA ?_ | refine k_call rfl hmt rfl hbfz hbcl rfl ?_ | refine k_call rfl hi rfl hbfz hbcl rfl ?_ | refine k_call rfl hkn rfl rfl rfl rfl ?_ | refine k_callf (fun l => l + 3) [0, 1] (5) rfl (hfr) rfl (by exact zus) (rfl) (by exact zmf) rfl rfl rfl rfl (rfl) (rfl) rfl rfl rfl rfl ?_ | refine k_callf (fun l => l + 3) [0, 1, 2] (6) rfl (hmm) rfl (.cons (.refl _) (.cons (.agg_ (hub _)) .nil)) ((by show (_ && (D.lalls (below 2) bc && true)) = true; rw [hlb]; rfl)) (by exact zmf) rfl rfl rfl rfl (rfl) (rfl) rfl rfl rfl rfl ?_ | refine k_call rfl hkp rfl rfl rfl rfl ?_ | refine zB ?_)
    (first | with_reducible refine q_endr ?_); refine rets2 Tryz.results26 (by exact zv) (by exact zv) ?_ ?_
    · rfl
    · rfl
end
set_option maxHeartbeats 16000000 in
theorem meet_known (hk : knowsB b.id (x.dn ++ x.hd) = true) (n : Nat) (hbo : b.out.length = n) (hn9 : n ≤ 199) : Pur Tryz.prog 26 [.agg x.cells, .agg b.cells] (.tup [.agg x.cells, .bool false]) := by
  have hmt := meeting_ok b hb n hbo
  have hi := Id_ok b hb
  have hkn := knows_ok x h b.id true hk
  have hball := bd_all hb.e
  have hbu := bd_at hb.e 0 _ rfl
  have hbcl := bd_cl b
  have hbfz := bd_fz b
  have hcc : ∀ ze, cut ⟨false, 1, ze⟩ 2 b.cells = some (.int .i64 (b.c : Int)) := fun _ => rfl
  have hur := hb.u
  generalize bs (1 :: b.out) = yr at *
  unfold GuT.cells guC bD mD at *
  generalize bdC x.hd = y1 at *
  generalize bdC x.dn = y2 at *
  generalize bs x.la = y3 at *
  generalize bs x.si = y4 at *
  generalize qsC x.f.past = z1 at *
  generalize qsC x.f.queue = z2 at *
  generalize qsC x.g.past = z3 at *
  generalize qsC x.g.queue = z4 at *
  generalize hbce : b.cells = bc at *
  generalize b.id = bi at *
  generalize b.c = bch at *
  generalize b.u = bu at *
  refine pur_intro Tryz.func26 rfl Tryz.ntmps26 rfl (by first | rfl | assumption | exact bs_cl _) fun B => ?_
  repeat (first | refine zC ?_ | refine k_load rfl rfl rfl (hball _) ?_ | refine k_load rfl rfl rfl (hcc _) ?_ | refine k_load rfl rfl rfl (by exact hbu _ _ rfl) ?_ | refine zA ?_ | refine k_call rfl hmt rfl hbfz hbcl rfl ?_ | refine k_call rfl hi rfl hbfz hbcl rfl ?_ | refine k_call rfl hkn rfl rfl rfl rfl ?_ | refine zB ?_)
  (first | with_reducible refine q_endr ?_); refine rets2 Tryz.results26 (by exact zv) (by exact zv) ?_ ?_
  · rfl
  · rfl
end
end Go.Proofs.YtcfefmbbbfdppaaGreatDoor
namespace Go.Proofs.YtcfefmbbbfdppaaGreatDoor
open Go.RowKit Go.Lib Go.IntWalk
set_option linter.unusedVariables false
set_option maxRecDepth 100000
def hrs (n : Nat) : List UInt8 := [2, UInt8.ofNat (n / 256), UInt8.ofNat n]
def GuT.wait (x : GuT) (n : Nat) : GuT := (x.gone n).keep (hrs n)
set_option maxHeartbeats 16000000 in
theorem Hours_ok (x : GuT) (h : x.ok) (n : Nat) (h1 : 1 ≤ n) (h2 : n ≤ 1000) (h3 : x.g.now + n ≤ 1099511627776) (hR : RInv (x.hd, x.dn) (tick x.g n).2 (x.hd.length + x.dn.length)) (hy : (x.gone n).ok) (hsi : x.si = []) (hl : x.la.length + 6 ≤ 9000) : Pur Tryz.prog 17 [.agg x.cells, .int .i64 (n : Int)] (.tup [.agg (x.wait n).cells, .int .i64 0]) := by
  have hfr := fresh_fn x h
  have hps0 := fun h0 : (tick x.g n).2.length = 0 => Passed_own x h n h1 h2 h3 hR 0 1 (.inl ⟨h0, rfl, rfl⟩)
  have hps1 := fun h0 : 0 < (tick x.g n).2.length => Passed_own x h n h1 h2 h3 hR 2 3 (.inr ⟨h0, rfl, rfl⟩)
  generalize (tick x.g n).2.length = qn at hps0 hps1
  have hho := hours_ok n h2
  have hkp := kept_ok (x.gone n) hy hsi (hrs n) (by show 3 ≤ 200; decide) (by show x.la.length + 3 + 3 ≤ 9000; omega)
  unfold GuT.wait GuT.keep
  have hrl : (hrs n).length = 3 := rfl
  rw [hrl] at hkp
  unfold hrs at *
  generalize bs [2, UInt8.ofNat (n / 256), UInt8.ofNat n] = yr at *
  generalize rec8 [2, UInt8.ofNat (n / 256), UInt8.ofNat n] = rr at *
  generalize x.gone n = y at *
  unfold guO GuT.cells guC bD mD at *
  generalize bdC x.hd = y1 at *
  generalize bdC x.dn = y2 at *
  generalize bs x.la = y3 at *
  generalize bs x.si = y4 at *
  generalize qsC x.f.past = z1 at *
  generalize qsC x.f.queue = z2 at *
  generalize qsC x.g.past = z3 at *
  generalize qsC x.g.queue = z4 at *
  generalize bdC y.hd = v1 at *
  generalize bdC y.dn = v2 at *
  generalize bs y.la = v3 at *
  generalize bs y.si = v4 at *
  generalize qsC y.f.past = w1 at *
  generalize qsC y.f.queue = w2 at *
  generalize qsC y.g.past = w3 at *
  generalize qsC y.g.queue = w4 at *
  generalize bs (y.la ++ rr) = v5 at *
  rcases Nat.eq_zero_or_pos qn with hq0 | hq0
  · have hps := hps0 hq0
    clear hps0 hps1
    refine pur_intro Tryz.func17 rfl Tryz.ntmps17 rfl (by first | rfl | assumption | exact bs_cl _) fun B => ?_
    repeat (first | refine zC ?_ | refine zA ?_ | refine k_call rfl hho rfl rfl rfl rfl ?_ | refine k_call rfl hkp rfl rfl rfl rfl ?_ | refine k_callf (fun l => l + 2) [0, 1] (4) rfl (hfr) rfl (by exact zus) (rfl) (by exact zmf) rfl rfl rfl rfl (rfl) (rfl) rfl rfl rfl rfl ?_ | refine k_callf (fun l => l + 2) [0, 1] (4) rfl (hps) rfl (by exact zus) (rfl) (by exact zmf) rfl rfl rfl rfl (rfl) (rfl) rfl rfl rfl rfl ?_ | refine zB ?_)
    (first | with_reducible refine q_endr ?_); refine rets2 Tryz.results17 (by exact zv) (by exact zv) ?_ ?_
    · rfl
    · rfl
  · have hps := hps1 hq0
    clear hps0 hps1
    refine pur_intro Tryz.func17 rfl Tryz.ntmps17 rfl (by first | rfl | assumption | exact bs_cl _) fun B => ?_
    repeat (first | refine zC ?_ | refine zA ?_ | refine k_call rfl hho rfl rfl rfl rfl ?_ | refine k_call rfl hkp rfl rfl rfl rfl ?_ | refine k_callf (fun l => l + 2) [0, 1] (4) rfl (hfr) rfl (by exact zus) (rfl) (by exact zmf) rfl rfl rfl rfl (rfl) (rfl) rfl rfl rfl rfl ?_ | refine k_callf (fun l => l + 2) [0, 1, 2, 3] (6) rfl (hps) rfl (by exact zus) (rfl) (by exact zmf) rfl rfl rfl rfl (rfl) (rfl) rfl rfl rfl rfl ?_ | refine zB ?_)
    (first | with_reducible refine q_endr ?_); refine rets2 Tryz.results17 (by exact zv) (by exact zv) ?_ ?_
    · rfl
    · rfl
set_option maxHeartbeats 16000000 in
theorem See_ok (x : GuT) (h : x.ok) (l : List BodyT) (hl : ∀ b ∈ l, b.ok) (N : Nat) (hN : l.length = N) (hN2 : N ≤ 400) (S : Nat → GuT × Nat) (h0 : S 0 = (x, 0))
    (hS : ∀ j b, l[j]? = some b → ∃ r : Bool, Pur Tryz.prog 26 [.agg (S j).1.cells, .agg b.cells] (.tup [.agg (S (j + 1)).1.cells, .bool r]) ∧ (r = true → (S (j + 1)).2 = (S j).2 + 1) ∧ (r = false → S (j + 1) = S j)) : Pur Tryz.prog 8 [.agg x.cells, .slice .frozen N (bdC l)] (.tup [.agg (S N).1.cells, .int .i64 ((S N).2 : Int)]) := by
  have hfr := fresh_ok x h
  have hcut := bdC_cut l fun b hb => (hl b hb).e
  have hbz : N * 38 = (bdC l).length := by rw [bdC_len l fun b hb => (hl b hb).e, hN]
  generalize bdC l = zl at *
  have hx0 : (S 0).1 = x := by rw [h0]
  have hn0 : (S 0).2 = 0 := by rw [h0]
  have hle : ∀ j, j ≤ N → (S j).2 ≤ j := by
    intro j
    induction j with
    | zero => intro _; rw [hn0]; exact Nat.le_refl _
    | succ j ih =>
      intro hj
      have ih := ih (by omega)
      obtain ⟨r, _, r1, r2⟩ := hS j _ (List.getElem?_eq_getElem (by omega))
      cases r with
      | true => rw [r1 rfl]; omega
      | false => rw [r2 rfl]; omega
  clear h0
  subst hx0
  unfold GuT.cells guC bD mD at *
  refine pur_intro Tryz.func8 rfl Tryz.ntmps8 rfl (by first | rfl | assumption | exact bs_cl _) fun B => ?_
  repeat (first | refine zC ?_ | refine zA ?_ | refine k_call rfl hfr rfl rfl rfl rfl ?_ | refine zB ?_)
  refine W_loopW (fun n' ρ m nx => ∃ (j k : Nat) (y : GuT), j ≤ N ∧ y = (S j).1 ∧ k = (S j).2 ∧ n' = N - j ∧ ρ = [(15, .int .i64 (j : Int)), (14, .int .i64 (N : Int)), (13, .slice .frozen N zl), (6, .int .i64 (k : Int)), (5, .int .i64 0), (4, .ptr 1 0), (2, .ptr 0 0)] ∧ m = [(1, some (.var 37 [.int .u64 0, .int .u64 0, .int .u64 0, .int .u64 0, .int .i64 0, .int .i64 0, .int .i64 0, .int .i64 0, .int .i64 0, .int .i64 0, .int .i64 0, .slice .nil 0 [], .slice .nil 0 [], .int .i64 0, .int .i64 0, .int .i64 0, .int .i64 0, .int .i64 0, .int .i64 0, .int .i64 0, .slice .nil 0 [], .slice .nil 0 [], .slice .nil 0 [], .slice .nil 0 [], .slice .nil 0 [], .slice .nil 0 []])), (0, some (.var 37 [.int .u64 5, .int .u64 0, .int .u64 0, .int .u64 0, .int .i64 y.f.l0, .int .i64 y.f.l1, .int .i64 y.f.l2, .int .i64 y.f.b0, .int .i64 y.f.b1, .int .i64 y.f.b2, .int .i64 y.f.now, .slice .frozen y.f.past.length (qsC y.f.past), .slice .frozen y.f.queue.length (qsC y.f.queue), .int .i64 y.g.l0, .int .i64 y.g.l1, .int .i64 y.g.l2, .int .i64 y.g.b0, .int .i64 y.g.b1, .int .i64 y.g.b2, .int .i64 y.g.now, .slice .frozen y.g.past.length (qsC y.g.past), .slice .frozen y.g.queue.length (qsC y.g.queue), .slice .frozen y.la.length (bs y.la), .slice .frozen y.si.length (bs y.si), .slice .frozen y.hd.length (bdC y.hd), .slice .frozen y.dn.length (bdC y.dn)]))] ∧ nx = 2)
    ⟨_, _, _, _, (by exact zF (fun l => l)), 0, 0, _, Nat.zero_le _, rfl, hn0.symm, rfl, rfl, rfl, rfl⟩ ?_
  rintro n' ρ m nx ⟨j, k, y, hj, hy, hk, rfl, rfl, rfl, rfl⟩
  have hkj := hle j hj
  rw [← hk] at hkj
  by_cases hlt : j < N
  · obtain ⟨b, hb⟩ : ∃ b, l[j]? = some b := ⟨_, List.getElem?_eq_getElem (by omega)⟩
    have hcb := hcut j b hb
    have hbe := (hl b (List.mem_of_getElem? hb)).e
    have hbl := bd_len hbe
    have hball := bd_all hbe
    have hbput := bd_put hbe
    have hbfz := bd_fz b
    have hbcl := bd_cl b
    have hb38 : (D.agg b.cells).cells.length = 38 := hbl
    obtain ⟨r, hm, r1, r2⟩ := hS j b hb
    rw [← hy] at hm
    obtain ⟨y2, hy2⟩ : ∃ y2, (S (j + 1)).1 = y2 := ⟨_, rfl⟩
    rw [hy2] at hm
    generalize hbce : b.cells = bc at *
    cases r with
    | true =>
      have hr := r1 rfl
      repeat (first | refine zC ?_ | (refine k_indexAddrs rfl rfl rfl ⟨?_, ?_⟩ hbz ?_; (omega); (omega)) | refine k_loade rfl rfl (hcb _) ?_ | refine k_store rfl rfl rfl rfl (by exact hb38) rfl (by exact hbput _ rfl) ?_ | refine k_load rfl rfl rfl (hball _) ?_ | refine zA ?_ | (refine k_call rfl hm rfl ?_ ?_ rfl ?_; (show (_ :: D.fzs [D.agg bc]) = _; rw [hbfz]; rfl); (show (_ && D.cls [D.agg bc]) = true; rw [hbcl]; rfl)) | refine zB ?_)
      exact ⟨N - (j + 1), _, _, _, (by exact zF (fun l => l)), by omega, j + 1, k + 1, y2, by omega, hy2.symm, by rw [hr, hk], rfl, rfl, rfl, rfl⟩
    | false =>
      have hr := r2 rfl
      repeat (first | refine zC ?_ | (refine k_indexAddrs rfl rfl rfl ⟨?_, ?_⟩ hbz ?_; (omega); (omega)) | refine k_loade rfl rfl (hcb _) ?_ | refine k_store rfl rfl rfl rfl (by exact hb38) rfl (by exact hbput _ rfl) ?_ | refine k_load rfl rfl rfl (hball _) ?_ | refine zA ?_ | (refine k_call rfl hm rfl ?_ ?_ rfl ?_; (show (_ :: D.fzs [D.agg bc]) = _; rw [hbfz]; rfl); (show (_ && D.cls [D.agg bc]) = true; rw [hbcl]; rfl)) | refine zB ?_)
      exact ⟨N - (j + 1), _, _, _, (by exact zF (fun l => l)), by omega, j + 1, k, y, by omega, by rw [hr, hy], by rw [hr, hk], rfl, rfl, rfl, rfl⟩
  · have ej : j = N := by omega
    subst ej
    rw [← hy, ← hk]
    refine zR ?_
    (first | with_reducible refine q_endr ?_); refine rets2 Tryz.results8 (by exact zv) (by exact zv) ?_ ?_
    · rfl
    · rfl
end Go.Proofs.YtcfefmbbbfdppaaGreatDoor
