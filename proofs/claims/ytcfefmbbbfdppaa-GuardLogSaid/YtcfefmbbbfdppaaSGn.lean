/- The laws' gateOf. No conditions. -/
import Derived.Test.YtcfefmbbbfdppaaSGate4
import Derived.Test.YtcfefmbbbfdppaaSGd
import Derived.Test.YtcfefmbbbfdppaaSGg
import Derived.Test.YtcfefmbbbfdppaaSDInst
import Derived.Test.YtcfefmbbbfdppaaSDK2
namespace Go.Proofs.Ytcfefmbbbfdppaa
open Go.RowKit
set_option linter.unusedVariables false
set_option maxRecDepth 100000
theorem tick_fold (g : GT) (h : Nat) (I : Nat → GT × List Nat → Prop) (h0 : I 0 (g.later h, [])) (hs : ∀ j s x, g.queue[j]? = some x → I j s → I (j + 1) (tickStep s x)) : I g.queue.length (tick g h) := by
  have key : ∀ j, j ≤ g.queue.length → I j ((g.queue.take j).foldl tickStep (g.later h, [])) := by
    intro j
    induction j with
    | zero => exact fun _ => h0
    | succ j ih =>
      intro hj
      obtain ⟨x, hx⟩ : ∃ x, g.queue[j]? = some x := ⟨_, List.getElem?_eq_getElem (by omega)⟩
      rw [foldl_snoc _ _ _ _ _ hx]
      exact hs j _ x hx (ih (by omega))
  have := key g.queue.length (Nat.le_refl _)
  rw [List.take_length] at this
  exact this
theorem tick_out (s : GT × List Nat) (x : QT) : (tickStep s x = (s.1, s.2 ++ [x.id]) ∧ 24 ≤ s.1.now - x.at_) ∨ (tickStep s x = ({ s.1 with past := s.1.past ++ [{ x with at_ := s.1.now }] }, s.2 ++ [x.id]) ∧ ¬ 24 ≤ s.1.now - x.at_ ∧ s.1.fits x = true) ∨ (tickStep s x = ({ s.1 with queue := s.1.queue ++ [x] }, s.2) ∧ ¬ 24 ≤ s.1.now - x.at_ ∧ s.1.fits x = false) := by
  unfold tickStep
  by_cases h1 : 24 ≤ s.1.now - x.at_
  · exact .inl ⟨by rw [if_pos h1], h1⟩
  · cases hf : s.1.fits x with
    | true => exact .inr (.inl ⟨by rw [if_neg h1, if_pos rfl], h1, rfl⟩)
    | false => exact .inr (.inr ⟨by rw [if_neg h1, if_neg (by decide)], h1, rfl⟩)
structure Same (g g' : GT) (now : Nat) : Prop where
  l0 : g'.l0 = g.l0
  l1 : g'.l1 = g.l1
  l2 : g'.l2 = g.l2
  b0 : g'.b0 = g.b0
  b1 : g'.b1 = g.b1
  b2 : g'.b2 = g.b2
  now : g'.now = now
theorem Same.step {g : GT} {n : Nat} {s : GT × List Nat} (h : Same g s.1 n) (x : QT) : Same g (tickStep s x).1 n := by
  rcases tick_out s x with ⟨e, _⟩ | ⟨e, _⟩ | ⟨e, _⟩ <;> rw [e] <;> exact ⟨h.l0, h.l1, h.l2, h.b0, h.b1, h.b2, h.now⟩
theorem tick_same (g : GT) (h : Nat) : Same g (tick g h).1 (g.now + h) :=
  tick_fold g h (fun _ s => Same g s.1 (g.now + h)) ⟨rfl, rfl, rfl, rfl, rfl, rfl, rfl⟩ fun _ _ x _ hs => hs.step x
theorem tick_perm (g : GT) (h : Nat) : ((tick g h).2 ++ (tick g h).1.queue.map QT.id).Perm (g.queue.map QT.id) := by
  have := tick_fold g h (fun j s => (s.2 ++ s.1.queue.map QT.id).Perm ((g.queue.take j).map QT.id)) (List.Perm.refl _) fun j s x hx hs => by
    have e : (g.queue.take (j + 1)).map QT.id = (g.queue.take j).map QT.id ++ [x.id] := by rw [List.take_add_one, hx, Option.toList_some, List.map_append]; rfl
    rw [e]
    rcases tick_out s x with ⟨e, _⟩ | ⟨e, _⟩ | ⟨e, _⟩ <;> rw [e]
    · show (s.2 ++ [x.id] ++ s.1.queue.map QT.id).Perm _
      rw [List.append_assoc]
      refine (List.Perm.append_left s.2 List.perm_append_comm).trans ?_
      rw [← List.append_assoc]
      exact hs.append_right _
    · show (s.2 ++ [x.id] ++ s.1.queue.map QT.id).Perm _
      rw [List.append_assoc]
      refine (List.Perm.append_left s.2 List.perm_append_comm).trans ?_
      rw [← List.append_assoc]
      exact hs.append_right _
    · show (s.2 ++ (s.1.queue ++ [x]).map QT.id).Perm _
      rw [List.map_append, ← List.append_assoc]
      exact hs.append_right _
  rw [List.take_length] at this
  exact this
theorem tick_queue (g : GT) (h : Nat) : ∀ q ∈ (tick g h).1.queue, q ∈ g.queue :=
  tick_fold g h (fun _ s => ∀ q ∈ s.1.queue, q ∈ g.queue) (fun q hq => absurd hq List.not_mem_nil) fun j s x hx hs q hq => by
    rcases tick_out s x with ⟨e, _⟩ | ⟨e, _⟩ | ⟨e, _⟩ <;> rw [e] at hq
    · exact hs q hq
    · exact hs q hq
    · rcases List.mem_append.1 hq with hq | hq
      · exact hs q hq
      · rw [List.mem_singleton.1 hq]; exact List.mem_of_getElem? hx
theorem tick_past (g : GT) (h : Nat) : ∀ q ∈ (tick g h).1.past, ∃ y ∈ g.past ++ g.queue, y.id = q.id ∧ y.val = q.val ∧ y.ch = q.ch ∧ (y.at_ = q.at_ ∨ q.at_ = g.now + h) :=
  (tick_fold g h (fun _ s => Same g s.1 (g.now + h) ∧ ∀ q ∈ s.1.past, ∃ y ∈ g.past ++ g.queue, y.id = q.id ∧ y.val = q.val ∧ y.ch = q.ch ∧ (y.at_ = q.at_ ∨ q.at_ = g.now + h)) ⟨⟨rfl, rfl, rfl, rfl, rfl, rfl, rfl⟩, fun q hq => ⟨q, List.mem_append.2 (.inl (List.mem_filter.1 hq).1), rfl, rfl, rfl, .inl rfl⟩⟩ fun j s x hx hs => ⟨hs.1.step x, fun q hq => by
    rcases tick_out s x with ⟨e, _⟩ | ⟨e, _⟩ | ⟨e, _⟩ <;> rw [e] at hq
    · exact hs.2 q hq
    · rcases List.mem_append.1 hq with hq | hq
      · exact hs.2 q hq
      · rw [List.mem_singleton.1 hq]; exact ⟨x, List.mem_append.2 (.inr (List.mem_of_getElem? hx)), rfl, rfl, rfl, .inr hs.1.now⟩
    · exact hs.2 q hq⟩).2
theorem tick_ok (g : GT) (hg : g.ok) (h : Nat) (hn : g.now + h ≤ 1099511627776) : (tick g h).1.ok := by
  have hi := tick_inv g hg h g.queue.length (Nat.le_refl _)
  rw [List.take_length] at hi
  have hi : TickInv g h g.queue.length (tick g h) := hi
  have hsm := tick_same g h
  refine ⟨?_, by rw [hsm.now]; exact hn, hi.plen, Nat.le_trans hi.qlen hg.qlen, fun x hx => ?_, ?_⟩
  · rw [hsm.l0, hsm.l1, hsm.l2, hsm.b0, hsm.b1, hsm.b2]; exact hg.lims
  · rw [hsm.now]
    rcases List.mem_append.1 hx with hx | hx
    · obtain ⟨y, hy, e1, e2, e3, e4⟩ := tick_past g h x hx
      have := hg.each y hy
      rw [← e1, ← e2, ← e3]
      refine ⟨this.1, this.2.1, ?_, this.2.2.2⟩
      have := this.2.2.1
      rcases e4 with e4 | e4 <;> omega
    · have := hg.each x (List.mem_append.2 (.inr (tick_queue g h x hx)))
      exact ⟨this.1, this.2.1, by have := this.2.2.1; omega, this.2.2.2⟩
  · have key := tick_fold g h (fun j s => ((s.1.past ++ s.1.queue).map QT.id ++ (g.queue.drop j).map QT.id).Nodup) (by
      rw [List.drop_zero]
      show (((g.past.filter _) ++ []).map QT.id ++ g.queue.map QT.id).Nodup
      rw [List.append_nil, ← List.map_append]
      exact List.Nodup.sublist ((List.Sublist.append_right List.filter_sublist _).map _) hg.ids) fun j s x hx hs => by
      have hlt := (List.getElem?_eq_some_iff.1 hx).1
      have hxe := (List.getElem?_eq_some_iff.1 hx).2
      rw [List.drop_eq_getElem_cons hlt, List.map_cons, hxe] at hs
      rcases tick_out s x with ⟨e, _⟩ | ⟨e, _⟩ | ⟨e, _⟩ <;> rw [e]
      · exact List.Nodup.sublist (List.Sublist.append_left (List.sublist_cons_self _ _) _) hs
      · show ((s.1.past ++ [_] ++ s.1.queue).map QT.id ++ (g.queue.drop (j + 1)).map QT.id).Nodup
        refine (List.Perm.nodup_iff ?_).1 hs
        simp only [List.map_append, List.map_cons, List.map_nil, List.append_assoc]
        refine List.Perm.append_left _ ?_
        rw [← List.append_assoc, show ∀ (a : Nat) (l : List Nat), a :: l = [a] ++ l from fun _ _ => rfl, ← List.append_assoc]
        exact List.Perm.append_right _ List.perm_append_comm
      · show ((s.1.past ++ (s.1.queue ++ [x])).map QT.id ++ (g.queue.drop (j + 1)).map QT.id).Nodup
        simpa [List.append_assoc] using hs
    rw [List.drop_length, List.map_nil, List.append_nil] at key
    exact key
structure Start (g : GT) : Prop where
  past : g.past = []
  queue : g.queue = []
  now : g.now < 50
  lims : ∀ x ∈ [g.l0, g.l1, g.l2, g.b0, g.b1, g.b2], x < 150
theorem Start.ok {g : GT} (h : Start g) : g.ok :=
  ⟨fun x hx => by have := h.lims x hx; omega, by have := h.now; omega, by rw [h.past]; exact Nat.zero_le _, by rw [h.queue]; exact Nat.zero_le _, by rw [h.past, h.queue]; exact fun x hx => absurd hx List.not_mem_nil, by rw [h.past, h.queue]; exact List.nodup_nil⟩
end Go.Proofs.Ytcfefmbbbfdppaa
namespace Go.Proofs.Ytcfefmbbbfdppaa
open Go.RowKit Go.IntWalk Go.Lib
set_option linter.unusedVariables false
set_option maxRecDepth 100000
def gofG (a b : Int) : GT := ⟨50 + (a.fdiv 1 % 100).toNat, 50 + (a.fdiv 2 % 100).toNat, 50 + (a.fdiv 4 % 100).toNat, 20 + (b.fdiv 1 % 60).toNat, 20 + (b.fdiv 2 % 60).toNat, 20 + (b.fdiv 4 % 60).toNat, (a % 50).toNat, [], []⟩
theorem gof_start (a b : Int) : Start (gofG a b) := by
  refine ⟨rfl, rfl, by show (a % 50).toNat < 50; omega, fun x hx => ?_⟩
  simp only [gofG, List.mem_cons, List.not_mem_nil, or_false] at hx
  rcases hx with rfl | rfl | rfl | rfl | rfl | rfl <;> omega
def GT.cells0 (g : GT) : List D := [.int .i64 g.l0, .int .i64 g.l1, .int .i64 g.l2, .int .i64 g.b0, .int .i64 g.b1, .int .i64 g.b2, .int .i64 g.now, .slice .nil 0 [], .slice .nil 0 []]
theorem GT.ups0 (g : GT) (h : Start g) : Up (.agg g.cells0) (.agg g.cells) := by
  refine .agg_ ?_
  unfold GT.cells0 GT.cells gC qD
  rw [h.past, h.queue]
  exact .cons (.refl _) (.cons (.refl _) (.cons (.refl _) (.cons (.refl _) (.cons (.refl _) (.cons (.refl _) (.cons (.refl _) (.cons (.nil _) (.cons (.nil _) .nil))))))))
set_option maxHeartbeats 16000000 in
theorem gateOf_ok (k a b : Int) (s : ByteArray) : Pur Try.prog 12 [.agg [.int .i64 k, .int .i64 a, .int .i64 b, .str s]] (.agg (gofG a b).cells0) := by
  have pn := p_picked a 50 ((a % 50).toNat : Int) (by decide) (by decide) (by omega)
  have p0 := p_picked (a.fdiv 1) 100 ((a.fdiv 1 % 100).toNat : Int) (by decide) (by decide) (by omega)
  have p1 := p_picked (a.fdiv 2) 100 ((a.fdiv 2 % 100).toNat : Int) (by decide) (by decide) (by omega)
  have p2 := p_picked (a.fdiv 4) 100 ((a.fdiv 4 % 100).toNat : Int) (by decide) (by decide) (by omega)
  have q0 := p_picked (b.fdiv 1) 60 ((b.fdiv 1 % 60).toNat : Int) (by decide) (by decide) (by omega)
  have q1 := p_picked (b.fdiv 2) 60 ((b.fdiv 2 % 60).toNat : Int) (by decide) (by decide) (by omega)
  have q2 := p_picked (b.fdiv 4) 60 ((b.fdiv 4 % 60).toNat : Int) (by decide) (by decide) (by omega)
  have hA : ∀ x : Nat, x < 100 → IntKind.i64.wrap (50 + (x : Int)) = ((50 + x : Nat) : Int) := fun x hx => by rw [i64_in _ (by omega)]; omega
  have hB : ∀ x : Nat, x < 100 → IntKind.i64.wrap (20 + (x : Int)) = ((20 + x : Nat) : Int) := fun x hx => by rw [i64_in _ (by omega)]; omega
  have a0 := hA (a.fdiv 1 % 100).toNat (by omega)
  have a1 := hA (a.fdiv 2 % 100).toNat (by omega)
  have a2 := hA (a.fdiv 4 % 100).toNat (by omega)
  have c0 := hB (b.fdiv 1 % 60).toNat (by omega)
  have c1 := hB (b.fdiv 2 % 60).toNat (by omega)
  have c2 := hB (b.fdiv 4 % 60).toNat (by omega)
  have s0 : ∀ x : Int, x.fdiv (2 ^ (min (0 : Int).toNat IntKind.i64.bits)) = x.fdiv 1 := fun _ => rfl
  have s1 : ∀ x : Int, x.fdiv (2 ^ (min (1 : Int).toNat IntKind.i64.bits)) = x.fdiv 2 := fun _ => rfl
  have s2 : ∀ x : Int, x.fdiv (2 ^ (min (2 : Int).toNat IntKind.i64.bits)) = x.fdiv 4 := fun _ => rfl
  unfold gofG GT.cells0
  dsimp only
  generalize (a.fdiv 1 % 100).toNat = x0 at *
  generalize (a.fdiv 2 % 100).toNat = x1 at *
  generalize (a.fdiv 4 % 100).toNat = x2 at *
  generalize (b.fdiv 1 % 60).toNat = y0 at *
  generalize (b.fdiv 2 % 60).toNat = y1 at *
  generalize (b.fdiv 4 % 60).toNat = y2 at *
  generalize (a % 50).toNat = n0 at *
  refine pur_intro Try.func12 rfl Try.ntmps12 rfl (by first | rfl | assumption | exact bs_cl _) fun B => ?_
  repeat (first | with_reducible (first | refine W_seq ?_ | refine q_then ?_ | refine q_thenx ?_ | refine W_block ?_ | refine q_block ?_ | refine q_blockx ?_ | refine W_ret ?_ | refine W_skip ?_ | refine W_exit ?_) | (with_reducible refine R_nil ?_; try dsimp only [slots0, slots_ud, cells_U, agg_ud, drop0, dropS, takeS, take0, ud_nil, take_ud, take_ud0, drop_ud, drop_ud0, take_udk, D.cells, D.fz, D.fzs, List.take_succ_cons, List.take_zero, List.drop_succ_cons, List.drop_zero, List.cons_append, List.nil_append, List.append_eq, List.length_cons, List.length_nil, Nat.reduceAdd, Nat.reduceMul, Nat.reduceSub, Int.reduceAdd, Int.reduceSub, Int.reduceToNat, Int.reduceNeg, Int.reduceMul]) | refine W_plain rfl ?_ | refine W_drawn mixed rfl ?_ | refine and_chk (by kernel_rfl) ?_ | (refine k_shr rfl rfl rfl ?_ (s0 _) ?_; (decide)) | (refine k_shr rfl rfl rfl ?_ (s1 _) ?_; (decide)) | (refine k_shr rfl rfl rfl ?_ (s2 _) ?_; (decide)) | refine k_add rfl rfl rfl a0 ?_ | refine k_add rfl rfl rfl a1 ?_ | refine k_add rfl rfl rfl a2 ?_ | refine k_add rfl rfl rfl c0 ?_ | refine k_add rfl rfl rfl c1 ?_ | refine k_add rfl rfl rfl c2 ?_ | refine k_move rfl rfl ?_ | refine k_assign rfl rfl ?_ | refine k_load rfl rfl rfl rfl ?_ | refine k_alloc rfl ?_ | refine k_box rfl rfl rfl ?_ | refine k_store rfl rfl rfl rfl rfl rfl rfl ?_ | refine k_fieldAddr rfl rfl rfl ?_ | refine k_build rfl rfl rfl ?_ | refine k_call rfl pn rfl rfl rfl rfl ?_ | refine k_call rfl p0 rfl rfl rfl rfl ?_ | refine k_call rfl p1 rfl rfl rfl rfl ?_ | refine k_call rfl p2 rfl rfl rfl rfl ?_ | refine k_call rfl q0 rfl rfl rfl rfl ?_ | refine k_call rfl q1 rfl rfl rfl rfl ?_ | refine k_call rfl q2 rfl rfl rfl rfl ?_ | refine W_unroll (WL_round ?_) | refine WL_round ?_ | (refine k_append rfl rfl rfl ?_ ?_ ?_ rfl ?_ rfl rfl rfl ?_; (first | rfl | exact trivial | (show 0 < _; omega)); (first | rfl | (simp <;> omega)); (first | rfl | (simp <;> omega)); (omega)) | (refine k_indexAddr rfl rfl rfl ⟨?_, ?_⟩ ?_; (omega); (omega)) | (refine k_addi rfl rfl rfl ?_ ?_; (omega)) | (refine k_lssT rfl rfl rfl ?_ ?_; (omega)) | (refine k_lssF rfl rfl rfl ?_ ?_; (omega)) | refine W_yes rfl ?_ | refine W_no rfl ?_)
  (first | with_reducible refine q_endr ?_); refine rets1 Try.results12 (by first | exact RetV.tmp _ _ rfl | exact RetV.cell _ _ _ _ _ _ _ _ inferInstance rfl rfl rfl) ?_
  rfl
end Go.Proofs.Ytcfefmbbbfdppaa
