/- What gates let pass, and when: plain. No conditions. -/
import Derived.Test.YtnlacdclnhoghaaGate4
import Derived.Test.YtnlacdclnhoghaaRowS
namespace Go.Proofs.Ytnlacdclnhoghaa
open Go.RowKit
set_option linter.unusedVariables false
set_option maxRecDepth 100000

theorem tick_fold (g : GT) (h : Nat) (I : Nat → GT × List Nat → Prop) (h0 : I 0 (g.later h, [])) (hs : ∀ j s x, g.queue[j]? = some x → I j s → I (j + 1) (tickStep s x)) : I g.queue.length (tick g h) := by
  have key : ∀ j, j ≤ g.queue.length → I j ((g.queue.take j).foldl tickStep (g.later h, [])) := by
    intro j
    induction j with
    | zero => exact fun _ => h0
    | succ j ih =>
      intro hj
      obtain ⟨x, hx⟩ : ∃ x, g.queue[j]? = some x := ⟨_, List.getElem?_eq_getElem (by omega)⟩
      rw [foldl_snoc _ _ _ _ _ hx]
      exact hs j _ x hx (ih (by omega))
  have := key g.queue.length (Nat.le_refl _)
  rw [List.take_length] at this
  exact this
theorem tick_out (s : GT × List Nat) (x : QT) : (tickStep s x = (s.1, s.2 ++ [x.id]) ∧ 24 ≤ s.1.now - x.at_) ∨ (tickStep s x = ({ s.1 with past := s.1.past ++ [{ x with at_ := s.1.now }] }, s.2 ++ [x.id]) ∧ ¬ 24 ≤ s.1.now - x.at_ ∧ s.1.fits x = true) ∨ (tickStep s x = ({ s.1 with queue := s.1.queue ++ [x] }, s.2) ∧ ¬ 24 ≤ s.1.now - x.at_ ∧ s.1.fits x = false) := by
  unfold tickStep
  by_cases h1 : 24 ≤ s.1.now - x.at_
  · exact .inl ⟨by rw [if_pos h1], h1⟩
  · cases hf : s.1.fits x with
    | true => exact .inr (.inl ⟨by rw [if_neg h1, if_pos rfl], h1, rfl⟩)
    | false => exact .inr (.inr ⟨by rw [if_neg h1, if_neg (by decide)], h1, rfl⟩)
/-- the same limits, at that hour -/
structure Same (g g' : GT) (now : Nat) : Prop where
  l0 : g'.l0 = g.l0
  l1 : g'.l1 = g.l1
  l2 : g'.l2 = g.l2
  b0 : g'.b0 = g.b0
  b1 : g'.b1 = g.b1
  b2 : g'.b2 = g.b2
  now : g'.now = now
theorem Same.lim {g g' : GT} {n : Nat} (h : Same g g' n) (c : Nat) : g'.lim c = g.lim c := by unfold GT.lim; rw [h.l0, h.l1, h.l2]
theorem Same.big {g g' : GT} {n : Nat} (h : Same g g' n) (c : Nat) : g'.big c = g.big c := by unfold GT.big; rw [h.b0, h.b1, h.b2]
theorem Same.step {g : GT} {n : Nat} {s : GT × List Nat} (h : Same g s.1 n) (x : QT) : Same g (tickStep s x).1 n := by
  rcases tick_out s x with ⟨e, _⟩ | ⟨e, _⟩ | ⟨e, _⟩ <;> rw [e] <;> exact ⟨h.l0, h.l1, h.l2, h.b0, h.b1, h.b2, h.now⟩
theorem tick_same (g : GT) (h : Nat) : Same g (tick g h).1 (g.now + h) :=
  tick_fold g h (fun _ s => Same g s.1 (g.now + h)) ⟨rfl, rfl, rfl, rfl, rfl, rfl, rfl⟩ fun _ _ x _ hs => hs.step x
/-- what is let go, and what waits still, is what waited -/
theorem tick_perm (g : GT) (h : Nat) : ((tick g h).2 ++ (tick g h).1.queue.map QT.id).Perm (g.queue.map QT.id) := by
  have := tick_fold g h (fun j s => (s.2 ++ s.1.queue.map QT.id).Perm ((g.queue.take j).map QT.id)) (List.Perm.refl _) fun j s x hx hs => by
    have e : (g.queue.take (j + 1)).map QT.id = (g.queue.take j).map QT.id ++ [x.id] := by rw [List.take_add_one, hx, Option.toList_some, List.map_append]; rfl
    rw [e]
    rcases tick_out s x with ⟨e, _⟩ | ⟨e, _⟩ | ⟨e, _⟩ <;> rw [e]
    · show (s.2 ++ [x.id] ++ s.1.queue.map QT.id).Perm _
      rw [List.append_assoc]
      refine (List.Perm.append_left s.2 List.perm_append_comm).trans ?_
      rw [← List.append_assoc]
      exact hs.append_right _
    · show (s.2 ++ [x.id] ++ s.1.queue.map QT.id).Perm _
      rw [List.append_assoc]
      refine (List.Perm.append_left s.2 List.perm_append_comm).trans ?_
      rw [← List.append_assoc]
      exact hs.append_right _
    · show (s.2 ++ (s.1.queue ++ [x]).map QT.id).Perm _
      rw [List.map_append, ← List.append_assoc]
      exact hs.append_right _
  rw [List.take_length] at this
  exact this
theorem tick_queue (g : GT) (h : Nat) : ∀ q ∈ (tick g h).1.queue, q ∈ g.queue :=
  tick_fold g h (fun _ s => ∀ q ∈ s.1.queue, q ∈ g.queue) (fun q hq => absurd hq List.not_mem_nil) fun j s x hx hs q hq => by
    rcases tick_out s x with ⟨e, _⟩ | ⟨e, _⟩ | ⟨e, _⟩ <;> rw [e] at hq
    · exact hs q hq
    · exact hs q hq
    · rcases List.mem_append.1 hq with hq | hq
      · exact hs q hq
      · rw [List.mem_singleton.1 hq]; exact List.mem_of_getElem? hx
theorem tick_past (g : GT) (h : Nat) : ∀ q ∈ (tick g h).1.past, ∃ y ∈ g.past ++ g.queue, y.id = q.id ∧ y.val = q.val ∧ y.ch = q.ch ∧ (y.at_ = q.at_ ∨ q.at_ = g.now + h) :=
  (tick_fold g h (fun _ s => Same g s.1 (g.now + h) ∧ ∀ q ∈ s.1.past, ∃ y ∈ g.past ++ g.queue, y.id = q.id ∧ y.val = q.val ∧ y.ch = q.ch ∧ (y.at_ = q.at_ ∨ q.at_ = g.now + h)) ⟨⟨rfl, rfl, rfl, rfl, rfl, rfl, rfl⟩, fun q hq => ⟨q, List.mem_append.2 (.inl (List.mem_filter.1 hq).1), rfl, rfl, rfl, .inl rfl⟩⟩ fun j s x hx hs => ⟨hs.1.step x, fun q hq => by
    rcases tick_out s x with ⟨e, _⟩ | ⟨e, _⟩ | ⟨e, _⟩ <;> rw [e] at hq
    · exact hs.2 q hq
    · rcases List.mem_append.1 hq with hq | hq
      · exact hs.2 q hq
      · rw [List.mem_singleton.1 hq]; exact ⟨x, List.mem_append.2 (.inr (List.mem_of_getElem? hx)), rfl, rfl, rfl, .inr hs.1.now⟩
    · exact hs.2 q hq⟩).2
theorem tick_ok (g : GT) (hg : g.ok) (h : Nat) (hn : g.now + h ≤ 1099511627776) : (tick g h).1.ok := by
  have hi := tick_inv g hg h g.queue.length (Nat.le_refl _)
  rw [List.take_length] at hi
  have hi : TickInv g h g.queue.length (tick g h) := hi
  have hsm := tick_same g h
  refine ⟨?_, by rw [hsm.now]; exact hn, hi.plen, Nat.le_trans hi.qlen hg.qlen, fun x hx => ?_, ?_⟩
  · rw [hsm.l0, hsm.l1, hsm.l2, hsm.b0, hsm.b1, hsm.b2]; exact hg.lims
  · rw [hsm.now]
    rcases List.mem_append.1 hx with hx | hx
    · obtain ⟨y, hy, e1, e2, e3, e4⟩ := tick_past g h x hx
      have := hg.each y hy
      rw [← e1, ← e2, ← e3]
      refine ⟨this.1, this.2.1, ?_, this.2.2.2⟩
      have := this.2.2.1
      rcases e4 with e4 | e4 <;> omega
    · have := hg.each x (List.mem_append.2 (.inr (tick_queue g h x hx)))
      exact ⟨this.1, this.2.1, by have := this.2.2.1; omega, this.2.2.2⟩
  · have key := tick_fold g h (fun j s => ((s.1.past ++ s.1.queue).map QT.id ++ (g.queue.drop j).map QT.id).Nodup) (by
      rw [List.drop_zero]
      show (((g.past.filter _) ++ []).map QT.id ++ g.queue.map QT.id).Nodup
      rw [List.append_nil, ← List.map_append]
      exact List.Nodup.sublist ((List.Sublist.append_right List.filter_sublist _).map _) hg.ids) fun j s x hx hs => by
      have hlt := (List.getElem?_eq_some_iff.1 hx).1
      have hxe := (List.getElem?_eq_some_iff.1 hx).2
      rw [List.drop_eq_getElem_cons hlt, List.map_cons, hxe] at hs
      rcases tick_out s x with ⟨e, _⟩ | ⟨e, _⟩ | ⟨e, _⟩ <;> rw [e]
      · exact List.Nodup.sublist (List.Sublist.append_left (List.sublist_cons_self _ _) _) hs
      · show ((s.1.past ++ [_] ++ s.1.queue).map QT.id ++ (g.queue.drop (j + 1)).map QT.id).Nodup
        refine (List.Perm.nodup_iff ?_).1 hs
        simp only [List.map_append, List.map_cons, List.map_nil, List.append_assoc]
        refine List.Perm.append_left _ ?_
        rw [← List.append_assoc, show ∀ (a : Nat) (l : List Nat), a :: l = [a] ++ l from fun _ _ => rfl, ← List.append_assoc]
        exact List.Perm.append_right _ List.perm_append_comm
      · show ((s.1.past ++ (s.1.queue ++ [x])).map QT.id ++ (g.queue.drop (j + 1)).map QT.id).Nodup
        simpa [List.append_assoc] using hs
    rw [List.drop_length, List.map_nil, List.append_nil] at key
    exact key
end Go.Proofs.Ytnlacdclnhoghaa
