/- gate: what passes and what waits leave a gate well. Conditions: as said. -/
import Derived.Test.YtcfefmbbbfdppaaSGn
import Derived.Test.YtcfefmbbbfdppaaSGate3
namespace Go.Proofs.Ytcfefmbbbfdppaa
open Go.RowKit Go.Lib Go.IntWalk
set_option linter.unusedVariables false
theorem fits_big {g : GT} {x : QT} (h : g.fits x = true) : x.val < g.big x.ch ∧ used x.ch g.now g.past + x.val ≤ g.lim x.ch ∧ g.past.length < 40 := by
  unfold GT.fits at h
  simpa only [Bool.and_eq_true, decide_eq_true_eq] using h
theorem pass_ok {g : GT} (hg : g.ok) {x : QT} (hx : x.val ≤ 1073741824 ∧ x.ch < 3 ∧ x.at_ ≤ g.now ∧ x.id < 1099511627776) (hn : ∀ q ∈ g.past ++ g.queue, q.id ≠ x.id) (hl : g.past.length < 40) : (g.pass x).ok := by
  refine ⟨hg.lims, hg.now, by show (g.past ++ [x]).length ≤ 40; rw [List.length_append]; simp; omega, hg.qlen, fun y hy => ?_, ?_⟩
  · have hy : y ∈ (g.past ++ [x]) ++ g.queue := hy
    rcases List.mem_append.1 hy with hy | hy
    · rcases List.mem_append.1 hy with hy | hy
      · exact hg.each y (List.mem_append.2 (.inl hy))
      · rw [List.mem_singleton.1 hy]; exact hx
    · exact hg.each y (List.mem_append.2 (.inr hy))
  · show (((g.past ++ [x]) ++ g.queue).map QT.id).Nodup
    have : (x.id :: (g.past ++ g.queue).map QT.id).Nodup := List.nodup_cons.2 ⟨fun hm => by
      obtain ⟨q, hq, e⟩ := List.mem_map.1 hm
      exact hn q hq e, hg.ids⟩
    refine (List.Perm.nodup_iff ?_).1 this
    simp only [List.map_append, List.map_cons, List.append_assoc, List.singleton_append]
    exact List.perm_middle.symm
theorem hold_ok {g : GT} (hg : g.ok) {x : QT} (hx : x.val ≤ 1073741824 ∧ x.ch < 3 ∧ x.at_ ≤ g.now ∧ x.id < 1099511627776) (hn : ∀ q ∈ g.past ++ g.queue, q.id ≠ x.id) (hl : g.queue.length < 40) : (g.hold x).ok := by
  refine ⟨hg.lims, hg.now, hg.plen, by show (g.queue ++ [x]).length ≤ 40; rw [List.length_append]; simp; omega, fun y hy => ?_, ?_⟩
  · have hy : y ∈ g.past ++ (g.queue ++ [x]) := hy
    rw [← List.append_assoc] at hy
    rcases List.mem_append.1 hy with hy | hy
    · exact hg.each y hy
    · rw [List.mem_singleton.1 hy]; exact hx
  · show ((g.past ++ (g.queue ++ [x])).map QT.id).Nodup
    have : (x.id :: (g.past ++ g.queue).map QT.id).Nodup := List.nodup_cons.2 ⟨fun hm => by
      obtain ⟨q, hq, e⟩ := List.mem_map.1 hm
      exact hn q hq e, hg.ids⟩
    refine (List.Perm.nodup_iff ?_).1 this
    rw [← List.append_assoc, List.map_append (l₁ := g.past ++ g.queue)]
    exact (List.perm_append_singleton _ _).symm
end Go.Proofs.Ytcfefmbbbfdppaa
