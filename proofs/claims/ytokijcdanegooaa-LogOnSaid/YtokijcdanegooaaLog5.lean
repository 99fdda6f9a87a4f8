/- What lasts of a log of raw things, behind a fall. No conditions. -/
import Derived.Test.YtokijcdanegooaaLog4
namespace Go.Proofs.Ytokijcdanegooaa
open Go.RowKit Go.Lib
set_option linter.unusedVariables false

theorem opn_fall {n : Nat} {x : List By × Nat} (h : WOk n x) (k : Nat) : ∃ t, x.2 ≤ t ∧ t ≤ x.1.length ∧ opn (wa x ++ (wb x).take k) = (x.1.take t, (cat8 (x.1.take t)).length) ∧ (wa x ++ (wb x).take k).take (cat8 (x.1.take t)).length = cat8 (x.1.take t) := by
  have hs : ∀ r ∈ x.1.take x.2, r.length ≤ 200 := fun r hr => by have := h.small r (List.mem_of_mem_take hr); omega
  have hd : ∀ r ∈ x.1.drop x.2, r.length ≤ 200 := fun r hr => by have := h.small r (List.mem_of_mem_drop hr); omega
  obtain ⟨j, h1, h2, h3⟩ := opn_cut (x.1.drop x.2) k hd
  have ho := opn_cat (x.1.take x.2) ((wb x).take k) hs
  have hle := opn_le _ ((wb x).take k) (Nat.le_refl _)
  have hsy := h.sync
  rw [List.length_drop] at h1
  have e : x.1.take (x.2 + j) = x.1.take x.2 ++ (x.1.drop x.2).take j := by
    rw [List.take_add]
  have ec : cat8 (x.1.take (x.2 + j)) = wa x ++ cat8 ((x.1.drop x.2).take j) := by rw [e, cat8_app]
  refine ⟨x.2 + j, by omega, by omega, ?_, ?_⟩
  · show opn (cat8 (x.1.take x.2) ++ (wb x).take k) = _
    rw [ho, ec, e, List.length_append]
    show (_ ++ (opn ((cat8 (x.1.drop x.2)).take k)).1, _ + (opn ((cat8 (x.1.drop x.2)).take k)).2) = _
    rw [h2, h3]
  · rw [ec, List.length_append, List.take_append, List.take_of_length_le (by omega), Nat.add_sub_cancel_left]
    congr 1
    have hle' : (cat8 ((x.1.drop x.2).take j)).length ≤ ((wb x).take k).length := by rw [← h3]; exact hle
    rw [List.take_take, Nat.min_eq_left (by rw [List.length_take] at hle'; omega)]
    show (cat8 (x.1.drop x.2)).take _ = _
    have : cat8 (x.1.drop x.2) = cat8 ((x.1.drop x.2).take j) ++ cat8 ((x.1.drop x.2).drop j) := by rw [← cat8_app, List.take_append_drop]
    conv => lhs; rw [this]
    rw [List.take_left]
end Go.Proofs.Ytokijcdanegooaa
