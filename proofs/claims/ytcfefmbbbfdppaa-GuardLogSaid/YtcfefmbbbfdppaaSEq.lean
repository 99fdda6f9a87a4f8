/- '==' of 256-bit numbers. No program in sight but its types. -/
import Derived.Test.YtcfefmbbbfdppaaSGa
namespace Go.Proofs.Ytcfefmbbbfdppaa
open Go.RowKit
set_option linter.unusedVariables false
theorem same_iff (a b : Nat) (ha : a < M256) (hb : b < M256) : (lim a 0 == lim b 0 && (lim a 1 == lim b 1 && (lim a 2 == lim b 2 && lim a 3 == lim b 3))) = decide (a = b) := by
  rw [Bool.eq_iff_iff]
  simp only [Bool.and_eq_true, beq_iff_eq, decide_eq_true_iff]
  constructor
  · rintro ⟨h0, h1, h2, h3⟩; exact lim_inj a b ha hb h0 h1 h2 h3
  · rintro rfl; exact ⟨rfl, rfl, rfl, rfl⟩
end Go.Proofs.Ytcfefmbbbfdppaa
