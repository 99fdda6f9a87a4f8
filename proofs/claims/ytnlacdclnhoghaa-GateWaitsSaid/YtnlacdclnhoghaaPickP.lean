/- basculekeep's picked, over data. Conditions: a number from 1 on. -/
import Derived.Test.YtnlacdclnhoghaaPick
import Derived.Test.YtnlacdclnhoghaaDCode
namespace Go.Proofs.Ytnlacdclnhoghaa
open Go.RowKit
set_option linter.unusedVariables false
theorem p_picked (n m q : Int) (hm : 0 < m) (hm' : m ≤ 4611686018427387904) (hq : n % m = q) : Pur Try.prog 10 [.int .i64 n, .int .i64 m] (.int .i64 q) :=
  pur_of_calls (vs := [.int .i64 n, .int .i64 m]) rfl rfl rfl fun w => (picked_q n m hm hm' w).mono fun e w' h => by
    obtain ⟨h1, h2⟩ := h
    subst h2
    exact ⟨by rw [h1, hq], new_refl _⟩
end Go.Proofs.Ytnlacdclnhoghaa
