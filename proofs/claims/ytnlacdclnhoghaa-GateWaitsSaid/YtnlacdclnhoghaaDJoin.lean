/- Where ways join: what holds behind a part of a function, whichever way it took. Of any program. No conditions. -/
import Derived.Test.YtnlacdclnhoghaaDMore
namespace Go.Proofs.Ytnlacdclnhoghaa
open Go.RowKit
set_option linter.unusedVariables false
section
variable {P : Program} {B : Base} {N : Nat} {Q : Post} {ρ : Slots} {m : Mem} {nx : Nat}
theorem W_join {x y : Code} (J : Slots → Mem → Nat → Prop) (h : W P B N x (thenD (fun ρ' m' nx' => ∃ ρ1 m1 nx1, Weak B N ρ' m' nx' ρ1 m1 nx1 ∧ J ρ1 m1 nx1) Q) ρ m nx) (hj : ∀ ρ m nx, J ρ m nx → W P B N y Q ρ m nx) : W P B N (.seq x y) Q ρ m nx := by
  refine W_seq (W_mono h fun e ρ' m' nx' hq => ?_)
  cases e with
  | normal =>
    obtain ⟨ρ1, m1, nx1, hw, hJ⟩ := hq
    exact W_of_weak hw (hj _ _ _ hJ)
  | _ => exact hq
theorem W_joinT {x y : Code} {Q' : Post} (J : Slots → Mem → Nat → Prop) (h : W P B N x (thenD (fun ρ' m' nx' => ∃ ρ1 m1 nx1, Weak B N ρ' m' nx' ρ1 m1 nx1 ∧ J ρ1 m1 nx1) Q') ρ m nx) (hj : ∀ ρ m nx, J ρ m nx → W P B N y Q ρ m nx) : W P B N x (thenD (W P B N y Q) Q') ρ m nx := by
  refine W_mono h fun e ρ' m' nx' hq => ?_
  cases e with
  | normal =>
    obtain ⟨ρ1, m1, nx1, hw, hJ⟩ := hq
    exact W_of_weak hw (hj _ _ _ hJ)
  | _ => exact hq
end
end Go.Proofs.Ytnlacdclnhoghaa
