/- Slices of variables, read cell by cell. Of any program. No conditions. -/
import Derived.Test.YtcfefmbbbfdppaaSDK2
import Derived.Test.YtcfefmbbbfdppaaSDCode
namespace Go.Proofs.Ytcfefmbbbfdppaa
open Go.RowKit
set_option linter.unusedVariables false
set_option linter.unusedSimpArgs false
mutual
theorem bel_cl (n : Nat) : ∀ (d : D), d.cl = true → d.bel n = true
  | .agg cs, h => by simp only [D.cl] at h; simp only [D.bel]; exact bels_cls n cs h
  | .tup cs, h => by simp only [D.cl] at h; simp only [D.bel]; exact bels_cls n cs h
  | .fn f cs, h => by simp only [D.cl] at h; simp only [D.bel]; exact bels_cls n cs h
  | .slice tk k cs, h => by cases tk <;> simp [D.cl] at h <;> rfl
  | .ptr l off, h => by simp [D.cl] at h
  | .ms l off k, h => by simp [D.cl] at h
  | .rs l k, h => by simp [D.cl] at h
  | .mp l, h => by simp [D.cl] at h
  | .int _ _, _ => rfl
  | .bool _, _ => rfl
  | .str _, _ => rfl
  | .eptr _, _ => rfl
  | .raw _, _ => rfl
  | .opq, _ => rfl
  | .undef, _ => rfl
theorem bels_cls (n : Nat) : ∀ (ds : List D), D.cls ds = true → D.bels n ds = true
  | [], _ => rfl
  | d :: ds, h => by
    simp only [D.cls, Bool.and_eq_true] at h
    simp only [D.bels, bel_cl n d h.1, bels_cls n ds h.2, Bool.and_self]
end
section
variable {P : Program} {o : Oper} {ρ : Slots} {m : Mem}
end
section
variable {P : Program} {ρ : Slots} {m : Mem} {nx : Nat} {ops : Array Oper} {os : List Oper} {K : List Eff → Slots → Mem → Nat → Prop}
end
end Go.Proofs.Ytcfefmbbbfdppaa
