/- Closed data under other names. Of any program. No conditions. -/
import Derived.Test.YtnlacdclnhoghaaDFun
namespace Go.Proofs.Ytnlacdclnhoghaa
open Go.RowKit
set_option linter.unusedVariables false
theorem cls_ups (f : Nat → Nat) (z : List D) (h : D.cls z = true) : Ups z (D.rens f z) := by
  rw [(D.cls_ren f (fun _ => true) _ h).1]; exact Ups.refl _
theorem cls_lalls (p : Nat → Bool) (z : List D) (h : D.cls z = true) : D.lalls p z = true := (D.cls_ren (fun l => l) p _ h).2
end Go.Proofs.Ytnlacdclnhoghaa
