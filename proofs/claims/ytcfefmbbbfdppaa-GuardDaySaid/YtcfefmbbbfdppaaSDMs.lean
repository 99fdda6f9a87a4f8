/- Calls that are told of parts of variables, and only read them. Of any program. No conditions. -/
import Derived.Test.YtcfefmbbbfdppaaSDFun
namespace Go.Proofs.Ytcfefmbbbfdppaa
open Go.RowKit
set_option linter.unusedVariables false
set_option linter.unusedVariables false
section
variable {P : Program} {o : Oper} {ρ : Slots} {m : Mem}
end
section
variable {P : Program} {ρ : Slots} {m : Mem} {nx : Nat} {ops : Array Oper} {os : List Oper} {K : List Eff → Slots → Mem → Nat → Prop}
end
end Go.Proofs.Ytcfefmbbbfdppaa
