/- Bytes as data; bytes.Compare. No conditions. -/
import Derived.Test.YtcfefmbbbfdppaaSDFun
import Derived.Test.YtcfefmbbbfdppaaSDInst
import Derived.Test.YtcfefmbbbfdppaaSDPart
import Derived.Lib.BytesEntry
namespace Go.Proofs.Ytcfefmbbbfdppaa
open Go.RowKit Go.Lib
set_option linter.unusedVariables false
def bs (l : List UInt8) : List D := l.map fun x => .int .u8 (x.toNat : Int)
theorem bs_len (l : List UInt8) : (bs l).length = l.length := by simp [bs]
theorem bs_cl (l : List UInt8) : D.cls (bs l) = true := D.cls_of fun d hd => by
  obtain ⟨x, _, rfl⟩ := List.mem_map.1 hd
  rfl
section
variable {P : Program}
variable {o : Oper} {ρ : Slots} {m : Mem}
end
section
variable {P : Program} {ρ : Slots} {m : Mem} {nx : Nat} {ops : Array Oper} {os : List Oper} {K : List Eff → Slots → Mem → Nat → Prop}
end
end Go.Proofs.Ytcfefmbbbfdppaa
