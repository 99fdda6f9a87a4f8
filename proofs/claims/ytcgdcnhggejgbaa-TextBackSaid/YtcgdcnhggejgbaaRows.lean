/-
  No cell of these rows narrows 'for every input' (looked for: loops, veiled, ifaces, maps, wideKeys, modest, calm, conditions, laid).
  DERIVED. THE GIVEN ROWS OF THIS SEAT. 13 by the template 'for every input the law returns true; each argument reads behind the call as it read before'; 0 by the template 'total and deterministic' (their statements: YtcgdcnhggejgbaaTotals.lean).
  GIVEN WITH THE SEED: the statements are not yours to turn. If you find one false, say at which input.
  Laid BY PROGRAM, IN A SANDBOX (cutbox-rows.mjs): the forced cells as the released guide's own fill.sh prints them over the translation 97ed1dd039ec5a0f… (all of the seat's roots in one cut). By AI agents, Wed Nov 11 2026. No macro, syntax, notation, axiom, sorry.
-/
import Derived.Test.YtcgdcnhggejgbaaChecked
import GoSem.Claim
import GoSem.ClaimJoined
import GoSem.ClaimMapViews
import Derived.JoinedTies
import Derived.KernelRfl
namespace Go.Proofs.Ytcgdcnhggejgbaa
/- THE CELL 'sum', in the pinned program and in every row, IS THE sha256 OF THE DUMP (.gsa) THAT YtcgdcnhggejgbaaProg.lean LOADS. Nothing in Lean hashes anything: it is a label: what it is worth is what the hold of that sum in a sandbox is worth. -/
noncomputable def Try.pinned : Pinned := { name := "ytcgdcnhggejgbaa", sum := "97ed1dd039ec5a0f62e8d51fa16a25974e9abf02578b9c3c4d6864373dff1bdd", checked := Try.checked }
namespace Rows
def none {H : Type} : Left H := { results := [], args := [] }

/-- 'basculekeep.AddGroups': WHATEVER THE INPUT: true; the input reads as it did. -/
def addGroupsSpec : ChangeSpec := { name := "addGroups", fn := fun _ => fun
  | [d1, d2, d3] => { results := [.lit (.bool true)], args := [d1, d2, d3] }
  | _ => none }
def addGroupsRow : OpenClaim := { program := "ytcgdcnhggejgbaa", sum := "97ed1dd039ec5a0f62e8d51fa16a25974e9abf02578b9c3c4d6864373dff1bdd", func := "bascule/basculekeep.AddGroups", spec := "addGroups", inPlace := ["math/bits.Add64"], apart := false }
def AddGroupsSaid : Prop := addGroupsRow.holds Try.pinned (OpenSpec.ofChange addGroupsSpec)

/-- ITS FALSE NEIGHBOUR: 'it returns false'. Refute it at one input. -/
def addGroupsWrong : ChangeSpec := { name := "addGroups", fn := fun _ => fun
  | [d1, d2, d3] => { results := [.lit (.bool false)], args := [d1, d2, d3] }
  | _ => none }
def AddGroupsWrongFalsely : Prop := addGroupsRow.holds Try.pinned (OpenSpec.ofChange addGroupsWrong)

/-- 'basculekeep.AddBack': WHATEVER THE INPUT: true; the input reads as it did. -/
def addBackSpec : ChangeSpec := { name := "addBack", fn := fun _ => fun
  | [d1, d2] => { results := [.lit (.bool true)], args := [d1, d2] }
  | _ => none }
def addBackRow : OpenClaim := { program := "ytcgdcnhggejgbaa", sum := "97ed1dd039ec5a0f62e8d51fa16a25974e9abf02578b9c3c4d6864373dff1bdd", func := "bascule/basculekeep.AddBack", spec := "addBack", inPlace := ["math/bits.Add64", "math/bits.Sub64"], apart := false }
def AddBackSaid : Prop := addBackRow.holds Try.pinned (OpenSpec.ofChange addBackSpec)

/-- ITS FALSE NEIGHBOUR: 'it returns false'. Refute it at one input. -/
def addBackWrong : ChangeSpec := { name := "addBack", fn := fun _ => fun
  | [d1, d2] => { results := [.lit (.bool false)], args := [d1, d2] }
  | _ => none }
def AddBackWrongFalsely : Prop := addBackRow.holds Try.pinned (OpenSpec.ofChange addBackWrong)

/-- 'basculekeep.OrderSubs': WHATEVER THE INPUT: true; the input reads as it did. -/
def orderSubsSpec : ChangeSpec := { name := "orderSubs", fn := fun _ => fun
  | [d1, d2] => { results := [.lit (.bool true)], args := [d1, d2] }
  | _ => none }
def orderSubsRow : OpenClaim := { program := "ytcgdcnhggejgbaa", sum := "97ed1dd039ec5a0f62e8d51fa16a25974e9abf02578b9c3c4d6864373dff1bdd", func := "bascule/basculekeep.OrderSubs", spec := "orderSubs", inPlace := ["math/bits.Sub64", "math/bits.Add64"], apart := false }
def OrderSubsSaid : Prop := orderSubsRow.holds Try.pinned (OpenSpec.ofChange orderSubsSpec)

/-- ITS FALSE NEIGHBOUR: 'it returns false'. Refute it at one input. -/
def orderSubsWrong : ChangeSpec := { name := "orderSubs", fn := fun _ => fun
  | [d1, d2] => { results := [.lit (.bool false)], args := [d1, d2] }
  | _ => none }
def OrderSubsWrongFalsely : Prop := orderSubsRow.holds Try.pinned (OpenSpec.ofChange orderSubsWrong)

/-- 'basculekeep.BytesBack': WHATEVER THE INPUT: true; the input reads as it did. -/
def bytesBackSpec : ChangeSpec := { name := "bytesBack", fn := fun _ => fun
  | [d1, d2] => { results := [.lit (.bool true)], args := [d1, d2] }
  | _ => none }
def bytesBackRow : OpenClaim := { program := "ytcgdcnhggejgbaa", sum := "97ed1dd039ec5a0f62e8d51fa16a25974e9abf02578b9c3c4d6864373dff1bdd", func := "bascule/basculekeep.BytesBack", spec := "bytesBack", inPlace := ["math/bits.Add64"], apart := false }
def BytesBackSaid : Prop := bytesBackRow.holds Try.pinned (OpenSpec.ofChange bytesBackSpec)

/-- ITS FALSE NEIGHBOUR: 'it returns false'. Refute it at one input. -/
def bytesBackWrong : ChangeSpec := { name := "bytesBack", fn := fun _ => fun
  | [d1, d2] => { results := [.lit (.bool false)], args := [d1, d2] }
  | _ => none }
def BytesBackWrongFalsely : Prop := bytesBackRow.holds Try.pinned (OpenSpec.ofChange bytesBackWrong)

/-- 'basculekeep.MulTurns': WHATEVER THE INPUT: true; the input reads as it did. -/
def mulTurnsSpec : ChangeSpec := { name := "mulTurns", fn := fun _ => fun
  | [d1, d2] => { results := [.lit (.bool true)], args := [d1, d2] }
  | _ => none }
def mulTurnsRow : OpenClaim := { program := "ytcgdcnhggejgbaa", sum := "97ed1dd039ec5a0f62e8d51fa16a25974e9abf02578b9c3c4d6864373dff1bdd", func := "bascule/basculekeep.MulTurns", spec := "mulTurns", inPlace := ["math/bits.Add64"], apart := false }
def MulTurnsSaid : Prop := mulTurnsRow.holds Try.pinned (OpenSpec.ofChange mulTurnsSpec)

/-- ITS FALSE NEIGHBOUR: 'it returns false'. Refute it at one input. -/
def mulTurnsWrong : ChangeSpec := { name := "mulTurns", fn := fun _ => fun
  | [d1, d2] => { results := [.lit (.bool false)], args := [d1, d2] }
  | _ => none }
def MulTurnsWrongFalsely : Prop := mulTurnsRow.holds Try.pinned (OpenSpec.ofChange mulTurnsWrong)

/-- 'basculekeep.MulSpreads': WHATEVER THE INPUT: true; the input reads as it did. -/
def mulSpreadsSpec : ChangeSpec := { name := "mulSpreads", fn := fun _ => fun
  | [d1, d2, d3] => { results := [.lit (.bool true)], args := [d1, d2, d3] }
  | _ => none }
def mulSpreadsRow : OpenClaim := { program := "ytcgdcnhggejgbaa", sum := "97ed1dd039ec5a0f62e8d51fa16a25974e9abf02578b9c3c4d6864373dff1bdd", func := "bascule/basculekeep.MulSpreads", spec := "mulSpreads", inPlace := ["math/bits.Add64"], apart := false }
def MulSpreadsSaid : Prop := mulSpreadsRow.holds Try.pinned (OpenSpec.ofChange mulSpreadsSpec)

/-- ITS FALSE NEIGHBOUR: 'it returns false'. Refute it at one input. -/
def mulSpreadsWrong : ChangeSpec := { name := "mulSpreads", fn := fun _ => fun
  | [d1, d2, d3] => { results := [.lit (.bool false)], args := [d1, d2, d3] }
  | _ => none }
def MulSpreadsWrongFalsely : Prop := mulSpreadsRow.holds Try.pinned (OpenSpec.ofChange mulSpreadsWrong)

/-- 'basculekeep.MulGroups': WHATEVER THE INPUT: true; the input reads as it did. -/
def mulGroupsSpec : ChangeSpec := { name := "mulGroups", fn := fun _ => fun
  | [d1, d2, d3] => { results := [.lit (.bool true)], args := [d1, d2, d3] }
  | _ => none }
def mulGroupsRow : OpenClaim := { program := "ytcgdcnhggejgbaa", sum := "97ed1dd039ec5a0f62e8d51fa16a25974e9abf02578b9c3c4d6864373dff1bdd", func := "bascule/basculekeep.MulGroups", spec := "mulGroups", inPlace := ["math/bits.Add64"], apart := false }
def MulGroupsSaid : Prop := mulGroupsRow.holds Try.pinned (OpenSpec.ofChange mulGroupsSpec)

/-- ITS FALSE NEIGHBOUR: 'it returns false'. Refute it at one input. -/
def mulGroupsWrong : ChangeSpec := { name := "mulGroups", fn := fun _ => fun
  | [d1, d2, d3] => { results := [.lit (.bool false)], args := [d1, d2, d3] }
  | _ => none }
def MulGroupsWrongFalsely : Prop := mulGroupsRow.holds Try.pinned (OpenSpec.ofChange mulGroupsWrong)

/-- 'basculekeep.TenTimes': WHATEVER THE INPUT: true; the input reads as it did. -/
def tenTimesSpec : ChangeSpec := { name := "tenTimes", fn := fun _ => fun
  | [d1, d2] => { results := [.lit (.bool true)], args := [d1, d2] }
  | _ => none }
def tenTimesRow : OpenClaim := { program := "ytcgdcnhggejgbaa", sum := "97ed1dd039ec5a0f62e8d51fa16a25974e9abf02578b9c3c4d6864373dff1bdd", func := "bascule/basculekeep.TenTimes", spec := "tenTimes", inPlace := ["math/bits.Add64"], apart := false }
def TenTimesSaid : Prop := tenTimesRow.holds Try.pinned (OpenSpec.ofChange tenTimesSpec)

/-- ITS FALSE NEIGHBOUR: 'it returns false'. Refute it at one input. -/
def tenTimesWrong : ChangeSpec := { name := "tenTimes", fn := fun _ => fun
  | [d1, d2] => { results := [.lit (.bool false)], args := [d1, d2] }
  | _ => none }
def TenTimesWrongFalsely : Prop := tenTimesRow.holds Try.pinned (OpenSpec.ofChange tenTimesWrong)

/-- 'basculekeep.DivBack': WHATEVER THE INPUT: true; the input reads as it did. -/
def divBackSpec : ChangeSpec := { name := "divBack", fn := fun _ => fun
  | [d1, d2] => { results := [.lit (.bool true)], args := [d1, d2] }
  | _ => none }
def divBackRow : OpenClaim := { program := "ytcgdcnhggejgbaa", sum := "97ed1dd039ec5a0f62e8d51fa16a25974e9abf02578b9c3c4d6864373dff1bdd", func := "bascule/basculekeep.DivBack", spec := "divBack", inPlace := ["math/bits.Add64", "math/bits.Sub64"], apart := false }
def DivBackSaid : Prop := divBackRow.holds Try.pinned (OpenSpec.ofChange divBackSpec)

/-- ITS FALSE NEIGHBOUR: 'it returns false'. Refute it at one input. -/
def divBackWrong : ChangeSpec := { name := "divBack", fn := fun _ => fun
  | [d1, d2] => { results := [.lit (.bool false)], args := [d1, d2] }
  | _ => none }
def DivBackWrongFalsely : Prop := divBackRow.holds Try.pinned (OpenSpec.ofChange divBackWrong)

/-- 'basculekeep.TextBack': WHATEVER THE INPUT: true; the input reads as it did. -/
def textBackSpec : ChangeSpec := { name := "textBack", fn := fun _ => fun
  | [d] => { results := [.lit (.bool true)], args := [d] }
  | _ => none }
def textBackRow : OpenClaim := { program := "ytcgdcnhggejgbaa", sum := "97ed1dd039ec5a0f62e8d51fa16a25974e9abf02578b9c3c4d6864373dff1bdd", func := "bascule/basculekeep.TextBack", spec := "textBack", inPlace := ["math/bits.Add64"], named := ["math/bits.divideError", "math/bits.overflowError"], apart := false }
def TextBackSaid : Prop := textBackRow.holds Try.pinned (OpenSpec.ofChange textBackSpec)

/-- ITS FALSE NEIGHBOUR: 'it returns false'. Refute it at one input. -/
def textBackWrong : ChangeSpec := { name := "textBack", fn := fun _ => fun
  | [d] => { results := [.lit (.bool false)], args := [d] }
  | _ => none }
def TextBackWrongFalsely : Prop := textBackRow.holds Try.pinned (OpenSpec.ofChange textBackWrong)

/-- 'basculekeep.TextFixed': WHATEVER THE INPUT: true; the input reads as it did. -/
def textFixedSpec : ChangeSpec := { name := "textFixed", fn := fun _ => fun
  | [d] => { results := [.lit (.bool true)], args := [d] }
  | _ => none }
def textFixedRow : OpenClaim := { program := "ytcgdcnhggejgbaa", sum := "97ed1dd039ec5a0f62e8d51fa16a25974e9abf02578b9c3c4d6864373dff1bdd", func := "bascule/basculekeep.TextFixed", spec := "textFixed", inPlace := ["math/bits.Add64"], named := ["math/bits.divideError", "math/bits.overflowError"], apart := false }
def TextFixedSaid : Prop := textFixedRow.holds Try.pinned (OpenSpec.ofChange textFixedSpec)

/-- ITS FALSE NEIGHBOUR: 'it returns false'. Refute it at one input. -/
def textFixedWrong : ChangeSpec := { name := "textFixed", fn := fun _ => fun
  | [d] => { results := [.lit (.bool false)], args := [d] }
  | _ => none }
def TextFixedWrongFalsely : Prop := textFixedRow.holds Try.pinned (OpenSpec.ofChange textFixedWrong)

/-- 'basculekeep.ScaleBack': WHATEVER THE INPUT: true; the input reads as it did. -/
def scaleBackSpec : ChangeSpec := { name := "scaleBack", fn := fun _ => fun
  | [d1, d2] => { results := [.lit (.bool true)], args := [d1, d2] }
  | _ => none }
def scaleBackRow : OpenClaim := { program := "ytcgdcnhggejgbaa", sum := "97ed1dd039ec5a0f62e8d51fa16a25974e9abf02578b9c3c4d6864373dff1bdd", func := "bascule/basculekeep.ScaleBack", spec := "scaleBack", inPlace := ["math/bits.Add64", "math/bits.Sub64"], apart := false }
def ScaleBackSaid : Prop := scaleBackRow.holds Try.pinned (OpenSpec.ofChange scaleBackSpec)

/-- ITS FALSE NEIGHBOUR: 'it returns false'. Refute it at one input. -/
def scaleBackWrong : ChangeSpec := { name := "scaleBack", fn := fun _ => fun
  | [d1, d2] => { results := [.lit (.bool false)], args := [d1, d2] }
  | _ => none }
def ScaleBackWrongFalsely : Prop := scaleBackRow.holds Try.pinned (OpenSpec.ofChange scaleBackWrong)

/-- 'basculekeep.ScaleAdds': WHATEVER THE INPUT: true; the input reads as it did. -/
def scaleAddsSpec : ChangeSpec := { name := "scaleAdds", fn := fun _ => fun
  | [d1, d2, d3] => { results := [.lit (.bool true)], args := [d1, d2, d3] }
  | _ => none }
def scaleAddsRow : OpenClaim := { program := "ytcgdcnhggejgbaa", sum := "97ed1dd039ec5a0f62e8d51fa16a25974e9abf02578b9c3c4d6864373dff1bdd", func := "bascule/basculekeep.ScaleAdds", spec := "scaleAdds", inPlace := ["math/bits.Add64", "math/bits.Sub64"], apart := false }
def ScaleAddsSaid : Prop := scaleAddsRow.holds Try.pinned (OpenSpec.ofChange scaleAddsSpec)

/-- ITS FALSE NEIGHBOUR: 'it returns false'. Refute it at one input. -/
def scaleAddsWrong : ChangeSpec := { name := "scaleAdds", fn := fun _ => fun
  | [d1, d2, d3] => { results := [.lit (.bool false)], args := [d1, d2, d3] }
  | _ => none }
def ScaleAddsWrongFalsely : Prop := scaleAddsRow.holds Try.pinned (OpenSpec.ofChange scaleAddsWrong)

/- THE SECOND FORM. 'bulk': how many values and letters a reading holds, each counted each time it is reached (what is shared counts as often as it is met; a slice's spare places count too). A statement '..UptoSaid' is the law's where the arguments, and the package variables that the reading takes, are together of bulk at most 1048576: NARROWER than '..Said'. Prove '..Said' where nothing that the law and all that it calls make is longer than what came in: it says more and counts as full. Else prove '..UptoSaid'. A law counts once. -/
mutual
def uptoBulk {H : Type} : DataW H → Nat
  | .lit (.string bytes) => bytes.length + 1
  | .lit _ => 1
  | .nil => 1
  | .ptr d => uptoBulk d + 1
  | .slice elems spare => uptoBulkAll elems + uptoBulkAll spare + 1
  | .agg parts => uptoBulkAll parts + 1
  | .iface _ d => uptoBulk d + 1
  | .map entries => uptoBulkEntries entries + 1
  | .held _ => 1
def uptoBulkAll {H : Type} : List (DataW H) → Nat
  | [] => 0
  | d :: r => uptoBulk d + uptoBulkAll r
def uptoBulkEntries {H : Type} : List (Lit × DataW H) → Nat
  | [] => 0
  | x :: r => uptoBulkEntry x + uptoBulkEntries r
def uptoBulkEntry {H : Type} : Lit × DataW H → Nat
  | (.string bytes, d) => bytes.length + uptoBulk d + 1
  | (_, d) => uptoBulk d + 1
 end
def uptoSmall : (H : Type) → List (DataW H) → Bool := fun _ ds => decide (uptoBulkAll ds ≤ 1048576)
def OpenSpec.upto (s : _root_.Go.ChangeSpec) : _root_.Go.OpenSpec := { _root_.Go.OpenSpec.ofChange s with cond := some uptoSmall }

/-- 'basculekeep.AddGroups', WHERE WHAT IT READS IS OF BULK AT MOST 1048576: true; the input reads as it did. -/
def addGroupsUptoRow : OpenClaim := { program := "ytcgdcnhggejgbaa", sum := "97ed1dd039ec5a0f62e8d51fa16a25974e9abf02578b9c3c4d6864373dff1bdd", func := "bascule/basculekeep.AddGroups", spec := "addGroups", inPlace := ["math/bits.Add64"], apart := false, narrowed := true }
def AddGroupsUptoSaid : Prop := addGroupsUptoRow.holds Try.pinned (OpenSpec.upto addGroupsSpec)

/-- 'basculekeep.AddBack', WHERE WHAT IT READS IS OF BULK AT MOST 1048576: true; the input reads as it did. -/
def addBackUptoRow : OpenClaim := { program := "ytcgdcnhggejgbaa", sum := "97ed1dd039ec5a0f62e8d51fa16a25974e9abf02578b9c3c4d6864373dff1bdd", func := "bascule/basculekeep.AddBack", spec := "addBack", inPlace := ["math/bits.Add64", "math/bits.Sub64"], apart := false, narrowed := true }
def AddBackUptoSaid : Prop := addBackUptoRow.holds Try.pinned (OpenSpec.upto addBackSpec)

/-- 'basculekeep.OrderSubs', WHERE WHAT IT READS IS OF BULK AT MOST 1048576: true; the input reads as it did. -/
def orderSubsUptoRow : OpenClaim := { program := "ytcgdcnhggejgbaa", sum := "97ed1dd039ec5a0f62e8d51fa16a25974e9abf02578b9c3c4d6864373dff1bdd", func := "bascule/basculekeep.OrderSubs", spec := "orderSubs", inPlace := ["math/bits.Sub64", "math/bits.Add64"], apart := false, narrowed := true }
def OrderSubsUptoSaid : Prop := orderSubsUptoRow.holds Try.pinned (OpenSpec.upto orderSubsSpec)

/-- 'basculekeep.BytesBack', WHERE WHAT IT READS IS OF BULK AT MOST 1048576: true; the input reads as it did. -/
def bytesBackUptoRow : OpenClaim := { program := "ytcgdcnhggejgbaa", sum := "97ed1dd039ec5a0f62e8d51fa16a25974e9abf02578b9c3c4d6864373dff1bdd", func := "bascule/basculekeep.BytesBack", spec := "bytesBack", inPlace := ["math/bits.Add64"], apart := false, narrowed := true }
def BytesBackUptoSaid : Prop := bytesBackUptoRow.holds Try.pinned (OpenSpec.upto bytesBackSpec)

/-- 'basculekeep.MulTurns', WHERE WHAT IT READS IS OF BULK AT MOST 1048576: true; the input reads as it did. -/
def mulTurnsUptoRow : OpenClaim := { program := "ytcgdcnhggejgbaa", sum := "97ed1dd039ec5a0f62e8d51fa16a25974e9abf02578b9c3c4d6864373dff1bdd", func := "bascule/basculekeep.MulTurns", spec := "mulTurns", inPlace := ["math/bits.Add64"], apart := false, narrowed := true }
def MulTurnsUptoSaid : Prop := mulTurnsUptoRow.holds Try.pinned (OpenSpec.upto mulTurnsSpec)

/-- 'basculekeep.MulSpreads', WHERE WHAT IT READS IS OF BULK AT MOST 1048576: true; the input reads as it did. -/
def mulSpreadsUptoRow : OpenClaim := { program := "ytcgdcnhggejgbaa", sum := "97ed1dd039ec5a0f62e8d51fa16a25974e9abf02578b9c3c4d6864373dff1bdd", func := "bascule/basculekeep.MulSpreads", spec := "mulSpreads", inPlace := ["math/bits.Add64"], apart := false, narrowed := true }
def MulSpreadsUptoSaid : Prop := mulSpreadsUptoRow.holds Try.pinned (OpenSpec.upto mulSpreadsSpec)

/-- 'basculekeep.MulGroups', WHERE WHAT IT READS IS OF BULK AT MOST 1048576: true; the input reads as it did. -/
def mulGroupsUptoRow : OpenClaim := { program := "ytcgdcnhggejgbaa", sum := "97ed1dd039ec5a0f62e8d51fa16a25974e9abf02578b9c3c4d6864373dff1bdd", func := "bascule/basculekeep.MulGroups", spec := "mulGroups", inPlace := ["math/bits.Add64"], apart := false, narrowed := true }
def MulGroupsUptoSaid : Prop := mulGroupsUptoRow.holds Try.pinned (OpenSpec.upto mulGroupsSpec)

/-- 'basculekeep.TenTimes', WHERE WHAT IT READS IS OF BULK AT MOST 1048576: true; the input reads as it did. -/
def tenTimesUptoRow : OpenClaim := { program := "ytcgdcnhggejgbaa", sum := "97ed1dd039ec5a0f62e8d51fa16a25974e9abf02578b9c3c4d6864373dff1bdd", func := "bascule/basculekeep.TenTimes", spec := "tenTimes", inPlace := ["math/bits.Add64"], apart := false, narrowed := true }
def TenTimesUptoSaid : Prop := tenTimesUptoRow.holds Try.pinned (OpenSpec.upto tenTimesSpec)

/-- 'basculekeep.DivBack', WHERE WHAT IT READS IS OF BULK AT MOST 1048576: true; the input reads as it did. -/
def divBackUptoRow : OpenClaim := { program := "ytcgdcnhggejgbaa", sum := "97ed1dd039ec5a0f62e8d51fa16a25974e9abf02578b9c3c4d6864373dff1bdd", func := "bascule/basculekeep.DivBack", spec := "divBack", inPlace := ["math/bits.Add64", "math/bits.Sub64"], apart := false, narrowed := true }
def DivBackUptoSaid : Prop := divBackUptoRow.holds Try.pinned (OpenSpec.upto divBackSpec)

/-- 'basculekeep.TextBack', WHERE WHAT IT READS IS OF BULK AT MOST 1048576: true; the input reads as it did. -/
def textBackUptoRow : OpenClaim := { program := "ytcgdcnhggejgbaa", sum := "97ed1dd039ec5a0f62e8d51fa16a25974e9abf02578b9c3c4d6864373dff1bdd", func := "bascule/basculekeep.TextBack", spec := "textBack", inPlace := ["math/bits.Add64"], named := ["math/bits.divideError", "math/bits.overflowError"], apart := false, narrowed := true }
def TextBackUptoSaid : Prop := textBackUptoRow.holds Try.pinned (OpenSpec.upto textBackSpec)

/-- 'basculekeep.TextFixed', WHERE WHAT IT READS IS OF BULK AT MOST 1048576: true; the input reads as it did. -/
def textFixedUptoRow : OpenClaim := { program := "ytcgdcnhggejgbaa", sum := "97ed1dd039ec5a0f62e8d51fa16a25974e9abf02578b9c3c4d6864373dff1bdd", func := "bascule/basculekeep.TextFixed", spec := "textFixed", inPlace := ["math/bits.Add64"], named := ["math/bits.divideError", "math/bits.overflowError"], apart := false, narrowed := true }
def TextFixedUptoSaid : Prop := textFixedUptoRow.holds Try.pinned (OpenSpec.upto textFixedSpec)

/-- 'basculekeep.ScaleBack', WHERE WHAT IT READS IS OF BULK AT MOST 1048576: true; the input reads as it did. -/
def scaleBackUptoRow : OpenClaim := { program := "ytcgdcnhggejgbaa", sum := "97ed1dd039ec5a0f62e8d51fa16a25974e9abf02578b9c3c4d6864373dff1bdd", func := "bascule/basculekeep.ScaleBack", spec := "scaleBack", inPlace := ["math/bits.Add64", "math/bits.Sub64"], apart := false, narrowed := true }
def ScaleBackUptoSaid : Prop := scaleBackUptoRow.holds Try.pinned (OpenSpec.upto scaleBackSpec)

/-- 'basculekeep.ScaleAdds', WHERE WHAT IT READS IS OF BULK AT MOST 1048576: true; the input reads as it did. -/
def scaleAddsUptoRow : OpenClaim := { program := "ytcgdcnhggejgbaa", sum := "97ed1dd039ec5a0f62e8d51fa16a25974e9abf02578b9c3c4d6864373dff1bdd", func := "bascule/basculekeep.ScaleAdds", spec := "scaleAdds", inPlace := ["math/bits.Add64", "math/bits.Sub64"], apart := false, narrowed := true }
def ScaleAddsUptoSaid : Prop := scaleAddsUptoRow.holds Try.pinned (OpenSpec.upto scaleAddsSpec)

end Rows
end Go.Proofs.Ytcgdcnhggejgbaa
