/-
  No cell of these rows narrows 'for every input' (looked for: loops, veiled, ifaces, maps, wideKeys, modest, calm, conditions, laid).
  DERIVED. THE GIVEN ROWS OF THIS SEAT. 6 by the template 'for every input the law returns true; each argument reads behind the call as it read before'; 0 by the template 'total and deterministic' (their statements: YtnlacdclnhoghaaTotals.lean).
  GIVEN WITH THE SEED: the statements are not yours to turn. If you find one false, say at which input.
  Laid BY PROGRAM, IN A SANDBOX (cutbox-rows.mjs): the forced cells as the released guide's own fill.sh prints them over the translation a5dde3a60331e581… (all of the seat's roots in one cut). By AI agents, Wed Nov 11 2026. No macro, syntax, notation, axiom, sorry.
-/
import Derived.Test.YtnlacdclnhoghaaChecked
import GoSem.Claim
import GoSem.ClaimJoined
import GoSem.ClaimMapViews
import Derived.JoinedTies
import Derived.KernelRfl
namespace Go.Proofs.Ytnlacdclnhoghaa
/- THE CELL 'sum', in the pinned program and in every row, IS THE sha256 OF THE DUMP (.gsa) THAT YtnlacdclnhoghaaProg.lean LOADS. Nothing in Lean hashes anything: it is a label: what it is worth is what the hold of that sum in a sandbox is worth. -/
noncomputable def Try.pinned : Pinned := { name := "ytnlacdclnhoghaa", sum := "a5dde3a60331e581baf86e0e7ef9131379a5af1e98fa16ea3533e24450884aa8", checked := Try.checked }
namespace Rows
def none {H : Type} : Left H := { results := [], args := [] }

/-- 'basculekeep.GrowLate': WHATEVER THE INPUT: true; the input reads as it did. -/
def growLateSpec : ChangeSpec := { name := "growLate", fn := fun _ => fun
  | [d1, d2] => { results := [.lit (.bool true)], args := [d1, d2] }
  | _ => none }
def growLateRow : OpenClaim := { program := "ytnlacdclnhoghaa", sum := "a5dde3a60331e581baf86e0e7ef9131379a5af1e98fa16ea3533e24450884aa8", func := "bascule/basculekeep.GrowLate", spec := "growLate", apart := false }
def GrowLateSaid : Prop := growLateRow.holds Try.pinned (OpenSpec.ofChange growLateSpec)

/-- ITS FALSE NEIGHBOUR: 'it returns false'. Refute it at one input. -/
def growLateWrong : ChangeSpec := { name := "growLate", fn := fun _ => fun
  | [d1, d2] => { results := [.lit (.bool false)], args := [d1, d2] }
  | _ => none }
def GrowLateWrongFalsely : Prop := growLateRow.holds Try.pinned (OpenSpec.ofChange growLateWrong)

/-- 'basculekeep.GateDay': WHATEVER THE INPUT: true; the input reads as it did. -/
def gateDaySpec : ChangeSpec := { name := "gateDay", fn := fun _ => fun
  | [d1, d2, d3, d4] => { results := [.lit (.bool true)], args := [d1, d2, d3, d4] }
  | _ => none }
def gateDayRow : OpenClaim := { program := "ytnlacdclnhoghaa", sum := "a5dde3a60331e581baf86e0e7ef9131379a5af1e98fa16ea3533e24450884aa8", func := "bascule/basculekeep.GateDay", spec := "gateDay", apart := false }
def GateDaySaid : Prop := gateDayRow.holds Try.pinned (OpenSpec.ofChange gateDaySpec)

/-- ITS FALSE NEIGHBOUR: 'it returns false'. Refute it at one input. -/
def gateDayWrong : ChangeSpec := { name := "gateDay", fn := fun _ => fun
  | [d1, d2, d3, d4] => { results := [.lit (.bool false)], args := [d1, d2, d3, d4] }
  | _ => none }
def GateDayWrongFalsely : Prop := gateDayRow.holds Try.pinned (OpenSpec.ofChange gateDayWrong)

/-- 'basculekeep.GateWaits': WHATEVER THE INPUT: true; the input reads as it did. -/
def gateWaitsSpec : ChangeSpec := { name := "gateWaits", fn := fun _ => fun
  | [d1, d2] => { results := [.lit (.bool true)], args := [d1, d2] }
  | _ => none }
def gateWaitsRow : OpenClaim := { program := "ytnlacdclnhoghaa", sum := "a5dde3a60331e581baf86e0e7ef9131379a5af1e98fa16ea3533e24450884aa8", func := "bascule/basculekeep.GateWaits", spec := "gateWaits", apart := false }
def GateWaitsSaid : Prop := gateWaitsRow.holds Try.pinned (OpenSpec.ofChange gateWaitsSpec)

/-- ITS FALSE NEIGHBOUR: 'it returns false'. Refute it at one input. -/
def gateWaitsWrong : ChangeSpec := { name := "gateWaits", fn := fun _ => fun
  | [d1, d2] => { results := [.lit (.bool false)], args := [d1, d2] }
  | _ => none }
def GateWaitsWrongFalsely : Prop := gateWaitsRow.holds Try.pinned (OpenSpec.ofChange gateWaitsWrong)

/-- 'basculekeep.GateOnce': WHATEVER THE INPUT: true; the input reads as it did. -/
def gateOnceSpec : ChangeSpec := { name := "gateOnce", fn := fun _ => fun
  | [d1, d2, d3] => { results := [.lit (.bool true)], args := [d1, d2, d3] }
  | _ => none }
def gateOnceRow : OpenClaim := { program := "ytnlacdclnhoghaa", sum := "a5dde3a60331e581baf86e0e7ef9131379a5af1e98fa16ea3533e24450884aa8", func := "bascule/basculekeep.GateOnce", spec := "gateOnce", apart := false }
def GateOnceSaid : Prop := gateOnceRow.holds Try.pinned (OpenSpec.ofChange gateOnceSpec)

/-- ITS FALSE NEIGHBOUR: 'it returns false'. Refute it at one input. -/
def gateOnceWrong : ChangeSpec := { name := "gateOnce", fn := fun _ => fun
  | [d1, d2, d3] => { results := [.lit (.bool false)], args := [d1, d2, d3] }
  | _ => none }
def GateOnceWrongFalsely : Prop := gateOnceRow.holds Try.pinned (OpenSpec.ofChange gateOnceWrong)

/-- 'basculekeep.FinalStays': WHATEVER THE INPUT: true; the input reads as it did. -/
def finalStaysSpec : ChangeSpec := { name := "finalStays", fn := fun _ => fun
  | [d1, d2] => { results := [.lit (.bool true)], args := [d1, d2] }
  | _ => none }
def finalStaysRow : OpenClaim := { program := "ytnlacdclnhoghaa", sum := "a5dde3a60331e581baf86e0e7ef9131379a5af1e98fa16ea3533e24450884aa8", func := "bascule/basculekeep.FinalStays", spec := "finalStays", apart := false }
def FinalStaysSaid : Prop := finalStaysRow.holds Try.pinned (OpenSpec.ofChange finalStaysSpec)

/-- ITS FALSE NEIGHBOUR: 'it returns false'. Refute it at one input. -/
def finalStaysWrong : ChangeSpec := { name := "finalStays", fn := fun _ => fun
  | [d1, d2] => { results := [.lit (.bool false)], args := [d1, d2] }
  | _ => none }
def FinalStaysWrongFalsely : Prop := finalStaysRow.holds Try.pinned (OpenSpec.ofChange finalStaysWrong)

/-- 'basculekeep.LineHighest': WHATEVER THE INPUT: true; the input reads as it did. -/
def lineHighestSpec : ChangeSpec := { name := "lineHighest", fn := fun _ => fun
  | [d1, d2] => { results := [.lit (.bool true)], args := [d1, d2] }
  | _ => none }
def lineHighestRow : OpenClaim := { program := "ytnlacdclnhoghaa", sum := "a5dde3a60331e581baf86e0e7ef9131379a5af1e98fa16ea3533e24450884aa8", func := "bascule/basculekeep.LineHighest", spec := "lineHighest", apart := false }
def LineHighestSaid : Prop := lineHighestRow.holds Try.pinned (OpenSpec.ofChange lineHighestSpec)

/-- ITS FALSE NEIGHBOUR: 'it returns false'. Refute it at one input. -/
def lineHighestWrong : ChangeSpec := { name := "lineHighest", fn := fun _ => fun
  | [d1, d2] => { results := [.lit (.bool false)], args := [d1, d2] }
  | _ => none }
def LineHighestWrongFalsely : Prop := lineHighestRow.holds Try.pinned (OpenSpec.ofChange lineHighestWrong)

/- THE SECOND FORM. 'bulk': how many values and letters a reading holds, each counted each time it is reached (what is shared counts as often as it is met; a slice's spare places count too). A statement '..UptoSaid' is the law's where the arguments, and the package variables that the reading takes, are together of bulk at most 1048576: NARROWER than '..Said'. Prove '..Said' where nothing that the law and all that it calls make is longer than what came in: it says more and counts as full. Else prove '..UptoSaid'. A law counts once. -/
mutual
def uptoBulk {H : Type} : DataW H → Nat
  | .lit (.string bytes) => bytes.length + 1
  | .lit _ => 1
  | .nil => 1
  | .ptr d => uptoBulk d + 1
  | .slice elems spare => uptoBulkAll elems + uptoBulkAll spare + 1
  | .agg parts => uptoBulkAll parts + 1
  | .iface _ d => uptoBulk d + 1
  | .map entries => uptoBulkEntries entries + 1
  | .held _ => 1
def uptoBulkAll {H : Type} : List (DataW H) → Nat
  | [] => 0
  | d :: r => uptoBulk d + uptoBulkAll r
def uptoBulkEntries {H : Type} : List (Lit × DataW H) → Nat
  | [] => 0
  | x :: r => uptoBulkEntry x + uptoBulkEntries r
def uptoBulkEntry {H : Type} : Lit × DataW H → Nat
  | (.string bytes, d) => bytes.length + uptoBulk d + 1
  | (_, d) => uptoBulk d + 1
 end
def uptoSmall : (H : Type) → List (DataW H) → Bool := fun _ ds => decide (uptoBulkAll ds ≤ 1048576)
def OpenSpec.upto (s : _root_.Go.ChangeSpec) : _root_.Go.OpenSpec := { _root_.Go.OpenSpec.ofChange s with cond := some uptoSmall }

/-- 'basculekeep.GrowLate', WHERE WHAT IT READS IS OF BULK AT MOST 1048576: true; the input reads as it did. -/
def growLateUptoRow : OpenClaim := { program := "ytnlacdclnhoghaa", sum := "a5dde3a60331e581baf86e0e7ef9131379a5af1e98fa16ea3533e24450884aa8", func := "bascule/basculekeep.GrowLate", spec := "growLate", apart := false, narrowed := true }
def GrowLateUptoSaid : Prop := growLateUptoRow.holds Try.pinned (OpenSpec.upto growLateSpec)

/-- 'basculekeep.GateDay', WHERE WHAT IT READS IS OF BULK AT MOST 1048576: true; the input reads as it did. -/
def gateDayUptoRow : OpenClaim := { program := "ytnlacdclnhoghaa", sum := "a5dde3a60331e581baf86e0e7ef9131379a5af1e98fa16ea3533e24450884aa8", func := "bascule/basculekeep.GateDay", spec := "gateDay", apart := false, narrowed := true }
def GateDayUptoSaid : Prop := gateDayUptoRow.holds Try.pinned (OpenSpec.upto gateDaySpec)

/-- 'basculekeep.GateWaits', WHERE WHAT IT READS IS OF BULK AT MOST 1048576: true; the input reads as it did. -/
def gateWaitsUptoRow : OpenClaim := { program := "ytnlacdclnhoghaa", sum := "a5dde3a60331e581baf86e0e7ef9131379a5af1e98fa16ea3533e24450884aa8", func := "bascule/basculekeep.GateWaits", spec := "gateWaits", apart := false, narrowed := true }
def GateWaitsUptoSaid : Prop := gateWaitsUptoRow.holds Try.pinned (OpenSpec.upto gateWaitsSpec)

/-- 'basculekeep.GateOnce', WHERE WHAT IT READS IS OF BULK AT MOST 1048576: true; the input reads as it did. -/
def gateOnceUptoRow : OpenClaim := { program := "ytnlacdclnhoghaa", sum := "a5dde3a60331e581baf86e0e7ef9131379a5af1e98fa16ea3533e24450884aa8", func := "bascule/basculekeep.GateOnce", spec := "gateOnce", apart := false, narrowed := true }
def GateOnceUptoSaid : Prop := gateOnceUptoRow.holds Try.pinned (OpenSpec.upto gateOnceSpec)

/-- 'basculekeep.FinalStays', WHERE WHAT IT READS IS OF BULK AT MOST 1048576: true; the input reads as it did. -/
def finalStaysUptoRow : OpenClaim := { program := "ytnlacdclnhoghaa", sum := "a5dde3a60331e581baf86e0e7ef9131379a5af1e98fa16ea3533e24450884aa8", func := "bascule/basculekeep.FinalStays", spec := "finalStays", apart := false, narrowed := true }
def FinalStaysUptoSaid : Prop := finalStaysUptoRow.holds Try.pinned (OpenSpec.upto finalStaysSpec)

/-- 'basculekeep.LineHighest', WHERE WHAT IT READS IS OF BULK AT MOST 1048576: true; the input reads as it did. -/
def lineHighestUptoRow : OpenClaim := { program := "ytnlacdclnhoghaa", sum := "a5dde3a60331e581baf86e0e7ef9131379a5af1e98fa16ea3533e24450884aa8", func := "bascule/basculekeep.LineHighest", spec := "lineHighest", apart := false, narrowed := true }
def LineHighestUptoSaid : Prop := lineHighestUptoRow.holds Try.pinned (OpenSpec.upto lineHighestSpec)

end Rows
end Go.Proofs.Ytnlacdclnhoghaa
