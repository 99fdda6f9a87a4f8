/-
  No cell of these rows narrows 'for every input' (looked for: loops, veiled, ifaces, maps, wideKeys, modest, calm, conditions, laid).
  DERIVED. THE GIVEN ROWS OF THIS SEAT. 3 by the template 'for every input the law returns true; each argument reads behind the call as it read before'; 0 by the template 'total and deterministic' (their statements: YtcfefmbbbfdppaaTotals.lean).
  GIVEN WITH THE SEED: the statements are not yours to turn. If you find one false, say at which input.
  Laid BY PROGRAM, IN A SANDBOX (cutbox-rows.mjs): the forced cells as the released guide's own fill.sh prints them over the translation f81ef866872bf4d4… (all of the seat's roots in one cut). By AI agents, Wed Nov 11 2026. No macro, syntax, notation, axiom, sorry.
-/
import Derived.Test.YtcfefmbbbfdppaaChecked
import GoSem.Claim
import GoSem.ClaimJoined
import GoSem.ClaimMapViews
import Derived.JoinedTies
import Derived.KernelRfl
namespace Go.Proofs.Ytcfefmbbbfdppaa
/- THE CELL 'sum', in the pinned program and in every row, IS THE sha256 OF THE DUMP (.gsa) THAT YtcfefmbbbfdppaaProg.lean LOADS. Nothing in Lean hashes anything: it is a label: what it is worth is what the hold of that sum in a sandbox is worth. -/
noncomputable def Try.pinned : Pinned := { name := "ytcfefmbbbfdppaa", sum := "f81ef866872bf4d48f6effcc19ac771d9eb99eb4b27183dfe5d63ad19caf55b0", checked := Try.checked }
namespace Rows
def none {H : Type} : Left H := { results := [], args := [] }

/-- 'basculekeep.GuardDay': WHATEVER THE INPUT: true; the input reads as it did. -/
def guardDaySpec : ChangeSpec := { name := "guardDay", fn := fun _ => fun
  | [d1, d2] => { results := [.lit (.bool true)], args := [d1, d2] }
  | _ => none }
def guardDayRow : OpenClaim := { program := "ytcfefmbbbfdppaa", sum := "f81ef866872bf4d48f6effcc19ac771d9eb99eb4b27183dfe5d63ad19caf55b0", func := "bascule/basculekeep.GuardDay", spec := "guardDay", unfollowed := true, recurses := true, apart := false }
def GuardDaySaid : Prop := guardDayRow.holds Try.pinned (OpenSpec.ofChange guardDaySpec)

/-- ITS FALSE NEIGHBOUR: 'it returns false'. Refute it at one input. -/
def guardDayWrong : ChangeSpec := { name := "guardDay", fn := fun _ => fun
  | [d1, d2] => { results := [.lit (.bool false)], args := [d1, d2] }
  | _ => none }
def GuardDayWrongFalsely : Prop := guardDayRow.holds Try.pinned (OpenSpec.ofChange guardDayWrong)

/-- 'basculekeep.GuardLog': WHATEVER THE INPUT: true; the input reads as it did. -/
def guardLogSpec : ChangeSpec := { name := "guardLog", fn := fun _ => fun
  | [d1, d2] => { results := [.lit (.bool true)], args := [d1, d2] }
  | _ => none }
def guardLogRow : OpenClaim := { program := "ytcfefmbbbfdppaa", sum := "f81ef866872bf4d48f6effcc19ac771d9eb99eb4b27183dfe5d63ad19caf55b0", func := "bascule/basculekeep.GuardLog", spec := "guardLog", unfollowed := true, recurses := true, apart := false }
def GuardLogSaid : Prop := guardLogRow.holds Try.pinned (OpenSpec.ofChange guardLogSpec)

/-- ITS FALSE NEIGHBOUR: 'it returns false'. Refute it at one input. -/
def guardLogWrong : ChangeSpec := { name := "guardLog", fn := fun _ => fun
  | [d1, d2] => { results := [.lit (.bool false)], args := [d1, d2] }
  | _ => none }
def GuardLogWrongFalsely : Prop := guardLogRow.holds Try.pinned (OpenSpec.ofChange guardLogWrong)

/-- 'basculekeep.GuardFallen': WHATEVER THE INPUT: true; the input reads as it did. -/
def guardFallenSpec : ChangeSpec := { name := "guardFallen", fn := fun _ => fun
  | [d1, d2, d3, d4] => { results := [.lit (.bool true)], args := [d1, d2, d3, d4] }
  | _ => none }
def guardFallenRow : OpenClaim := { program := "ytcfefmbbbfdppaa", sum := "f81ef866872bf4d48f6effcc19ac771d9eb99eb4b27183dfe5d63ad19caf55b0", func := "bascule/basculekeep.GuardFallen", spec := "guardFallen", unfollowed := true, recurses := true, apart := false }
def GuardFallenSaid : Prop := guardFallenRow.holds Try.pinned (OpenSpec.ofChange guardFallenSpec)

/-- ITS FALSE NEIGHBOUR: 'it returns false'. Refute it at one input. -/
def guardFallenWrong : ChangeSpec := { name := "guardFallen", fn := fun _ => fun
  | [d1, d2, d3, d4] => { results := [.lit (.bool false)], args := [d1, d2, d3, d4] }
  | _ => none }
def GuardFallenWrongFalsely : Prop := guardFallenRow.holds Try.pinned (OpenSpec.ofChange guardFallenWrong)

/- THE SECOND FORM. 'bulk': how many values and letters a reading holds, each counted each time it is reached (what is shared counts as often as it is met; a slice's spare places count too). A statement '..UptoSaid' is the law's where the arguments, and the package variables that the reading takes, are together of bulk at most 1048576: NARROWER than '..Said'. Prove '..Said' where nothing that the law and all that it calls make is longer than what came in: it says more and counts as full. Else prove '..UptoSaid'. A law counts once. -/
mutual
def uptoBulk {H : Type} : DataW H → Nat
  | .lit (.string bytes) => bytes.length + 1
  | .lit _ => 1
  | .nil => 1
  | .ptr d => uptoBulk d + 1
  | .slice elems spare => uptoBulkAll elems + uptoBulkAll spare + 1
  | .agg parts => uptoBulkAll parts + 1
  | .iface _ d => uptoBulk d + 1
  | .map entries => uptoBulkEntries entries + 1
  | .held _ => 1
def uptoBulkAll {H : Type} : List (DataW H) → Nat
  | [] => 0
  | d :: r => uptoBulk d + uptoBulkAll r
def uptoBulkEntries {H : Type} : List (Lit × DataW H) → Nat
  | [] => 0
  | x :: r => uptoBulkEntry x + uptoBulkEntries r
def uptoBulkEntry {H : Type} : Lit × DataW H → Nat
  | (.string bytes, d) => bytes.length + uptoBulk d + 1
  | (_, d) => uptoBulk d + 1
 end
def uptoSmall : (H : Type) → List (DataW H) → Bool := fun _ ds => decide (uptoBulkAll ds ≤ 1048576)
def OpenSpec.upto (s : _root_.Go.ChangeSpec) : _root_.Go.OpenSpec := { _root_.Go.OpenSpec.ofChange s with cond := some uptoSmall }

/-- 'basculekeep.GuardDay', WHERE WHAT IT READS IS OF BULK AT MOST 1048576: true; the input reads as it did. -/
def guardDayUptoRow : OpenClaim := { program := "ytcfefmbbbfdppaa", sum := "f81ef866872bf4d48f6effcc19ac771d9eb99eb4b27183dfe5d63ad19caf55b0", func := "bascule/basculekeep.GuardDay", spec := "guardDay", unfollowed := true, recurses := true, apart := false, narrowed := true }
def GuardDayUptoSaid : Prop := guardDayUptoRow.holds Try.pinned (OpenSpec.upto guardDaySpec)

/-- 'basculekeep.GuardLog', WHERE WHAT IT READS IS OF BULK AT MOST 1048576: true; the input reads as it did. -/
def guardLogUptoRow : OpenClaim := { program := "ytcfefmbbbfdppaa", sum := "f81ef866872bf4d48f6effcc19ac771d9eb99eb4b27183dfe5d63ad19caf55b0", func := "bascule/basculekeep.GuardLog", spec := "guardLog", unfollowed := true, recurses := true, apart := false, narrowed := true }
def GuardLogUptoSaid : Prop := guardLogUptoRow.holds Try.pinned (OpenSpec.upto guardLogSpec)

/-- 'basculekeep.GuardFallen', WHERE WHAT IT READS IS OF BULK AT MOST 1048576: true; the input reads as it did. -/
def guardFallenUptoRow : OpenClaim := { program := "ytcfefmbbbfdppaa", sum := "f81ef866872bf4d48f6effcc19ac771d9eb99eb4b27183dfe5d63ad19caf55b0", func := "bascule/basculekeep.GuardFallen", spec := "guardFallen", unfollowed := true, recurses := true, apart := false, narrowed := true }
def GuardFallenUptoSaid : Prop := guardFallenUptoRow.holds Try.pinned (OpenSpec.upto guardFallenSpec)

end Rows
end Go.Proofs.Ytcfefmbbbfdppaa
