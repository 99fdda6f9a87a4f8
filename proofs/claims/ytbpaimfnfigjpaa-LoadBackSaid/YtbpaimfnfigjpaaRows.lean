/-
  No cell of these rows narrows 'for every input' (looked for: loops, veiled, ifaces, maps, wideKeys, modest, calm, conditions, laid).
  DERIVED. THE GIVEN ROWS OF THIS SEAT. 4 by the template 'for every input the law returns true; each argument reads behind the call as it read before'; 0 by the template 'total and deterministic' (their statements: YtbpaimfnfigjpaaTotals.lean).
  GIVEN WITH THE SEED: the statements are not yours to turn. If you find one false, say at which input.
  Laid BY PROGRAM, IN A SANDBOX (cutbox-rows.mjs): the forced cells as the released guide's own fill.sh prints them over the translation 3700813ac85d08a1… (all of the seat's roots in one cut). By AI agents, Wed Nov 11 2026. No macro, syntax, notation, axiom, sorry.
-/
import Derived.Test.YtbpaimfnfigjpaaChecked
import GoSem.Claim
import GoSem.ClaimJoined
import GoSem.ClaimMapViews
import Derived.JoinedTies
import Derived.KernelRfl
namespace Go.Proofs.Ytbpaimfnfigjpaa
/- THE CELL 'sum', in the pinned program and in every row, IS THE sha256 OF THE DUMP (.gsa) THAT YtbpaimfnfigjpaaProg.lean LOADS. Nothing in Lean hashes anything: it is a label: what it is worth is what the hold of that sum in a sandbox is worth. -/
noncomputable def Try.pinned : Pinned := { name := "ytbpaimfnfigjpaa", sum := "3700813ac85d08a1618c004b0596232808d85b72304de04e4a4f74368f73cebb", checked := Try.checked }
namespace Rows
def none {H : Type} : Left H := { results := [], args := [] }

/-- 'basculekeep.PaperBack': WHATEVER THE INPUT: true; the input reads as it did. -/
def paperBackSpec : ChangeSpec := { name := "paperBack", fn := fun _ => fun
  | [d1, d2, d3, d4] => { results := [.lit (.bool true)], args := [d1, d2, d3, d4] }
  | _ => none }
def paperBackRow : OpenClaim := { program := "ytbpaimfnfigjpaa", sum := "3700813ac85d08a1618c004b0596232808d85b72304de04e4a4f74368f73cebb", func := "bascule/basculekeep.PaperBack", spec := "paperBack", unfollowed := true, recurses := true, apart := false }
def PaperBackSaid : Prop := paperBackRow.holds Try.pinned (OpenSpec.ofChange paperBackSpec)

/-- ITS FALSE NEIGHBOUR: 'it returns false'. Refute it at one input. -/
def paperBackWrong : ChangeSpec := { name := "paperBack", fn := fun _ => fun
  | [d1, d2, d3, d4] => { results := [.lit (.bool false)], args := [d1, d2, d3, d4] }
  | _ => none }
def PaperBackWrongFalsely : Prop := paperBackRow.holds Try.pinned (OpenSpec.ofChange paperBackWrong)

/-- 'basculekeep.PaperFixed': WHATEVER THE INPUT: true; the input reads as it did. -/
def paperFixedSpec : ChangeSpec := { name := "paperFixed", fn := fun _ => fun
  | [d] => { results := [.lit (.bool true)], args := [d] }
  | _ => none }
def paperFixedRow : OpenClaim := { program := "ytbpaimfnfigjpaa", sum := "3700813ac85d08a1618c004b0596232808d85b72304de04e4a4f74368f73cebb", func := "bascule/basculekeep.PaperFixed", spec := "paperFixed", unfollowed := true, recurses := true, apart := false }
def PaperFixedSaid : Prop := paperFixedRow.holds Try.pinned (OpenSpec.ofChange paperFixedSpec)

/-- ITS FALSE NEIGHBOUR: 'it returns false'. Refute it at one input. -/
def paperFixedWrong : ChangeSpec := { name := "paperFixed", fn := fun _ => fun
  | [d] => { results := [.lit (.bool false)], args := [d] }
  | _ => none }
def PaperFixedWrongFalsely : Prop := paperFixedRow.holds Try.pinned (OpenSpec.ofChange paperFixedWrong)

/-- 'basculekeep.LoadBack': WHATEVER THE INPUT: true; the input reads as it did. -/
def loadBackSpec : ChangeSpec := { name := "loadBack", fn := fun _ => fun
  | [d1, d2, d3, d4, d5] => { results := [.lit (.bool true)], args := [d1, d2, d3, d4, d5] }
  | _ => none }
def loadBackRow : OpenClaim := { program := "ytbpaimfnfigjpaa", sum := "3700813ac85d08a1618c004b0596232808d85b72304de04e4a4f74368f73cebb", func := "bascule/basculekeep.LoadBack", spec := "loadBack", unfollowed := true, recurses := true, apart := false }
def LoadBackSaid : Prop := loadBackRow.holds Try.pinned (OpenSpec.ofChange loadBackSpec)

/-- ITS FALSE NEIGHBOUR: 'it returns false'. Refute it at one input. -/
def loadBackWrong : ChangeSpec := { name := "loadBack", fn := fun _ => fun
  | [d1, d2, d3, d4, d5] => { results := [.lit (.bool false)], args := [d1, d2, d3, d4, d5] }
  | _ => none }
def LoadBackWrongFalsely : Prop := loadBackRow.holds Try.pinned (OpenSpec.ofChange loadBackWrong)

/-- 'basculekeep.LoadFixed': WHATEVER THE INPUT: true; the input reads as it did. -/
def loadFixedSpec : ChangeSpec := { name := "loadFixed", fn := fun _ => fun
  | [d] => { results := [.lit (.bool true)], args := [d] }
  | _ => none }
def loadFixedRow : OpenClaim := { program := "ytbpaimfnfigjpaa", sum := "3700813ac85d08a1618c004b0596232808d85b72304de04e4a4f74368f73cebb", func := "bascule/basculekeep.LoadFixed", spec := "loadFixed", unfollowed := true, recurses := true, apart := false }
def LoadFixedSaid : Prop := loadFixedRow.holds Try.pinned (OpenSpec.ofChange loadFixedSpec)

/-- ITS FALSE NEIGHBOUR: 'it returns false'. Refute it at one input. -/
def loadFixedWrong : ChangeSpec := { name := "loadFixed", fn := fun _ => fun
  | [d] => { results := [.lit (.bool false)], args := [d] }
  | _ => none }
def LoadFixedWrongFalsely : Prop := loadFixedRow.holds Try.pinned (OpenSpec.ofChange loadFixedWrong)

/- THE SECOND FORM. 'bulk': how many values and letters a reading holds, each counted each time it is reached (what is shared counts as often as it is met; a slice's spare places count too). A statement '..UptoSaid' is the law's where the arguments, and the package variables that the reading takes, are together of bulk at most 1048576: NARROWER than '..Said'. Prove '..Said' where nothing that the law and all that it calls make is longer than what came in: it says more and counts as full. Else prove '..UptoSaid'. A law counts once. -/
mutual
def uptoBulk {H : Type} : DataW H → Nat
  | .lit (.string bytes) => bytes.length + 1
  | .lit _ => 1
  | .nil => 1
  | .ptr d => uptoBulk d + 1
  | .slice elems spare => uptoBulkAll elems + uptoBulkAll spare + 1
  | .agg parts => uptoBulkAll parts + 1
  | .iface _ d => uptoBulk d + 1
  | .map entries => uptoBulkEntries entries + 1
  | .held _ => 1
def uptoBulkAll {H : Type} : List (DataW H) → Nat
  | [] => 0
  | d :: r => uptoBulk d + uptoBulkAll r
def uptoBulkEntries {H : Type} : List (Lit × DataW H) → Nat
  | [] => 0
  | x :: r => uptoBulkEntry x + uptoBulkEntries r
def uptoBulkEntry {H : Type} : Lit × DataW H → Nat
  | (.string bytes, d) => bytes.length + uptoBulk d + 1
  | (_, d) => uptoBulk d + 1
 end
def uptoSmall : (H : Type) → List (DataW H) → Bool := fun _ ds => decide (uptoBulkAll ds ≤ 1048576)
def OpenSpec.upto (s : _root_.Go.ChangeSpec) : _root_.Go.OpenSpec := { _root_.Go.OpenSpec.ofChange s with cond := some uptoSmall }

/-- 'basculekeep.PaperBack', WHERE WHAT IT READS IS OF BULK AT MOST 1048576: true; the input reads as it did. -/
def paperBackUptoRow : OpenClaim := { program := "ytbpaimfnfigjpaa", sum := "3700813ac85d08a1618c004b0596232808d85b72304de04e4a4f74368f73cebb", func := "bascule/basculekeep.PaperBack", spec := "paperBack", unfollowed := true, recurses := true, apart := false, narrowed := true }
def PaperBackUptoSaid : Prop := paperBackUptoRow.holds Try.pinned (OpenSpec.upto paperBackSpec)

/-- 'basculekeep.PaperFixed', WHERE WHAT IT READS IS OF BULK AT MOST 1048576: true; the input reads as it did. -/
def paperFixedUptoRow : OpenClaim := { program := "ytbpaimfnfigjpaa", sum := "3700813ac85d08a1618c004b0596232808d85b72304de04e4a4f74368f73cebb", func := "bascule/basculekeep.PaperFixed", spec := "paperFixed", unfollowed := true, recurses := true, apart := false, narrowed := true }
def PaperFixedUptoSaid : Prop := paperFixedUptoRow.holds Try.pinned (OpenSpec.upto paperFixedSpec)

/-- 'basculekeep.LoadBack', WHERE WHAT IT READS IS OF BULK AT MOST 1048576: true; the input reads as it did. -/
def loadBackUptoRow : OpenClaim := { program := "ytbpaimfnfigjpaa", sum := "3700813ac85d08a1618c004b0596232808d85b72304de04e4a4f74368f73cebb", func := "bascule/basculekeep.LoadBack", spec := "loadBack", unfollowed := true, recurses := true, apart := false, narrowed := true }
def LoadBackUptoSaid : Prop := loadBackUptoRow.holds Try.pinned (OpenSpec.upto loadBackSpec)

/-- 'basculekeep.LoadFixed', WHERE WHAT IT READS IS OF BULK AT MOST 1048576: true; the input reads as it did. -/
def loadFixedUptoRow : OpenClaim := { program := "ytbpaimfnfigjpaa", sum := "3700813ac85d08a1618c004b0596232808d85b72304de04e4a4f74368f73cebb", func := "bascule/basculekeep.LoadFixed", spec := "loadFixed", unfollowed := true, recurses := true, apart := false, narrowed := true }
def LoadFixedUptoSaid : Prop := loadFixedUptoRow.holds Try.pinned (OpenSpec.upto loadFixedSpec)

end Rows
end Go.Proofs.Ytbpaimfnfigjpaa
