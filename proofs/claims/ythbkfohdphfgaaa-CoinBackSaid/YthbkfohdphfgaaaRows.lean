/-
  No cell of these rows narrows 'for every input' (looked for: loops, veiled, ifaces, maps, wideKeys, modest, calm, conditions, laid).
  DERIVED. THE GIVEN ROWS OF THIS SEAT. 3 by the template 'for every input the law returns true; each argument reads behind the call as it read before'; 0 by the template 'total and deterministic' (their statements: YthbkfohdphfgaaaTotals.lean).
  GIVEN WITH THE SEED: the statements are not yours to turn. If you find one false, say at which input.
  Laid BY PROGRAM, IN A SANDBOX (cutbox-rows.mjs): the forced cells as the released guide's own fill.sh prints them over the translation 3e00dcc2225e036f… (all of the seat's roots in one cut). By AI agents, Wed Nov 11 2026. No macro, syntax, notation, axiom, sorry.
-/
import Derived.Test.YthbkfohdphfgaaaChecked
import GoSem.Claim
import GoSem.ClaimJoined
import GoSem.ClaimMapViews
import Derived.JoinedTies
import Derived.KernelRfl
namespace Go.Proofs.Ythbkfohdphfgaaa
/- THE CELL 'sum', in the pinned program and in every row, IS THE sha256 OF THE DUMP (.gsa) THAT YthbkfohdphfgaaaProg.lean LOADS. Nothing in Lean hashes anything: it is a label: what it is worth is what the hold of that sum in a sandbox is worth. -/
noncomputable def Try.pinned : Pinned := { name := "ythbkfohdphfgaaa", sum := "3e00dcc2225e036f9b0a4f3581beaf80a0b83f331f06fae2f81d2531b16ca779", checked := Try.checked }
namespace Rows
def none {H : Type} : Left H := { results := [], args := [] }

/-- 'basculekeep.CoinSum': WHATEVER THE INPUT: true; the input reads as it did. -/
def coinSumSpec : ChangeSpec := { name := "coinSum", fn := fun _ => fun
  | [d] => { results := [.lit (.bool true)], args := [d] }
  | _ => none }
def coinSumRow : OpenClaim := { program := "ythbkfohdphfgaaa", sum := "3e00dcc2225e036f9b0a4f3581beaf80a0b83f331f06fae2f81d2531b16ca779", func := "bascule/basculekeep.CoinSum", spec := "coinSum", inPlace := ["internal/bytealg.Compare", "math/bits.Add64", "math/bits.Sub64"], apart := false }
def CoinSumSaid : Prop := coinSumRow.holds Try.pinned (OpenSpec.ofChange coinSumSpec)

/-- ITS FALSE NEIGHBOUR: 'it returns false'. Refute it at one input. -/
def coinSumWrong : ChangeSpec := { name := "coinSum", fn := fun _ => fun
  | [d] => { results := [.lit (.bool false)], args := [d] }
  | _ => none }
def CoinSumWrongFalsely : Prop := coinSumRow.holds Try.pinned (OpenSpec.ofChange coinSumWrong)

/-- 'basculekeep.CoinBack': WHATEVER THE INPUT: true; the input reads as it did. -/
def coinBackSpec : ChangeSpec := { name := "coinBack", fn := fun _ => fun
  | [d1, d2, d3] => { results := [.lit (.bool true)], args := [d1, d2, d3] }
  | _ => none }
def coinBackRow : OpenClaim := { program := "ythbkfohdphfgaaa", sum := "3e00dcc2225e036f9b0a4f3581beaf80a0b83f331f06fae2f81d2531b16ca779", func := "bascule/basculekeep.CoinBack", spec := "coinBack", inPlace := ["internal/bytealg.Compare", "math/bits.Add64", "math/bits.Sub64"], apart := false }
def CoinBackSaid : Prop := coinBackRow.holds Try.pinned (OpenSpec.ofChange coinBackSpec)

/-- ITS FALSE NEIGHBOUR: 'it returns false'. Refute it at one input. -/
def coinBackWrong : ChangeSpec := { name := "coinBack", fn := fun _ => fun
  | [d1, d2, d3] => { results := [.lit (.bool false)], args := [d1, d2, d3] }
  | _ => none }
def CoinBackWrongFalsely : Prop := coinBackRow.holds Try.pinned (OpenSpec.ofChange coinBackWrong)

/-- 'basculekeep.CoinGives': WHATEVER THE INPUT: true; the input reads as it did. -/
def coinGivesSpec : ChangeSpec := { name := "coinGives", fn := fun _ => fun
  | [d1, d2, d3, d4, d5] => { results := [.lit (.bool true)], args := [d1, d2, d3, d4, d5] }
  | _ => none }
def coinGivesRow : OpenClaim := { program := "ythbkfohdphfgaaa", sum := "3e00dcc2225e036f9b0a4f3581beaf80a0b83f331f06fae2f81d2531b16ca779", func := "bascule/basculekeep.CoinGives", spec := "coinGives", inPlace := ["internal/bytealg.Compare", "math/bits.Add64", "math/bits.Sub64"], apart := false }
def CoinGivesSaid : Prop := coinGivesRow.holds Try.pinned (OpenSpec.ofChange coinGivesSpec)

/-- ITS FALSE NEIGHBOUR: 'it returns false'. Refute it at one input. -/
def coinGivesWrong : ChangeSpec := { name := "coinGives", fn := fun _ => fun
  | [d1, d2, d3, d4, d5] => { results := [.lit (.bool false)], args := [d1, d2, d3, d4, d5] }
  | _ => none }
def CoinGivesWrongFalsely : Prop := coinGivesRow.holds Try.pinned (OpenSpec.ofChange coinGivesWrong)

/- THE SECOND FORM. 'bulk': how many values and letters a reading holds, each counted each time it is reached (what is shared counts as often as it is met; a slice's spare places count too). A statement '..UptoSaid' is the law's where the arguments, and the package variables that the reading takes, are together of bulk at most 1048576: NARROWER than '..Said'. Prove '..Said' where nothing that the law and all that it calls make is longer than what came in: it says more and counts as full. Else prove '..UptoSaid'. A law counts once. -/
mutual
def uptoBulk {H : Type} : DataW H → Nat
  | .lit (.string bytes) => bytes.length + 1
  | .lit _ => 1
  | .nil => 1
  | .ptr d => uptoBulk d + 1
  | .slice elems spare => uptoBulkAll elems + uptoBulkAll spare + 1
  | .agg parts => uptoBulkAll parts + 1
  | .iface _ d => uptoBulk d + 1
  | .map entries => uptoBulkEntries entries + 1
  | .held _ => 1
def uptoBulkAll {H : Type} : List (DataW H) → Nat
  | [] => 0
  | d :: r => uptoBulk d + uptoBulkAll r
def uptoBulkEntries {H : Type} : List (Lit × DataW H) → Nat
  | [] => 0
  | x :: r => uptoBulkEntry x + uptoBulkEntries r
def uptoBulkEntry {H : Type} : Lit × DataW H → Nat
  | (.string bytes, d) => bytes.length + uptoBulk d + 1
  | (_, d) => uptoBulk d + 1
 end
def uptoSmall : (H : Type) → List (DataW H) → Bool := fun _ ds => decide (uptoBulkAll ds ≤ 1048576)
def OpenSpec.upto (s : _root_.Go.ChangeSpec) : _root_.Go.OpenSpec := { _root_.Go.OpenSpec.ofChange s with cond := some uptoSmall }

/-- 'basculekeep.CoinSum', WHERE WHAT IT READS IS OF BULK AT MOST 1048576: true; the input reads as it did. -/
def coinSumUptoRow : OpenClaim := { program := "ythbkfohdphfgaaa", sum := "3e00dcc2225e036f9b0a4f3581beaf80a0b83f331f06fae2f81d2531b16ca779", func := "bascule/basculekeep.CoinSum", spec := "coinSum", inPlace := ["internal/bytealg.Compare", "math/bits.Add64", "math/bits.Sub64"], apart := false, narrowed := true }
def CoinSumUptoSaid : Prop := coinSumUptoRow.holds Try.pinned (OpenSpec.upto coinSumSpec)

/-- 'basculekeep.CoinBack', WHERE WHAT IT READS IS OF BULK AT MOST 1048576: true; the input reads as it did. -/
def coinBackUptoRow : OpenClaim := { program := "ythbkfohdphfgaaa", sum := "3e00dcc2225e036f9b0a4f3581beaf80a0b83f331f06fae2f81d2531b16ca779", func := "bascule/basculekeep.CoinBack", spec := "coinBack", inPlace := ["internal/bytealg.Compare", "math/bits.Add64", "math/bits.Sub64"], apart := false, narrowed := true }
def CoinBackUptoSaid : Prop := coinBackUptoRow.holds Try.pinned (OpenSpec.upto coinBackSpec)

/-- 'basculekeep.CoinGives', WHERE WHAT IT READS IS OF BULK AT MOST 1048576: true; the input reads as it did. -/
def coinGivesUptoRow : OpenClaim := { program := "ythbkfohdphfgaaa", sum := "3e00dcc2225e036f9b0a4f3581beaf80a0b83f331f06fae2f81d2531b16ca779", func := "bascule/basculekeep.CoinGives", spec := "coinGives", inPlace := ["internal/bytealg.Compare", "math/bits.Add64", "math/bits.Sub64"], apart := false, narrowed := true }
def CoinGivesUptoSaid : Prop := coinGivesUptoRow.holds Try.pinned (OpenSpec.upto coinGivesSpec)

end Rows
end Go.Proofs.Ythbkfohdphfgaaa
