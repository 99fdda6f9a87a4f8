/-
  DERIVED. GIVEN WITH THE SEED: THE CARDS: each row of YtbpaimfnfigjpaaDoorRows.lean that lists a variable, with what it lists TIED to the program's text (the seventh form; the later family's looks); each row that meets fmt, with fmt's text TOLD by the authors' own Lean function (tested against real Go, not proved from fmt's source: count such statements apart). THE CARD IS WHAT COUNTS. Prove the row's statement (the work); the ties are given (YtbpaimfnfigjpaaDoorTie.lean); close each card by the builder's one call (the guide's Derived/Test/ToyasCard.lean, 'card_holds'). Laid BY PROGRAM, IN A SANDBOX (cutbox-door.mjs). By AI agents, Wed Nov 11 2026. No macro, syntax, notation, axiom, sorry.
-/
import Derived.Test.YtbpaimfnfigjpaaDoorRows
import GoSem.ClaimSeven
namespace Go.Proofs.YtbpaimfnfigjpaaDoor
namespace Rows

/-- THE TIED CARD OF 'basculekeep.PaperSum'. -/
def paperSumCard : Claim7 := { stood := { row := paperSumRow, standIns := [], harness := (true, "3eb50e981b613cfd346e30845c9af35d9be70386fffed596637c1183941c3494"), looks := false }, kinds := [], alts := [], laidByText := true, laidKinds := [.data, .data], laidTests := true, laidLooks := .later }
def PaperSumCardSaid : Prop := Claim7.holds Tryd.pinned (.plain (OpenSpec.ofChange paperSumSpec)) paperSumCard

/-- THE SECOND FORM's CARD OF 'basculekeep.PaperSum'. -/
def paperSumUptoCard : Claim7 := { stood := { row := paperSumUptoRow, standIns := [], harness := (true, "3eb50e981b613cfd346e30845c9af35d9be70386fffed596637c1183941c3494"), looks := false }, kinds := [], alts := [], laidByText := true, laidKinds := [.data, .data], laidTests := true, laidLooks := .later }
def PaperSumUptoCardSaid : Prop := Claim7.holds Tryd.pinned (.plain (OpenSpec.upto paperSumSpec)) paperSumUptoCard
end Rows
end Go.Proofs.YtbpaimfnfigjpaaDoor
