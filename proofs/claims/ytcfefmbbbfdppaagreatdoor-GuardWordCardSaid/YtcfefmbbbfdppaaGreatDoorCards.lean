/-
  DERIVED. GIVEN WITH THE SEED: THE CARDS: each row of YtcfefmbbbfdppaaGreatDoorRows.lean that lists a variable, with what it lists TIED to the program's text (the seventh form; the later family's looks); each row that meets fmt, with fmt's text TOLD by the authors' own Lean function (tested against real Go, not proved from fmt's source: count such statements apart). THE CARD IS WHAT COUNTS. Prove the row's statement (the work); the ties are given (YtcfefmbbbfdppaaGreatDoorTie.lean); close each card by the builder's one call (the guide's Derived/Test/ToyasCard.lean, 'card_holds'). Laid BY PROGRAM, IN A SANDBOX (cutbox-door.mjs). By AI agents, Wed Nov 11 2026. No macro, syntax, notation, axiom, sorry.
-/
import Derived.Test.YtcfefmbbbfdppaaGreatDoorRows
import GoSem.ClaimSeven
namespace Go.Proofs.YtcfefmbbbfdppaaGreatDoor
namespace Rows

/-- THE TIED CARD OF 'basculekeep.GuardWord'. -/
def guardWordCard : Claim7 := { stood := { row := guardWordRow, standIns := [], harness := (true, "3e3152934091b0b43b769df36f352be6d3d37607ff9ef1d459650ea21a6afdd2"), looks := false }, kinds := [], alts := [], laidByText := true, laidKinds := [.data, .data], laidTests := true, laidLooks := .later }
def GuardWordCardSaid : Prop := Claim7.holds Tryz.pinned (.plain (OpenSpec.ofChange guardWordSpec)) guardWordCard

/-- THE SECOND FORM's CARD OF 'basculekeep.GuardWord'. -/
def guardWordUptoCard : Claim7 := { stood := { row := guardWordUptoRow, standIns := [], harness := (true, "3e3152934091b0b43b769df36f352be6d3d37607ff9ef1d459650ea21a6afdd2"), looks := false }, kinds := [], alts := [], laidByText := true, laidKinds := [.data, .data], laidTests := true, laidLooks := .later }
def GuardWordUptoCardSaid : Prop := Claim7.holds Tryz.pinned (.plain (OpenSpec.upto guardWordSpec)) guardWordUptoCard
end Rows
end Go.Proofs.YtcfefmbbbfdppaaGreatDoor
