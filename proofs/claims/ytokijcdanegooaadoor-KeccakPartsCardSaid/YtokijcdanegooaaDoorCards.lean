/-
  DERIVED. GIVEN WITH THE SEED: THE CARDS: each row of YtokijcdanegooaaDoorRows.lean that lists a variable, with what it lists TIED to the program's text (the seventh form; the later family's looks); each row that meets fmt, with fmt's text TOLD by the authors' own Lean function (tested against real Go, not proved from fmt's source: count such statements apart). THE CARD IS WHAT COUNTS. Prove the row's statement (the work); the ties are given (YtokijcdanegooaaDoorTie.lean); close each card by the builder's one call (the guide's Derived/Test/ToyasCard.lean, 'card_holds'). Laid BY PROGRAM, IN A SANDBOX (cutbox-door.mjs). By AI agents, Wed Nov 11 2026. No macro, syntax, notation, axiom, sorry.
-/
import Derived.Test.YtokijcdanegooaaDoorRows
import GoSem.ClaimSeven
namespace Go.Proofs.YtokijcdanegooaaDoor
namespace Rows

/-- THE TIED CARD OF 'basculekeep.MarksAll'. -/
def marksAllCard : Claim7 := { stood := { row := marksAllRow, standIns := [], harness := (true, "7cf815d76b0d3a97adafd62661efd760fe23b03e03c35bf17f44aca8dcd2f889"), looks := false }, kinds := [], alts := [], laidByText := true, laidKinds := [.data], laidTests := true, laidLooks := .later }
def MarksAllCardSaid : Prop := Claim7.holds Tryd.pinned (.plain (OpenSpec.ofChange marksAllSpec)) marksAllCard

/-- THE TIED CARD OF 'basculekeep.TurnApart'. -/
def turnApartCard : Claim7 := { stood := { row := turnApartRow, standIns := [], harness := (true, "7cf815d76b0d3a97adafd62661efd760fe23b03e03c35bf17f44aca8dcd2f889"), looks := false }, kinds := [], alts := [], laidByText := true, laidKinds := [.data, .data], laidTests := true, laidLooks := .later }
def TurnApartCardSaid : Prop := Claim7.holds Tryd.pinned (.plain (OpenSpec.ofChange turnApartSpec)) turnApartCard

/-- THE TIED CARD OF 'basculekeep.KeccakParts'. -/
def keccakPartsCard : Claim7 := { stood := { row := keccakPartsRow, standIns := [], harness := (true, "7cf815d76b0d3a97adafd62661efd760fe23b03e03c35bf17f44aca8dcd2f889"), looks := false }, kinds := [], alts := [], laidByText := true, laidKinds := [.data, .data], laidTests := true, laidLooks := .later }
def KeccakPartsCardSaid : Prop := Claim7.holds Tryd.pinned (.plain (OpenSpec.ofChange keccakPartsSpec)) keccakPartsCard

/-- THE TIED CARD OF 'basculekeep.KeccakKnown'. -/
def keccakKnownCard : Claim7 := { stood := { row := keccakKnownRow, standIns := [], harness := (true, "7cf815d76b0d3a97adafd62661efd760fe23b03e03c35bf17f44aca8dcd2f889"), looks := false }, kinds := [], alts := [], laidByText := true, laidKinds := [.data, .data], laidTests := true, laidLooks := .later }
def KeccakKnownCardSaid : Prop := Claim7.holds Tryd.pinned (.plain (OpenSpec.ofChange keccakKnownSpec)) keccakKnownCard

/-- THE SECOND FORM's CARD OF 'basculekeep.MarksAll'. -/
def marksAllUptoCard : Claim7 := { stood := { row := marksAllUptoRow, standIns := [], harness := (true, "7cf815d76b0d3a97adafd62661efd760fe23b03e03c35bf17f44aca8dcd2f889"), looks := false }, kinds := [], alts := [], laidByText := true, laidKinds := [.data], laidTests := true, laidLooks := .later }
def MarksAllUptoCardSaid : Prop := Claim7.holds Tryd.pinned (.plain (OpenSpec.upto marksAllSpec)) marksAllUptoCard

/-- THE SECOND FORM's CARD OF 'basculekeep.TurnApart'. -/
def turnApartUptoCard : Claim7 := { stood := { row := turnApartUptoRow, standIns := [], harness := (true, "7cf815d76b0d3a97adafd62661efd760fe23b03e03c35bf17f44aca8dcd2f889"), looks := false }, kinds := [], alts := [], laidByText := true, laidKinds := [.data, .data], laidTests := true, laidLooks := .later }
def TurnApartUptoCardSaid : Prop := Claim7.holds Tryd.pinned (.plain (OpenSpec.upto turnApartSpec)) turnApartUptoCard

/-- THE SECOND FORM's CARD OF 'basculekeep.KeccakParts'. -/
def keccakPartsUptoCard : Claim7 := { stood := { row := keccakPartsUptoRow, standIns := [], harness := (true, "7cf815d76b0d3a97adafd62661efd760fe23b03e03c35bf17f44aca8dcd2f889"), looks := false }, kinds := [], alts := [], laidByText := true, laidKinds := [.data, .data], laidTests := true, laidLooks := .later }
def KeccakPartsUptoCardSaid : Prop := Claim7.holds Tryd.pinned (.plain (OpenSpec.upto keccakPartsSpec)) keccakPartsUptoCard

/-- THE SECOND FORM's CARD OF 'basculekeep.KeccakKnown'. -/
def keccakKnownUptoCard : Claim7 := { stood := { row := keccakKnownUptoRow, standIns := [], harness := (true, "7cf815d76b0d3a97adafd62661efd760fe23b03e03c35bf17f44aca8dcd2f889"), looks := false }, kinds := [], alts := [], laidByText := true, laidKinds := [.data, .data], laidTests := true, laidLooks := .later }
def KeccakKnownUptoCardSaid : Prop := Claim7.holds Tryd.pinned (.plain (OpenSpec.upto keccakKnownSpec)) keccakKnownUptoCard
end Rows
end Go.Proofs.YtokijcdanegooaaDoor
