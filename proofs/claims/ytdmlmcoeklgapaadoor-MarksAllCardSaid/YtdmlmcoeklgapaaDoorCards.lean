/-
  DERIVED. GIVEN WITH THE SEED: THE CARDS: each row of YtdmlmcoeklgapaaDoorRows.lean that lists a variable, with what it lists TIED to the program's text (the seventh form; the later family's looks); each row that meets fmt, with fmt's text TOLD by the authors' own Lean function (tested against real Go, not proved from fmt's source: count such statements apart). THE CARD IS WHAT COUNTS. Prove the row's statement (the work); the ties are given (YtdmlmcoeklgapaaDoorTie.lean); close each card by the builder's one call (the guide's Derived/Test/ToyasCard.lean, 'card_holds'). Laid BY PROGRAM, IN A SANDBOX (cutbox-door.mjs). By AI agents, Wed Nov 11 2026. No macro, syntax, notation, axiom, sorry.
-/
import Derived.Test.YtdmlmcoeklgapaaDoorRows
import GoSem.ClaimSeven
namespace Go.Proofs.YtdmlmcoeklgapaaDoor
namespace Rows

/-- THE TIED CARD OF 'basculekeep.MarksAll'. -/
def marksAllCard : Claim7 := { stood := { row := marksAllRow, standIns := [], harness := (true, "5dc49f66f86e29954884f1cdea39be5fae29ca13cd8d30871fd168a7d1655afd"), looks := false }, kinds := [], alts := [], laidByText := true, laidKinds := [.data], laidTests := true, laidLooks := .later }
def MarksAllCardSaid : Prop := Claim7.holds Tryd.pinned (.plain (OpenSpec.ofChange marksAllSpec)) marksAllCard

/-- THE SECOND FORM's CARD OF 'basculekeep.MarksAll'. -/
def marksAllUptoCard : Claim7 := { stood := { row := marksAllUptoRow, standIns := [], harness := (true, "5dc49f66f86e29954884f1cdea39be5fae29ca13cd8d30871fd168a7d1655afd"), looks := false }, kinds := [], alts := [], laidByText := true, laidKinds := [.data], laidTests := true, laidLooks := .later }
def MarksAllUptoCardSaid : Prop := Claim7.holds Tryd.pinned (.plain (OpenSpec.upto marksAllSpec)) marksAllUptoCard
end Rows
end Go.Proofs.YtdmlmcoeklgapaaDoor
