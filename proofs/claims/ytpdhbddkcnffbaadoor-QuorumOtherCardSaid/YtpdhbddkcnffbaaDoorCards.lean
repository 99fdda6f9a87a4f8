/-
  DERIVED. GIVEN WITH THE SEED: THE CARDS: each row of YtpdhbddkcnffbaaDoorRows.lean that lists a variable, with what it lists TIED to the program's text (the seventh form; the later family's looks); each row that meets fmt, with fmt's text TOLD by the authors' own Lean function (tested against real Go, not proved from fmt's source: count such statements apart). THE CARD IS WHAT COUNTS. Prove the row's statement (the work); the ties are given (YtpdhbddkcnffbaaDoorTie.lean); close each card by the builder's one call (the guide's Derived/Test/ToyasCard.lean, 'card_holds'). Laid BY PROGRAM, IN A SANDBOX (cutbox-door.mjs). By AI agents, Wed Nov 11 2026. No macro, syntax, notation, axiom, sorry.
-/
import Derived.Test.YtpdhbddkcnffbaaDoorRows
import GoSem.ClaimSeven
namespace Go.Proofs.YtpdhbddkcnffbaaDoor
namespace Rows

/-- THE TIED CARD OF 'basculekeep.KeysKnown'. -/
def keysKnownCard : Claim7 := { stood := { row := keysKnownRow, standIns := [], harness := (true, "29af32c4023fc41b5f8275659b6b95ffe93a7825744bc9c4c95444fa2dc7017c"), looks := false }, kinds := [], alts := [], laidByText := true, laidKinds := [.data, .data], laidTests := true, laidLooks := .later }
def KeysKnownCardSaid : Prop := Claim7.holds Tryd.pinned (.plain (OpenSpec.ofChange keysKnownSpec)) keysKnownCard

/-- THE TIED CARD OF 'basculekeep.SignOther'. -/
def signOtherCard : Claim7 := { stood := { row := signOtherRow, standIns := [], harness := (true, "29af32c4023fc41b5f8275659b6b95ffe93a7825744bc9c4c95444fa2dc7017c"), looks := false }, kinds := [], alts := [], laidByText := true, laidKinds := [.data, .data], laidTests := true, laidLooks := .later }
def SignOtherCardSaid : Prop := Claim7.holds Tryd.pinned (.plain (OpenSpec.ofChange signOtherSpec)) signOtherCard

/-- THE TIED CARD OF 'basculekeep.SignRight'. -/
def signRightCard : Claim7 := { stood := { row := signRightRow, standIns := [], harness := (true, "29af32c4023fc41b5f8275659b6b95ffe93a7825744bc9c4c95444fa2dc7017c"), looks := false }, kinds := [], alts := [], laidByText := true, laidKinds := [.data, .data], laidTests := true, laidLooks := .later }
def SignRightCardSaid : Prop := Claim7.holds Tryd.pinned (.plain (OpenSpec.ofChange signRightSpec)) signRightCard

/-- THE TIED CARD OF 'basculekeep.SignOne'. -/
def signOneCard : Claim7 := { stood := { row := signOneRow, standIns := [], harness := (true, "29af32c4023fc41b5f8275659b6b95ffe93a7825744bc9c4c95444fa2dc7017c"), looks := false }, kinds := [], alts := [], laidByText := true, laidKinds := [.data, .data], laidTests := true, laidLooks := .later }
def SignOneCardSaid : Prop := Claim7.holds Tryd.pinned (.plain (OpenSpec.ofChange signOneSpec)) signOneCard

/-- THE TIED CARD OF 'basculekeep.QuorumRight'. -/
def quorumRightCard : Claim7 := { stood := { row := quorumRightRow, standIns := [], harness := (true, "29af32c4023fc41b5f8275659b6b95ffe93a7825744bc9c4c95444fa2dc7017c"), looks := false }, kinds := [], alts := [], laidByText := true, laidKinds := [.data, .data], laidTests := true, laidLooks := .later }
def QuorumRightCardSaid : Prop := Claim7.holds Tryd.pinned (.plain (OpenSpec.ofChange quorumRightSpec)) quorumRightCard

/-- THE TIED CARD OF 'basculekeep.QuorumOther'. -/
def quorumOtherCard : Claim7 := { stood := { row := quorumOtherRow, standIns := [], harness := (true, "29af32c4023fc41b5f8275659b6b95ffe93a7825744bc9c4c95444fa2dc7017c"), looks := false }, kinds := [], alts := [], laidByText := true, laidKinds := [.data, .data], laidTests := true, laidLooks := .later }
def QuorumOtherCardSaid : Prop := Claim7.holds Tryd.pinned (.plain (OpenSpec.ofChange quorumOtherSpec)) quorumOtherCard

/-- THE SECOND FORM's CARD OF 'basculekeep.KeysKnown'. -/
def keysKnownUptoCard : Claim7 := { stood := { row := keysKnownUptoRow, standIns := [], harness := (true, "29af32c4023fc41b5f8275659b6b95ffe93a7825744bc9c4c95444fa2dc7017c"), looks := false }, kinds := [], alts := [], laidByText := true, laidKinds := [.data, .data], laidTests := true, laidLooks := .later }
def KeysKnownUptoCardSaid : Prop := Claim7.holds Tryd.pinned (.plain (OpenSpec.upto keysKnownSpec)) keysKnownUptoCard

/-- THE SECOND FORM's CARD OF 'basculekeep.SignOther'. -/
def signOtherUptoCard : Claim7 := { stood := { row := signOtherUptoRow, standIns := [], harness := (true, "29af32c4023fc41b5f8275659b6b95ffe93a7825744bc9c4c95444fa2dc7017c"), looks := false }, kinds := [], alts := [], laidByText := true, laidKinds := [.data, .data], laidTests := true, laidLooks := .later }
def SignOtherUptoCardSaid : Prop := Claim7.holds Tryd.pinned (.plain (OpenSpec.upto signOtherSpec)) signOtherUptoCard

/-- THE SECOND FORM's CARD OF 'basculekeep.SignRight'. -/
def signRightUptoCard : Claim7 := { stood := { row := signRightUptoRow, standIns := [], harness := (true, "29af32c4023fc41b5f8275659b6b95ffe93a7825744bc9c4c95444fa2dc7017c"), looks := false }, kinds := [], alts := [], laidByText := true, laidKinds := [.data, .data], laidTests := true, laidLooks := .later }
def SignRightUptoCardSaid : Prop := Claim7.holds Tryd.pinned (.plain (OpenSpec.upto signRightSpec)) signRightUptoCard

/-- THE SECOND FORM's CARD OF 'basculekeep.SignOne'. -/
def signOneUptoCard : Claim7 := { stood := { row := signOneUptoRow, standIns := [], harness := (true, "29af32c4023fc41b5f8275659b6b95ffe93a7825744bc9c4c95444fa2dc7017c"), looks := false }, kinds := [], alts := [], laidByText := true, laidKinds := [.data, .data], laidTests := true, laidLooks := .later }
def SignOneUptoCardSaid : Prop := Claim7.holds Tryd.pinned (.plain (OpenSpec.upto signOneSpec)) signOneUptoCard

/-- THE SECOND FORM's CARD OF 'basculekeep.QuorumRight'. -/
def quorumRightUptoCard : Claim7 := { stood := { row := quorumRightUptoRow, standIns := [], harness := (true, "29af32c4023fc41b5f8275659b6b95ffe93a7825744bc9c4c95444fa2dc7017c"), looks := false }, kinds := [], alts := [], laidByText := true, laidKinds := [.data, .data], laidTests := true, laidLooks := .later }
def QuorumRightUptoCardSaid : Prop := Claim7.holds Tryd.pinned (.plain (OpenSpec.upto quorumRightSpec)) quorumRightUptoCard

/-- THE SECOND FORM's CARD OF 'basculekeep.QuorumOther'. -/
def quorumOtherUptoCard : Claim7 := { stood := { row := quorumOtherUptoRow, standIns := [], harness := (true, "29af32c4023fc41b5f8275659b6b95ffe93a7825744bc9c4c95444fa2dc7017c"), looks := false }, kinds := [], alts := [], laidByText := true, laidKinds := [.data, .data], laidTests := true, laidLooks := .later }
def QuorumOtherUptoCardSaid : Prop := Claim7.holds Tryd.pinned (.plain (OpenSpec.upto quorumOtherSpec)) quorumOtherUptoCard
end Rows
end Go.Proofs.YtpdhbddkcnffbaaDoor
