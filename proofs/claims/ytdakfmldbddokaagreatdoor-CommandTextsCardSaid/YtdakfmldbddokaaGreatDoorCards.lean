/-
  DERIVED. GIVEN WITH THE SEED: THE CARDS: each row of YtdakfmldbddokaaGreatDoorRows.lean that lists a variable, with what it lists TIED to the program's text (the seventh form; the later family's looks); each row that meets fmt, with fmt's text TOLD by the authors' own Lean function (tested against real Go, not proved from fmt's source: count such statements apart). THE CARD IS WHAT COUNTS. Prove the row's statement (the work); the ties are given (YtdakfmldbddokaaGreatDoorTie.lean); close each card by the builder's one call (the guide's Derived/Test/ToyasCard.lean, 'card_holds'). Laid BY PROGRAM, IN A SANDBOX (cutbox-door.mjs). By AI agents, Wed Nov 11 2026. No macro, syntax, notation, axiom, sorry.
-/
import Derived.Test.YtdakfmldbddokaaGreatDoorRows
import GoSem.ClaimSeven
namespace Go.Proofs.YtdakfmldbddokaaGreatDoor
namespace Rows

/-- THE TIED CARD OF 'belvederelaw20.CommandBack'. -/
def commandBackCard : Claim7 := { stood := { row := commandBackRow, standIns := [], harness := (true, "01e604099a69db0153f224963c799efe0b6298f940a005378ab4fd663345f1b1"), looks := true }, kinds := [], alts := [], laidByText := true, laidKinds := [.data, .data, .data, .data, .sentinel, .sentinel, .data, .pinned], laidTests := true, laidLooks := .later }
def CommandBackCardSaid : Prop := Claim7.holds Tryz.pinned (.plain (OpenSpec.ofChange commandBackSpec)) commandBackCard

/-- THE TIED CARD OF 'belvederelaw20.CommandParses'. -/
def commandParsesCard : Claim7 := { stood := { row := commandParsesRow, standIns := [], harness := (true, "01e604099a69db0153f224963c799efe0b6298f940a005378ab4fd663345f1b1"), looks := true }, kinds := [], alts := [], laidByText := true, laidKinds := [.data, .data, .data, .data, .handle, .sentinel, .sentinel, .data, .pinned], laidTests := true, laidLooks := .later }
def CommandParsesCardSaid : Prop := Claim7.holds Tryz.pinned (.plain (OpenSpec.ofChange commandParsesSpec)) commandParsesCard

/-- THE TIED CARD OF 'belvederelaw20.CommandRests'. -/
def commandRestsCard : Claim7 := { stood := { row := commandRestsRow, standIns := [], harness := (true, "01e604099a69db0153f224963c799efe0b6298f940a005378ab4fd663345f1b1"), looks := true }, kinds := [], alts := [], laidByText := true, laidKinds := [.data, .data, .data, .data, .handle, .sentinel, .sentinel, .data, .pinned], laidTests := true, laidLooks := .later }
def CommandRestsCardSaid : Prop := Claim7.holds Tryz.pinned (.plain (OpenSpec.ofChange commandRestsSpec)) commandRestsCard

/-- THE TIED CARD OF 'belvederelaw20.CommandTexts'. -/
def commandTextsCard : Claim7 := { stood := { row := commandTextsRow, standIns := [], harness := (true, "01e604099a69db0153f224963c799efe0b6298f940a005378ab4fd663345f1b1"), looks := true }, kinds := [], alts := [], laidByText := true, laidKinds := [.data, .data, .data, .data, .handle, .sentinel, .sentinel, .data, .pinned], laidTests := true, laidLooks := .later }
def CommandTextsCardSaid : Prop := Claim7.holds Tryz.pinned (.plain (OpenSpec.ofChange commandTextsSpec)) commandTextsCard

/-- THE TIED CARD OF 'belvederelaw20.CommandShort'. -/
def commandShortCard : Claim7 := { stood := { row := commandShortRow, standIns := [], harness := (true, "01e604099a69db0153f224963c799efe0b6298f940a005378ab4fd663345f1b1"), looks := true }, kinds := [], alts := [], laidByText := true, laidKinds := [.data, .data, .data, .data, .handle, .sentinel, .sentinel, .data, .pinned], laidTests := true, laidLooks := .later }
def CommandShortCardSaid : Prop := Claim7.holds Tryz.pinned (.plain (OpenSpec.ofChange commandShortSpec)) commandShortCard

/-- THE SECOND FORM's CARD OF 'belvederelaw20.CommandBack'. -/
def commandBackUptoCard : Claim7 := { stood := { row := commandBackUptoRow, standIns := [], harness := (true, "01e604099a69db0153f224963c799efe0b6298f940a005378ab4fd663345f1b1"), looks := true }, kinds := [], alts := [], laidByText := true, laidKinds := [.data, .data, .data, .data, .sentinel, .sentinel, .data, .pinned], laidTests := true, laidLooks := .later }
def CommandBackUptoCardSaid : Prop := Claim7.holds Tryz.pinned (.plain (OpenSpec.upto commandBackSpec)) commandBackUptoCard

/-- THE SECOND FORM's CARD OF 'belvederelaw20.CommandParses'. -/
def commandParsesUptoCard : Claim7 := { stood := { row := commandParsesUptoRow, standIns := [], harness := (true, "01e604099a69db0153f224963c799efe0b6298f940a005378ab4fd663345f1b1"), looks := true }, kinds := [], alts := [], laidByText := true, laidKinds := [.data, .data, .data, .data, .handle, .sentinel, .sentinel, .data, .pinned], laidTests := true, laidLooks := .later }
def CommandParsesUptoCardSaid : Prop := Claim7.holds Tryz.pinned (.plain (OpenSpec.upto commandParsesSpec)) commandParsesUptoCard

/-- THE SECOND FORM's CARD OF 'belvederelaw20.CommandRests'. -/
def commandRestsUptoCard : Claim7 := { stood := { row := commandRestsUptoRow, standIns := [], harness := (true, "01e604099a69db0153f224963c799efe0b6298f940a005378ab4fd663345f1b1"), looks := true }, kinds := [], alts := [], laidByText := true, laidKinds := [.data, .data, .data, .data, .handle, .sentinel, .sentinel, .data, .pinned], laidTests := true, laidLooks := .later }
def CommandRestsUptoCardSaid : Prop := Claim7.holds Tryz.pinned (.plain (OpenSpec.upto commandRestsSpec)) commandRestsUptoCard

/-- THE SECOND FORM's CARD OF 'belvederelaw20.CommandTexts'. -/
def commandTextsUptoCard : Claim7 := { stood := { row := commandTextsUptoRow, standIns := [], harness := (true, "01e604099a69db0153f224963c799efe0b6298f940a005378ab4fd663345f1b1"), looks := true }, kinds := [], alts := [], laidByText := true, laidKinds := [.data, .data, .data, .data, .handle, .sentinel, .sentinel, .data, .pinned], laidTests := true, laidLooks := .later }
def CommandTextsUptoCardSaid : Prop := Claim7.holds Tryz.pinned (.plain (OpenSpec.upto commandTextsSpec)) commandTextsUptoCard

/-- THE SECOND FORM's CARD OF 'belvederelaw20.CommandShort'. -/
def commandShortUptoCard : Claim7 := { stood := { row := commandShortUptoRow, standIns := [], harness := (true, "01e604099a69db0153f224963c799efe0b6298f940a005378ab4fd663345f1b1"), looks := true }, kinds := [], alts := [], laidByText := true, laidKinds := [.data, .data, .data, .data, .handle, .sentinel, .sentinel, .data, .pinned], laidTests := true, laidLooks := .later }
def CommandShortUptoCardSaid : Prop := Claim7.holds Tryz.pinned (.plain (OpenSpec.upto commandShortSpec)) commandShortUptoCard
end Rows
end Go.Proofs.YtdakfmldbddokaaGreatDoor
