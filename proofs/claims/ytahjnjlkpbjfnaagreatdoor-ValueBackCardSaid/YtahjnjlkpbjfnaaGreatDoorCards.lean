/-
  DERIVED. GIVEN WITH THE SEED: THE CARDS: each row of YtahjnjlkpbjfnaaGreatDoorRows.lean that lists a variable, with what it lists TIED to the program's text (the seventh form; the later family's looks); each row that meets fmt, with fmt's text TOLD by the authors' own Lean function (tested against real Go, not proved from fmt's source: count such statements apart). THE CARD IS WHAT COUNTS. Prove the row's statement (the work); the ties are given (YtahjnjlkpbjfnaaGreatDoorTie.lean); close each card by the builder's one call (the guide's Derived/Test/ToyasCard.lean, 'card_holds'). Laid BY PROGRAM, IN A SANDBOX (cutbox-door.mjs). By AI agents, Wed Nov 11 2026. No macro, syntax, notation, axiom, sorry.
-/
import Derived.Test.YtahjnjlkpbjfnaaGreatDoorRows
import GoSem.ClaimSeven
namespace Go.Proofs.YtahjnjlkpbjfnaaGreatDoor
namespace Rows

/-- THE TIED CARD OF 'belvederelaw10.ValueUnits'. -/
def valueUnitsCard : Claim7 := { stood := { row := valueUnitsRow, standIns := [], harness := (true, "634a8f6676da53e0c8ce219e0927e363d3e98874cf4bfe1a32f338ee2efeb33c"), looks := true }, kinds := [], alts := [], laidByText := true, laidKinds := [.data, .data, .data, .data, .handle, .sentinel, .sentinel, .pinned], laidTests := true, laidLooks := .later }
def ValueUnitsCardSaid : Prop := Claim7.holds Tryz.pinned (.plain (OpenSpec.ofChange valueUnitsSpec)) valueUnitsCard

/-- THE TIED CARD OF 'belvederelaw10.ValueInts'. -/
def valueIntsCard : Claim7 := { stood := { row := valueIntsRow, standIns := [], harness := (true, "634a8f6676da53e0c8ce219e0927e363d3e98874cf4bfe1a32f338ee2efeb33c"), looks := true }, kinds := [], alts := [], laidByText := true, laidKinds := [.data, .data, .data, .data, .handle, .sentinel, .sentinel, .pinned], laidTests := true, laidLooks := .later }
def ValueIntsCardSaid : Prop := Claim7.holds Tryz.pinned (.plain (OpenSpec.ofChange valueIntsSpec)) valueIntsCard

/-- THE TIED CARD OF 'belvederelaw10.ValueOptions'. -/
def valueOptionsCard : Claim7 := { stood := { row := valueOptionsRow, standIns := [], harness := (true, "634a8f6676da53e0c8ce219e0927e363d3e98874cf4bfe1a32f338ee2efeb33c"), looks := true }, kinds := [], alts := [], laidByText := true, laidKinds := [.data, .data, .data, .data, .handle, .sentinel, .sentinel, .pinned], laidTests := true, laidLooks := .later }
def ValueOptionsCardSaid : Prop := Claim7.holds Tryz.pinned (.plain (OpenSpec.ofChange valueOptionsSpec)) valueOptionsCard

/-- THE TIED CARD OF 'belvederelaw10.ValueLists'. -/
def valueListsCard : Claim7 := { stood := { row := valueListsRow, standIns := [], harness := (true, "634a8f6676da53e0c8ce219e0927e363d3e98874cf4bfe1a32f338ee2efeb33c"), looks := true }, kinds := [], alts := [], laidByText := true, laidKinds := [.data, .data, .data, .data, .handle, .sentinel, .sentinel, .pinned], laidTests := true, laidLooks := .later }
def ValueListsCardSaid : Prop := Claim7.holds Tryz.pinned (.plain (OpenSpec.ofChange valueListsSpec)) valueListsCard

/-- THE TIED CARD OF 'belvederelaw10.ValueBack'. -/
def valueBackCard : Claim7 := { stood := { row := valueBackRow, standIns := [], harness := (true, "634a8f6676da53e0c8ce219e0927e363d3e98874cf4bfe1a32f338ee2efeb33c"), looks := true }, kinds := [], alts := [], laidByText := true, laidKinds := [.data, .data, .data, .data, .handle, .sentinel, .sentinel, .pinned], laidTests := true, laidLooks := .later }
def ValueBackCardSaid : Prop := Claim7.holds Tryz.pinned (.plain (OpenSpec.ofChange valueBackSpec)) valueBackCard

/-- THE SECOND FORM's CARD OF 'belvederelaw10.ValueUnits'. -/
def valueUnitsUptoCard : Claim7 := { stood := { row := valueUnitsUptoRow, standIns := [], harness := (true, "634a8f6676da53e0c8ce219e0927e363d3e98874cf4bfe1a32f338ee2efeb33c"), looks := true }, kinds := [], alts := [], laidByText := true, laidKinds := [.data, .data, .data, .data, .handle, .sentinel, .sentinel, .pinned], laidTests := true, laidLooks := .later }
def ValueUnitsUptoCardSaid : Prop := Claim7.holds Tryz.pinned (.plain (OpenSpec.upto valueUnitsSpec)) valueUnitsUptoCard

/-- THE SECOND FORM's CARD OF 'belvederelaw10.ValueInts'. -/
def valueIntsUptoCard : Claim7 := { stood := { row := valueIntsUptoRow, standIns := [], harness := (true, "634a8f6676da53e0c8ce219e0927e363d3e98874cf4bfe1a32f338ee2efeb33c"), looks := true }, kinds := [], alts := [], laidByText := true, laidKinds := [.data, .data, .data, .data, .handle, .sentinel, .sentinel, .pinned], laidTests := true, laidLooks := .later }
def ValueIntsUptoCardSaid : Prop := Claim7.holds Tryz.pinned (.plain (OpenSpec.upto valueIntsSpec)) valueIntsUptoCard

/-- THE SECOND FORM's CARD OF 'belvederelaw10.ValueOptions'. -/
def valueOptionsUptoCard : Claim7 := { stood := { row := valueOptionsUptoRow, standIns := [], harness := (true, "634a8f6676da53e0c8ce219e0927e363d3e98874cf4bfe1a32f338ee2efeb33c"), looks := true }, kinds := [], alts := [], laidByText := true, laidKinds := [.data, .data, .data, .data, .handle, .sentinel, .sentinel, .pinned], laidTests := true, laidLooks := .later }
def ValueOptionsUptoCardSaid : Prop := Claim7.holds Tryz.pinned (.plain (OpenSpec.upto valueOptionsSpec)) valueOptionsUptoCard

/-- THE SECOND FORM's CARD OF 'belvederelaw10.ValueLists'. -/
def valueListsUptoCard : Claim7 := { stood := { row := valueListsUptoRow, standIns := [], harness := (true, "634a8f6676da53e0c8ce219e0927e363d3e98874cf4bfe1a32f338ee2efeb33c"), looks := true }, kinds := [], alts := [], laidByText := true, laidKinds := [.data, .data, .data, .data, .handle, .sentinel, .sentinel, .pinned], laidTests := true, laidLooks := .later }
def ValueListsUptoCardSaid : Prop := Claim7.holds Tryz.pinned (.plain (OpenSpec.upto valueListsSpec)) valueListsUptoCard

/-- THE SECOND FORM's CARD OF 'belvederelaw10.ValueBack'. -/
def valueBackUptoCard : Claim7 := { stood := { row := valueBackUptoRow, standIns := [], harness := (true, "634a8f6676da53e0c8ce219e0927e363d3e98874cf4bfe1a32f338ee2efeb33c"), looks := true }, kinds := [], alts := [], laidByText := true, laidKinds := [.data, .data, .data, .data, .handle, .sentinel, .sentinel, .pinned], laidTests := true, laidLooks := .later }
def ValueBackUptoCardSaid : Prop := Claim7.holds Tryz.pinned (.plain (OpenSpec.upto valueBackSpec)) valueBackUptoCard
end Rows
end Go.Proofs.YtahjnjlkpbjfnaaGreatDoor
