/-
  DERIVED. GIVEN WITH THE SEED: THE CARDS: each row of YtegiikkbeknodaaDoorRows.lean that lists a variable, with what it lists TIED to the program's text (the seventh form; the later family's looks); each row that meets fmt, with fmt's text TOLD by the authors' own Lean function (tested against real Go, not proved from fmt's source: count such statements apart). THE CARD IS WHAT COUNTS. Prove the row's statement (the work); the ties are given (YtegiikkbeknodaaDoorTie.lean); close each card by the builder's one call (the guide's Derived/Test/ToyasCard.lean, 'card_holds'). Laid BY PROGRAM, IN A SANDBOX (cutbox-door.mjs). By AI agents, Wed Nov 11 2026. No macro, syntax, notation, axiom, sorry.
-/
import Derived.Test.YtegiikkbeknodaaDoorRows
import GoSem.ClaimSeven
namespace Go.Proofs.YtegiikkbeknodaaDoor
namespace Rows

/-- THE TIED CARD OF 'belvederelaw05.ClockOffsets'. -/
def clockOffsetsCard : Claim7 := { stood := { row := clockOffsetsRow, standIns := [], harness := (true, "200beeaf44901e4317b8ed0cd3a4e4c16cabcf3b4b4c0bf43111dd35bbde832f"), looks := true }, kinds := [], alts := [], laidByText := true, laidKinds := [.data, .data, .data], laidTests := true, laidLooks := .later }
def ClockOffsetsCardSaid : Prop := Claim7.holds Tryd.pinned (.plain (OpenSpec.ofChange clockOffsetsSpec)) clockOffsetsCard

/-- THE TIED CARD OF 'belvederelaw05.ClockAdds'. -/
def clockAddsCard : Claim7 := { stood := { row := clockAddsRow, standIns := [], harness := (true, "200beeaf44901e4317b8ed0cd3a4e4c16cabcf3b4b4c0bf43111dd35bbde832f"), looks := true }, kinds := [], alts := [], laidByText := true, laidKinds := [.data, .data, .data], laidTests := true, laidLooks := .later }
def ClockAddsCardSaid : Prop := Claim7.holds Tryd.pinned (.plain (OpenSpec.ofChange clockAddsSpec)) clockAddsCard

/-- THE TIED CARD OF 'belvederelaw05.ClockStamps'. -/
def clockStampsCard : Claim7 := { stood := { row := clockStampsRow, standIns := [], harness := (true, "200beeaf44901e4317b8ed0cd3a4e4c16cabcf3b4b4c0bf43111dd35bbde832f"), looks := true }, kinds := [], alts := [], laidByText := true, laidKinds := [.data, .data, .data, .handle], laidTests := true, laidLooks := .later }
def ClockStampsCardSaid : Prop := Claim7.holds Tryd.pinned (.plain (OpenSpec.ofChange clockStampsSpec)) clockStampsCard

/-- THE TIED CARD OF 'belvederelaw05.ClockSplits'. -/
def clockSplitsCard : Claim7 := { stood := { row := clockSplitsRow, standIns := [], harness := (true, "200beeaf44901e4317b8ed0cd3a4e4c16cabcf3b4b4c0bf43111dd35bbde832f"), looks := true }, kinds := [], alts := [], laidByText := true, laidKinds := [.data, .data, .data, .handle], laidTests := true, laidLooks := .later }
def ClockSplitsCardSaid : Prop := Claim7.holds Tryd.pinned (.plain (OpenSpec.ofChange clockSplitsSpec)) clockSplitsCard

/-- THE TIED CARD OF 'belvederelaw05.ClockBack'. -/
def clockBackCard : Claim7 := { stood := { row := clockBackRow, standIns := [], harness := (true, "200beeaf44901e4317b8ed0cd3a4e4c16cabcf3b4b4c0bf43111dd35bbde832f"), looks := true }, kinds := [], alts := [], laidByText := true, laidKinds := [.data, .data, .data, .data, .sentinel, .sentinel, .pinned], laidTests := true, laidLooks := .later }
def ClockBackCardSaid : Prop := Claim7.holds Tryd.pinned (.plain (OpenSpec.ofChange clockBackSpec)) clockBackCard

/-- THE TIED CARD OF 'belvederelaw05.ClockHours'. -/
def clockHoursCard : Claim7 := { stood := { row := clockHoursRow, standIns := [], harness := (true, "200beeaf44901e4317b8ed0cd3a4e4c16cabcf3b4b4c0bf43111dd35bbde832f"), looks := true }, kinds := [], alts := [], laidByText := true, laidKinds := [.data, .data, .data, .data, .handle, .sentinel, .sentinel, .pinned], laidTests := true, laidLooks := .later }
def ClockHoursCardSaid : Prop := Claim7.holds Tryd.pinned (.plain (OpenSpec.ofChange clockHoursSpec)) clockHoursCard

/-- THE SECOND FORM's CARD OF 'belvederelaw05.ClockOffsets'. -/
def clockOffsetsUptoCard : Claim7 := { stood := { row := clockOffsetsUptoRow, standIns := [], harness := (true, "200beeaf44901e4317b8ed0cd3a4e4c16cabcf3b4b4c0bf43111dd35bbde832f"), looks := true }, kinds := [], alts := [], laidByText := true, laidKinds := [.data, .data, .data], laidTests := true, laidLooks := .later }
def ClockOffsetsUptoCardSaid : Prop := Claim7.holds Tryd.pinned (.plain (OpenSpec.upto clockOffsetsSpec)) clockOffsetsUptoCard

/-- THE SECOND FORM's CARD OF 'belvederelaw05.ClockAdds'. -/
def clockAddsUptoCard : Claim7 := { stood := { row := clockAddsUptoRow, standIns := [], harness := (true, "200beeaf44901e4317b8ed0cd3a4e4c16cabcf3b4b4c0bf43111dd35bbde832f"), looks := true }, kinds := [], alts := [], laidByText := true, laidKinds := [.data, .data, .data], laidTests := true, laidLooks := .later }
def ClockAddsUptoCardSaid : Prop := Claim7.holds Tryd.pinned (.plain (OpenSpec.upto clockAddsSpec)) clockAddsUptoCard

/-- THE SECOND FORM's CARD OF 'belvederelaw05.ClockStamps'. -/
def clockStampsUptoCard : Claim7 := { stood := { row := clockStampsUptoRow, standIns := [], harness := (true, "200beeaf44901e4317b8ed0cd3a4e4c16cabcf3b4b4c0bf43111dd35bbde832f"), looks := true }, kinds := [], alts := [], laidByText := true, laidKinds := [.data, .data, .data, .handle], laidTests := true, laidLooks := .later }
def ClockStampsUptoCardSaid : Prop := Claim7.holds Tryd.pinned (.plain (OpenSpec.upto clockStampsSpec)) clockStampsUptoCard

/-- THE SECOND FORM's CARD OF 'belvederelaw05.ClockSplits'. -/
def clockSplitsUptoCard : Claim7 := { stood := { row := clockSplitsUptoRow, standIns := [], harness := (true, "200beeaf44901e4317b8ed0cd3a4e4c16cabcf3b4b4c0bf43111dd35bbde832f"), looks := true }, kinds := [], alts := [], laidByText := true, laidKinds := [.data, .data, .data, .handle], laidTests := true, laidLooks := .later }
def ClockSplitsUptoCardSaid : Prop := Claim7.holds Tryd.pinned (.plain (OpenSpec.upto clockSplitsSpec)) clockSplitsUptoCard

/-- THE SECOND FORM's CARD OF 'belvederelaw05.ClockBack'. -/
def clockBackUptoCard : Claim7 := { stood := { row := clockBackUptoRow, standIns := [], harness := (true, "200beeaf44901e4317b8ed0cd3a4e4c16cabcf3b4b4c0bf43111dd35bbde832f"), looks := true }, kinds := [], alts := [], laidByText := true, laidKinds := [.data, .data, .data, .data, .sentinel, .sentinel, .pinned], laidTests := true, laidLooks := .later }
def ClockBackUptoCardSaid : Prop := Claim7.holds Tryd.pinned (.plain (OpenSpec.upto clockBackSpec)) clockBackUptoCard

/-- THE SECOND FORM's CARD OF 'belvederelaw05.ClockHours'. -/
def clockHoursUptoCard : Claim7 := { stood := { row := clockHoursUptoRow, standIns := [], harness := (true, "200beeaf44901e4317b8ed0cd3a4e4c16cabcf3b4b4c0bf43111dd35bbde832f"), looks := true }, kinds := [], alts := [], laidByText := true, laidKinds := [.data, .data, .data, .data, .handle, .sentinel, .sentinel, .pinned], laidTests := true, laidLooks := .later }
def ClockHoursUptoCardSaid : Prop := Claim7.holds Tryd.pinned (.plain (OpenSpec.upto clockHoursSpec)) clockHoursUptoCard
end Rows
end Go.Proofs.YtegiikkbeknodaaDoor
