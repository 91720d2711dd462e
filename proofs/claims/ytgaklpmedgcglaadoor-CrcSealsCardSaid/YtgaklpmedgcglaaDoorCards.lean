/-
  DERIVED. GIVEN WITH THE SEED: THE CARDS: each row of YtgaklpmedgcglaaDoorRows.lean that lists a variable, with what it lists TIED to the program's text (the seventh form; the later family's looks); each row that meets fmt, with fmt's text TOLD by the authors' own Lean function (tested against real Go, not proved from fmt's source: count such statements apart). THE CARD IS WHAT COUNTS. Prove the row's statement (the work); the ties are given (YtgaklpmedgcglaaDoorTie.lean); close each card by the builder's one call (the guide's Derived/Test/ToyasCard.lean, 'card_holds'). Laid BY PROGRAM, IN A SANDBOX (cutbox-door.mjs). By AI agents, Wed Nov 11 2026. No macro, syntax, notation, axiom, sorry.
-/
import Derived.Test.YtgaklpmedgcglaaDoorRows
import GoSem.ClaimSeven
namespace Go.Proofs.YtgaklpmedgcglaaDoor
namespace Rows

/-- THE TIED CARD OF 'belvederelaw01.CrcSums'. -/
def crcSumsCard : Claim7 := { stood := { row := crcSumsRow, standIns := [], harness := (true, "4eb6ec0058155afce0e0e13c38edcb09925f433dd8564f8a73508ca956504d83"), looks := true }, kinds := [], alts := [], laidByText := true, laidKinds := [.data], laidTests := true, laidLooks := .later }
def CrcSumsCardSaid : Prop := Claim7.holds Tryd.pinned (.plain (OpenSpec.ofChange crcSumsSpec)) crcSumsCard

/-- THE TIED CARD OF 'belvederelaw01.CrcParts'. -/
def crcPartsCard : Claim7 := { stood := { row := crcPartsRow, standIns := [], harness := (true, "4eb6ec0058155afce0e0e13c38edcb09925f433dd8564f8a73508ca956504d83"), looks := true }, kinds := [], alts := [], laidByText := true, laidKinds := [.data], laidTests := true, laidLooks := .later }
def CrcPartsCardSaid : Prop := Claim7.holds Tryd.pinned (.plain (OpenSpec.ofChange crcPartsSpec)) crcPartsCard

/-- THE TIED CARD OF 'belvederelaw01.CrcMixed'. -/
def crcMixedCard : Claim7 := { stood := { row := crcMixedRow, standIns := [], harness := (true, "4eb6ec0058155afce0e0e13c38edcb09925f433dd8564f8a73508ca956504d83"), looks := true }, kinds := [], alts := [], laidByText := true, laidKinds := [.data], laidTests := true, laidLooks := .later }
def CrcMixedCardSaid : Prop := Claim7.holds Tryd.pinned (.plain (OpenSpec.ofChange crcMixedSpec)) crcMixedCard

/-- THE TIED CARD OF 'belvederelaw01.CrcSeals'. -/
def crcSealsCard : Claim7 := { stood := { row := crcSealsRow, standIns := [], harness := (true, "4eb6ec0058155afce0e0e13c38edcb09925f433dd8564f8a73508ca956504d83"), looks := true }, kinds := [], alts := [], laidByText := true, laidKinds := [.handle, .data], laidTests := true, laidLooks := .later }
def CrcSealsCardSaid : Prop := Claim7.holds Tryd.pinned (.plain (OpenSpec.ofChange crcSealsSpec)) crcSealsCard

/-- THE TIED CARD OF 'belvederelaw01.CrcBursts'. -/
def crcBurstsCard : Claim7 := { stood := { row := crcBurstsRow, standIns := [], harness := (true, "4eb6ec0058155afce0e0e13c38edcb09925f433dd8564f8a73508ca956504d83"), looks := true }, kinds := [], alts := [], laidByText := true, laidKinds := [.handle, .data], laidTests := true, laidLooks := .later }
def CrcBurstsCardSaid : Prop := Claim7.holds Tryd.pinned (.plain (OpenSpec.ofChange crcBurstsSpec)) crcBurstsCard

/-- THE TIED CARD OF 'belvederelaw01.CrcNested'. -/
def crcNestedCard : Claim7 := { stood := { row := crcNestedRow, standIns := [], harness := (true, "4eb6ec0058155afce0e0e13c38edcb09925f433dd8564f8a73508ca956504d83"), looks := true }, kinds := [], alts := [], laidByText := true, laidKinds := [.handle, .data], laidTests := true, laidLooks := .later }
def CrcNestedCardSaid : Prop := Claim7.holds Tryd.pinned (.plain (OpenSpec.ofChange crcNestedSpec)) crcNestedCard

/-- THE TIED CARD OF 'belvederelaw01.CrcShort'. -/
def crcShortCard : Claim7 := { stood := { row := crcShortRow, standIns := [], harness := (true, "4eb6ec0058155afce0e0e13c38edcb09925f433dd8564f8a73508ca956504d83"), looks := true }, kinds := [], alts := [], laidByText := true, laidKinds := [.handle, .data], laidTests := true, laidLooks := .later }
def CrcShortCardSaid : Prop := Claim7.holds Tryd.pinned (.plain (OpenSpec.ofChange crcShortSpec)) crcShortCard

/-- THE SECOND FORM's CARD OF 'belvederelaw01.CrcSums'. -/
def crcSumsUptoCard : Claim7 := { stood := { row := crcSumsUptoRow, standIns := [], harness := (true, "4eb6ec0058155afce0e0e13c38edcb09925f433dd8564f8a73508ca956504d83"), looks := true }, kinds := [], alts := [], laidByText := true, laidKinds := [.data], laidTests := true, laidLooks := .later }
def CrcSumsUptoCardSaid : Prop := Claim7.holds Tryd.pinned (.plain (OpenSpec.upto crcSumsSpec)) crcSumsUptoCard

/-- THE SECOND FORM's CARD OF 'belvederelaw01.CrcParts'. -/
def crcPartsUptoCard : Claim7 := { stood := { row := crcPartsUptoRow, standIns := [], harness := (true, "4eb6ec0058155afce0e0e13c38edcb09925f433dd8564f8a73508ca956504d83"), looks := true }, kinds := [], alts := [], laidByText := true, laidKinds := [.data], laidTests := true, laidLooks := .later }
def CrcPartsUptoCardSaid : Prop := Claim7.holds Tryd.pinned (.plain (OpenSpec.upto crcPartsSpec)) crcPartsUptoCard

/-- THE SECOND FORM's CARD OF 'belvederelaw01.CrcMixed'. -/
def crcMixedUptoCard : Claim7 := { stood := { row := crcMixedUptoRow, standIns := [], harness := (true, "4eb6ec0058155afce0e0e13c38edcb09925f433dd8564f8a73508ca956504d83"), looks := true }, kinds := [], alts := [], laidByText := true, laidKinds := [.data], laidTests := true, laidLooks := .later }
def CrcMixedUptoCardSaid : Prop := Claim7.holds Tryd.pinned (.plain (OpenSpec.upto crcMixedSpec)) crcMixedUptoCard

/-- THE SECOND FORM's CARD OF 'belvederelaw01.CrcSeals'. -/
def crcSealsUptoCard : Claim7 := { stood := { row := crcSealsUptoRow, standIns := [], harness := (true, "4eb6ec0058155afce0e0e13c38edcb09925f433dd8564f8a73508ca956504d83"), looks := true }, kinds := [], alts := [], laidByText := true, laidKinds := [.handle, .data], laidTests := true, laidLooks := .later }
def CrcSealsUptoCardSaid : Prop := Claim7.holds Tryd.pinned (.plain (OpenSpec.upto crcSealsSpec)) crcSealsUptoCard

/-- THE SECOND FORM's CARD OF 'belvederelaw01.CrcBursts'. -/
def crcBurstsUptoCard : Claim7 := { stood := { row := crcBurstsUptoRow, standIns := [], harness := (true, "4eb6ec0058155afce0e0e13c38edcb09925f433dd8564f8a73508ca956504d83"), looks := true }, kinds := [], alts := [], laidByText := true, laidKinds := [.handle, .data], laidTests := true, laidLooks := .later }
def CrcBurstsUptoCardSaid : Prop := Claim7.holds Tryd.pinned (.plain (OpenSpec.upto crcBurstsSpec)) crcBurstsUptoCard

/-- THE SECOND FORM's CARD OF 'belvederelaw01.CrcNested'. -/
def crcNestedUptoCard : Claim7 := { stood := { row := crcNestedUptoRow, standIns := [], harness := (true, "4eb6ec0058155afce0e0e13c38edcb09925f433dd8564f8a73508ca956504d83"), looks := true }, kinds := [], alts := [], laidByText := true, laidKinds := [.handle, .data], laidTests := true, laidLooks := .later }
def CrcNestedUptoCardSaid : Prop := Claim7.holds Tryd.pinned (.plain (OpenSpec.upto crcNestedSpec)) crcNestedUptoCard

/-- THE SECOND FORM's CARD OF 'belvederelaw01.CrcShort'. -/
def crcShortUptoCard : Claim7 := { stood := { row := crcShortUptoRow, standIns := [], harness := (true, "4eb6ec0058155afce0e0e13c38edcb09925f433dd8564f8a73508ca956504d83"), looks := true }, kinds := [], alts := [], laidByText := true, laidKinds := [.handle, .data], laidTests := true, laidLooks := .later }
def CrcShortUptoCardSaid : Prop := Claim7.holds Tryd.pinned (.plain (OpenSpec.upto crcShortSpec)) crcShortUptoCard
end Rows
end Go.Proofs.YtgaklpmedgcglaaDoor
