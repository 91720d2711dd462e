/-
  DERIVED. GIVEN WITH THE SEED: THE CARDS: each row of YtfcnmjbmoiacaaaDoorRows.lean that lists a variable, with what it lists TIED to the program's text (the seventh form; the later family's looks); each row that meets fmt, with fmt's text TOLD by the authors' own Lean function (tested against real Go, not proved from fmt's source: count such statements apart). THE CARD IS WHAT COUNTS. Prove the row's statement (the work); the ties are given (YtfcnmjbmoiacaaaDoorTie.lean); close each card by the builder's one call (the guide's Derived/Test/ToyasCard.lean, 'card_holds'). Laid BY PROGRAM, IN A SANDBOX (cutbox-door.mjs). By AI agents, Wed Nov 11 2026. No macro, syntax, notation, axiom, sorry.
-/
import Derived.Test.YtfcnmjbmoiacaaaDoorRows
import GoSem.ClaimSeven
namespace Go.Proofs.YtfcnmjbmoiacaaaDoor
namespace Rows

/-- THE TIED CARD OF 'belvederelaw02.LebTakes'. -/
def lebTakesCard : Claim7 := { stood := { row := lebTakesRow, standIns := [], harness := (true, "2f543dd694a28a30238010298ffde677da462b33b6df74a0ec8dbd91b1ea698e"), looks := true }, kinds := [], alts := [], laidByText := true, laidKinds := [.handle], laidTests := true, laidLooks := .later }
def LebTakesCardSaid : Prop := Claim7.holds Tryd.pinned (.plain (OpenSpec.ofChange lebTakesSpec)) lebTakesCard

/-- THE TIED CARD OF 'belvederelaw02.LebTexts'. -/
def lebTextsCard : Claim7 := { stood := { row := lebTextsRow, standIns := [], harness := (true, "2f543dd694a28a30238010298ffde677da462b33b6df74a0ec8dbd91b1ea698e"), looks := true }, kinds := [], alts := [], laidByText := true, laidKinds := [.handle], laidTests := true, laidLooks := .later }
def LebTextsCardSaid : Prop := Claim7.holds Tryd.pinned (.plain (OpenSpec.ofChange lebTextsSpec)) lebTextsCard

/-- THE TIED CARD OF 'belvederelaw02.LebBack'. -/
def lebBackCard : Claim7 := { stood := { row := lebBackRow, standIns := [], harness := (true, "2f543dd694a28a30238010298ffde677da462b33b6df74a0ec8dbd91b1ea698e"), looks := true }, kinds := [], alts := [], laidByText := true, laidKinds := [.handle], laidTests := true, laidLooks := .later }
def LebBackCardSaid : Prop := Claim7.holds Tryd.pinned (.plain (OpenSpec.ofChange lebBackSpec)) lebBackCard

/-- THE SECOND FORM's CARD OF 'belvederelaw02.LebTakes'. -/
def lebTakesUptoCard : Claim7 := { stood := { row := lebTakesUptoRow, standIns := [], harness := (true, "2f543dd694a28a30238010298ffde677da462b33b6df74a0ec8dbd91b1ea698e"), looks := true }, kinds := [], alts := [], laidByText := true, laidKinds := [.handle], laidTests := true, laidLooks := .later }
def LebTakesUptoCardSaid : Prop := Claim7.holds Tryd.pinned (.plain (OpenSpec.upto lebTakesSpec)) lebTakesUptoCard

/-- THE SECOND FORM's CARD OF 'belvederelaw02.LebTexts'. -/
def lebTextsUptoCard : Claim7 := { stood := { row := lebTextsUptoRow, standIns := [], harness := (true, "2f543dd694a28a30238010298ffde677da462b33b6df74a0ec8dbd91b1ea698e"), looks := true }, kinds := [], alts := [], laidByText := true, laidKinds := [.handle], laidTests := true, laidLooks := .later }
def LebTextsUptoCardSaid : Prop := Claim7.holds Tryd.pinned (.plain (OpenSpec.upto lebTextsSpec)) lebTextsUptoCard

/-- THE SECOND FORM's CARD OF 'belvederelaw02.LebBack'. -/
def lebBackUptoCard : Claim7 := { stood := { row := lebBackUptoRow, standIns := [], harness := (true, "2f543dd694a28a30238010298ffde677da462b33b6df74a0ec8dbd91b1ea698e"), looks := true }, kinds := [], alts := [], laidByText := true, laidKinds := [.handle], laidTests := true, laidLooks := .later }
def LebBackUptoCardSaid : Prop := Claim7.holds Tryd.pinned (.plain (OpenSpec.upto lebBackSpec)) lebBackUptoCard
end Rows
end Go.Proofs.YtfcnmjbmoiacaaaDoor
