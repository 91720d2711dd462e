/-
  DERIVED. GIVEN WITH THE SEED: THE CARDS: each row of YtgmdaaenhmclfaaDoorRows.lean that lists a variable, with what it lists TIED to the program's text (the seventh form; the later family's looks); each row that meets fmt, with fmt's text TOLD by the authors' own Lean function (tested against real Go, not proved from fmt's source: count such statements apart). THE CARD IS WHAT COUNTS. Prove the row's statement (the work); the ties are given (YtgmdaaenhmclfaaDoorTie.lean); close each card by the builder's one call (the guide's Derived/Test/ToyasCard.lean, 'card_holds'). Laid BY PROGRAM, IN A SANDBOX (cutbox-door.mjs). By AI agents, Wed Nov 11 2026. No macro, syntax, notation, axiom, sorry.
-/
import Derived.Test.YtgmdaaenhmclfaaDoorRows
import GoSem.ClaimSeven
namespace Go.Proofs.YtgmdaaenhmclfaaDoor
namespace Rows

/-- THE TIED CARD OF 'belvederelaw18.DownRuns'. -/
def downRunsCard : Claim7 := { stood := { row := downRunsRow, standIns := [], harness := (true, "ffbf3afa052abff6a20abf02c7cb8d8aacb8eef3738d120f70df2f1c8a460275"), looks := true }, kinds := [], alts := [], laidByText := true, laidKinds := [.handle], laidTests := true, laidLooks := .later }
def DownRunsCardSaid : Prop := Claim7.holds Tryd.pinned (.plain (OpenSpec.ofChange downRunsSpec)) downRunsCard

/-- THE SECOND FORM's CARD OF 'belvederelaw18.DownRuns'. -/
def downRunsUptoCard : Claim7 := { stood := { row := downRunsUptoRow, standIns := [], harness := (true, "ffbf3afa052abff6a20abf02c7cb8d8aacb8eef3738d120f70df2f1c8a460275"), looks := true }, kinds := [], alts := [], laidByText := true, laidKinds := [.handle], laidTests := true, laidLooks := .later }
def DownRunsUptoCardSaid : Prop := Claim7.holds Tryd.pinned (.plain (OpenSpec.upto downRunsSpec)) downRunsUptoCard
end Rows
end Go.Proofs.YtgmdaaenhmclfaaDoor
