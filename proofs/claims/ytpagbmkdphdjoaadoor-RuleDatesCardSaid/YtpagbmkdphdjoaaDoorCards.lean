/-
  DERIVED. GIVEN WITH THE SEED: THE CARDS: each row of YtpagbmkdphdjoaaDoorRows.lean that lists a variable, with what it lists TIED to the program's text (the seventh form; the later family's looks); each row that meets fmt, with fmt's text TOLD by the authors' own Lean function (tested against real Go, not proved from fmt's source: count such statements apart). THE CARD IS WHAT COUNTS. Prove the row's statement (the work); the ties are given (YtpagbmkdphdjoaaDoorTie.lean); close each card by the builder's one call (the guide's Derived/Test/ToyasCard.lean, 'card_holds'). Laid BY PROGRAM, IN A SANDBOX (cutbox-door.mjs). By AI agents, Wed Nov 11 2026. No macro, syntax, notation, axiom, sorry.
-/
import Derived.Test.YtpagbmkdphdjoaaDoorRows
import GoSem.ClaimSeven
namespace Go.Proofs.YtpagbmkdphdjoaaDoor
namespace Rows

/-- THE TIED CARD OF 'belvederelaw06.RuleMonths'. -/
def ruleMonthsCard : Claim7 := { stood := { row := ruleMonthsRow, standIns := [], harness := (true, "9b48bc705eac59bea23aabe51cbe94f4b47f9f246b16b3133e25a437fe28bf77"), looks := true }, kinds := [], alts := [], laidByText := true, laidKinds := [.data, .data, .data, .data, .sentinel, .sentinel, .pinned], laidTests := true, laidLooks := .later }
def RuleMonthsCardSaid : Prop := Claim7.holds Tryd.pinned (.plain (OpenSpec.ofChange ruleMonthsSpec)) ruleMonthsCard

/-- THE TIED CARD OF 'belvederelaw06.RuleDates'. -/
def ruleDatesCard : Claim7 := { stood := { row := ruleDatesRow, standIns := [], harness := (true, "9b48bc705eac59bea23aabe51cbe94f4b47f9f246b16b3133e25a437fe28bf77"), looks := true }, kinds := [], alts := [], laidByText := true, laidKinds := [.data, .data, .data, .data, .sentinel, .sentinel, .pinned], laidTests := true, laidLooks := .later }
def RuleDatesCardSaid : Prop := Claim7.holds Tryd.pinned (.plain (OpenSpec.ofChange ruleDatesSpec)) ruleDatesCard

/-- THE SECOND FORM's CARD OF 'belvederelaw06.RuleMonths'. -/
def ruleMonthsUptoCard : Claim7 := { stood := { row := ruleMonthsUptoRow, standIns := [], harness := (true, "9b48bc705eac59bea23aabe51cbe94f4b47f9f246b16b3133e25a437fe28bf77"), looks := true }, kinds := [], alts := [], laidByText := true, laidKinds := [.data, .data, .data, .data, .sentinel, .sentinel, .pinned], laidTests := true, laidLooks := .later }
def RuleMonthsUptoCardSaid : Prop := Claim7.holds Tryd.pinned (.plain (OpenSpec.upto ruleMonthsSpec)) ruleMonthsUptoCard

/-- THE SECOND FORM's CARD OF 'belvederelaw06.RuleDates'. -/
def ruleDatesUptoCard : Claim7 := { stood := { row := ruleDatesUptoRow, standIns := [], harness := (true, "9b48bc705eac59bea23aabe51cbe94f4b47f9f246b16b3133e25a437fe28bf77"), looks := true }, kinds := [], alts := [], laidByText := true, laidKinds := [.data, .data, .data, .data, .sentinel, .sentinel, .pinned], laidTests := true, laidLooks := .later }
def RuleDatesUptoCardSaid : Prop := Claim7.holds Tryd.pinned (.plain (OpenSpec.upto ruleDatesSpec)) ruleDatesUptoCard
end Rows
end Go.Proofs.YtpagbmkdphdjoaaDoor
