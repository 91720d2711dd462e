/-
  No cell of these rows narrows 'for every input' (looked for: loops, veiled, ifaces, maps, wideKeys, modest, calm, conditions, laid).
  DERIVED. THE GIVEN ROWS OF THIS SEAT. 3 by the template 'for every input the law returns true; each argument reads behind the call as it read before'; 0 by the template 'total and deterministic' (their statements: YtgmdaaenhmclfaaTotals.lean).
  GIVEN WITH THE SEED: the statements are not yours to turn. If you find one false, say at which input.
  Laid BY PROGRAM, IN A SANDBOX (cutbox-rows.mjs): the forced cells as the released guide's own fill.sh prints them over the translation ce0b0de49bea445a… (all of the seat's roots in one cut). By AI agents, Wed Nov 11 2026. No macro, syntax, notation, axiom, sorry.
-/
import Derived.Test.YtgmdaaenhmclfaaChecked
import GoSem.Claim
import GoSem.ClaimJoined
import GoSem.ClaimMapViews
import Derived.JoinedTies
import Derived.KernelRfl
namespace Go.Proofs.Ytgmdaaenhmclfaa
/- THE CELL 'sum', in the pinned program and in every row, IS THE sha256 OF THE DUMP (.gsa) THAT YtgmdaaenhmclfaaProg.lean LOADS. Nothing in Lean hashes anything: it is a label: what it is worth is what the hold of that sum in a sandbox is worth. -/
noncomputable def Try.pinned : Pinned := { name := "ytgmdaaenhmclfaa", sum := "ce0b0de49bea445a983f807530c4078653b566cb6dd55144d8bec3f648d64ba0", checked := Try.checked }
namespace Rows
def none {H : Type} : Left H := { results := [], args := [] }

/-- 'belvederelaw18.DownTriggers': WHATEVER THE INPUT: true; the input reads as it did. -/
def downTriggersSpec : ChangeSpec := { name := "downTriggers", fn := fun _ => fun
  | [d1, d2] => { results := [.lit (.bool true)], args := [d1, d2] }
  | _ => none }
def downTriggersRow : OpenClaim := { program := "ytgmdaaenhmclfaa", sum := "ce0b0de49bea445a983f807530c4078653b566cb6dd55144d8bec3f648d64ba0", func := "belvedere/belvederelaw18.DownTriggers", spec := "downTriggers", unfollowed := true, recurses := true, apart := false }
def DownTriggersSaid : Prop := downTriggersRow.holds Try.pinned (OpenSpec.ofChange downTriggersSpec)

/-- ITS FALSE NEIGHBOUR: 'it returns false'. Refute it at one input. -/
def downTriggersWrong : ChangeSpec := { name := "downTriggers", fn := fun _ => fun
  | [d1, d2] => { results := [.lit (.bool false)], args := [d1, d2] }
  | _ => none }
def DownTriggersWrongFalsely : Prop := downTriggersRow.holds Try.pinned (OpenSpec.ofChange downTriggersWrong)

/-- 'belvederelaw18.DownOver': WHATEVER THE INPUT: true; the input reads as it did. -/
def downOverSpec : ChangeSpec := { name := "downOver", fn := fun _ => fun
  | [d] => { results := [.lit (.bool true)], args := [d] }
  | _ => none }
def downOverRow : OpenClaim := { program := "ytgmdaaenhmclfaa", sum := "ce0b0de49bea445a983f807530c4078653b566cb6dd55144d8bec3f648d64ba0", func := "belvedere/belvederelaw18.DownOver", spec := "downOver", unfollowed := true, recurses := true, apart := false }
def DownOverSaid : Prop := downOverRow.holds Try.pinned (OpenSpec.ofChange downOverSpec)

/-- ITS FALSE NEIGHBOUR: 'it returns false'. Refute it at one input. -/
def downOverWrong : ChangeSpec := { name := "downOver", fn := fun _ => fun
  | [d] => { results := [.lit (.bool false)], args := [d] }
  | _ => none }
def DownOverWrongFalsely : Prop := downOverRow.holds Try.pinned (OpenSpec.ofChange downOverWrong)

/-- 'belvederelaw18.DownFixed': WHATEVER THE INPUT: true; the input reads as it did. -/
def downFixedSpec : ChangeSpec := { name := "downFixed", fn := fun _ => fun
  | [d1, d2] => { results := [.lit (.bool true)], args := [d1, d2] }
  | _ => none }
def downFixedRow : OpenClaim := { program := "ytgmdaaenhmclfaa", sum := "ce0b0de49bea445a983f807530c4078653b566cb6dd55144d8bec3f648d64ba0", func := "belvedere/belvederelaw18.DownFixed", spec := "downFixed", unfollowed := true, recurses := true, apart := false }
def DownFixedSaid : Prop := downFixedRow.holds Try.pinned (OpenSpec.ofChange downFixedSpec)

/-- ITS FALSE NEIGHBOUR: 'it returns false'. Refute it at one input. -/
def downFixedWrong : ChangeSpec := { name := "downFixed", fn := fun _ => fun
  | [d1, d2] => { results := [.lit (.bool false)], args := [d1, d2] }
  | _ => none }
def DownFixedWrongFalsely : Prop := downFixedRow.holds Try.pinned (OpenSpec.ofChange downFixedWrong)

/- THE SECOND FORM. 'bulk': how many values and letters a reading holds, each counted each time it is reached (what is shared counts as often as it is met; a slice's spare places count too). A statement '..UptoSaid' is the law's where the arguments, and the package variables that the reading takes, are together of bulk at most 1048576: NARROWER than '..Said'. Prove '..Said' where nothing that the law and all that it calls make is longer than what came in: it says more and counts as full. Else prove '..UptoSaid'. A law counts once. -/
mutual
def uptoBulk {H : Type} : DataW H → Nat
  | .lit (.string bytes) => bytes.length + 1
  | .lit _ => 1
  | .nil => 1
  | .ptr d => uptoBulk d + 1
  | .slice elems spare => uptoBulkAll elems + uptoBulkAll spare + 1
  | .agg parts => uptoBulkAll parts + 1
  | .iface _ d => uptoBulk d + 1
  | .map entries => uptoBulkEntries entries + 1
  | .held _ => 1
def uptoBulkAll {H : Type} : List (DataW H) → Nat
  | [] => 0
  | d :: r => uptoBulk d + uptoBulkAll r
def uptoBulkEntries {H : Type} : List (Lit × DataW H) → Nat
  | [] => 0
  | x :: r => uptoBulkEntry x + uptoBulkEntries r
def uptoBulkEntry {H : Type} : Lit × DataW H → Nat
  | (.string bytes, d) => bytes.length + uptoBulk d + 1
  | (_, d) => uptoBulk d + 1
 end
def uptoSmall : (H : Type) → List (DataW H) → Bool := fun _ ds => decide (uptoBulkAll ds ≤ 1048576)
def OpenSpec.upto (s : _root_.Go.ChangeSpec) : _root_.Go.OpenSpec := { _root_.Go.OpenSpec.ofChange s with cond := some uptoSmall }

/-- 'belvederelaw18.DownTriggers', WHERE WHAT IT READS IS OF BULK AT MOST 1048576: true; the input reads as it did. -/
def downTriggersUptoRow : OpenClaim := { program := "ytgmdaaenhmclfaa", sum := "ce0b0de49bea445a983f807530c4078653b566cb6dd55144d8bec3f648d64ba0", func := "belvedere/belvederelaw18.DownTriggers", spec := "downTriggers", unfollowed := true, recurses := true, apart := false, narrowed := true }
def DownTriggersUptoSaid : Prop := downTriggersUptoRow.holds Try.pinned (OpenSpec.upto downTriggersSpec)

/-- 'belvederelaw18.DownOver', WHERE WHAT IT READS IS OF BULK AT MOST 1048576: true; the input reads as it did. -/
def downOverUptoRow : OpenClaim := { program := "ytgmdaaenhmclfaa", sum := "ce0b0de49bea445a983f807530c4078653b566cb6dd55144d8bec3f648d64ba0", func := "belvedere/belvederelaw18.DownOver", spec := "downOver", unfollowed := true, recurses := true, apart := false, narrowed := true }
def DownOverUptoSaid : Prop := downOverUptoRow.holds Try.pinned (OpenSpec.upto downOverSpec)

/-- 'belvederelaw18.DownFixed', WHERE WHAT IT READS IS OF BULK AT MOST 1048576: true; the input reads as it did. -/
def downFixedUptoRow : OpenClaim := { program := "ytgmdaaenhmclfaa", sum := "ce0b0de49bea445a983f807530c4078653b566cb6dd55144d8bec3f648d64ba0", func := "belvedere/belvederelaw18.DownFixed", spec := "downFixed", unfollowed := true, recurses := true, apart := false, narrowed := true }
def DownFixedUptoSaid : Prop := downFixedUptoRow.holds Try.pinned (OpenSpec.upto downFixedSpec)

end Rows
end Go.Proofs.Ytgmdaaenhmclfaa
