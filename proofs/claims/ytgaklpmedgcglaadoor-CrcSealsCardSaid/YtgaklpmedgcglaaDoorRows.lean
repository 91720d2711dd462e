/-
  NARROWER THAN 'FOR EVERY INPUT', by the rows' own cells (each row's printed sentence says how): CrcSums: laid · CrcParts: laid · CrcMixed: laid · CrcSeals: laid · CrcBursts: laid · CrcNested: laid · CrcShort: laid.
  DERIVED. THE GIVEN ROWS OF THIS SEAT. 7 by the template 'for every input the law returns true; each argument reads behind the call as it read before'; 0 by the template 'total and deterministic' (their statements: YtgaklpmedgcglaaDoorTotals.lean).
  GIVEN WITH THE SEED: the statements are not yours to turn. If you find one false, say at which input.
  Laid BY PROGRAM, IN A SANDBOX (cutbox-rows.mjs): the forced cells as the released guide's own fill.sh prints them over the translation 6498c106a74dabeb… (all of the seat's roots in one cut). By AI agents, Wed Nov 11 2026. No macro, syntax, notation, axiom, sorry.
-/
import Derived.Test.YtgaklpmedgcglaaDoorChecked
import GoSem.Claim
import GoSem.ClaimJoined
import GoSem.ClaimMapViews
import Derived.JoinedTies
import Derived.KernelRfl
namespace Go.Proofs.YtgaklpmedgcglaaDoor
/- THE CELL 'sum', in the pinned program and in every row, IS THE sha256 OF THE DUMP (.gsa) THAT YtgaklpmedgcglaaDoorProg.lean LOADS. Nothing in Lean hashes anything: it is a label: what it is worth is what the hold of that sum in a sandbox is worth. -/
noncomputable def Tryd.pinned : Pinned := { name := "ytgaklpmedgcglaadoor", sum := "6498c106a74dabebc7c79cd0f6037a99a08376252481ba248956acd01dee59bf", checked := Tryd.checked }
namespace Rows
def none {H : Type} : Left H := { results := [], args := [] }

/- WHAT THE LISTED PACKAGE-LEVEL VARIABLES READ AS WHEN THE CALL BEGINS. Each datum BY PROGRAM (the guide's laid-datum.mjs) off the statement by which the dump's own 'gosem.cut.vars' lays the variable. In a bare row this is a premise. The card (YtgaklpmedgcglaaDoorCards.lean) ties it to the program's text. -/
def laid_belvedere_crc_steps {H : Type} : DataW H := .agg [.lit (.int .u32 0), .lit (.int .u32 498536548), .lit (.int .u32 997073096), .lit (.int .u32 651767980), .lit (.int .u32 1994146192), .lit (.int .u32 1802195444), .lit (.int .u32 1303535960), .lit (.int .u32 1342533948), .lit (.int .u32 3988292384), .lit (.int .u32 4027552580), .lit (.int .u32 3604390888), .lit (.int .u32 3412177804), .lit (.int .u32 2607071920), .lit (.int .u32 2262029012), .lit (.int .u32 2685067896), .lit (.int .u32 3183342108)]
def laid_errors_errorType {H : Type} : DataW H := .iface "internal/reflectlite.rtype" (.agg [.ptr (.lit (.string [101, 114, 114, 111, 114]))])

/-- 'belvederelaw01.CrcSums': WHATEVER THE INPUT: true; the input reads as it did. -/
def crcSumsSpec : ChangeSpec := { name := "crcSums", fn := fun _ => fun
  | [d1, d2] => { results := [.lit (.bool true)], args := [d1, d2] }
  | _ => none }
def crcSumsRow : OpenClaim := { program := "ytgaklpmedgcglaadoor", sum := "6498c106a74dabebc7c79cd0f6037a99a08376252481ba248956acd01dee59bf", func := "belvedere/belvederelaw01.CrcSums", spec := "crcSums", named := ["belvedere/crc.steps"], apart := false, laid := [("belvedere/crc.steps", laid_belvedere_crc_steps)] }
def CrcSumsSaid : Prop := crcSumsRow.holds Tryd.pinned (OpenSpec.ofChange crcSumsSpec)

/-- ITS FALSE NEIGHBOUR: 'it returns false'. Refute it at one input. -/
def crcSumsWrong : ChangeSpec := { name := "crcSums", fn := fun _ => fun
  | [d1, d2] => { results := [.lit (.bool false)], args := [d1, d2] }
  | _ => none }
def CrcSumsWrongFalsely : Prop := crcSumsRow.holds Tryd.pinned (OpenSpec.ofChange crcSumsWrong)

/-- 'belvederelaw01.CrcParts': WHATEVER THE INPUT: true; the input reads as it did. -/
def crcPartsSpec : ChangeSpec := { name := "crcParts", fn := fun _ => fun
  | [d1, d2] => { results := [.lit (.bool true)], args := [d1, d2] }
  | _ => none }
def crcPartsRow : OpenClaim := { program := "ytgaklpmedgcglaadoor", sum := "6498c106a74dabebc7c79cd0f6037a99a08376252481ba248956acd01dee59bf", func := "belvedere/belvederelaw01.CrcParts", spec := "crcParts", named := ["belvedere/crc.steps"], apart := false, laid := [("belvedere/crc.steps", laid_belvedere_crc_steps)] }
def CrcPartsSaid : Prop := crcPartsRow.holds Tryd.pinned (OpenSpec.ofChange crcPartsSpec)

/-- ITS FALSE NEIGHBOUR: 'it returns false'. Refute it at one input. -/
def crcPartsWrong : ChangeSpec := { name := "crcParts", fn := fun _ => fun
  | [d1, d2] => { results := [.lit (.bool false)], args := [d1, d2] }
  | _ => none }
def CrcPartsWrongFalsely : Prop := crcPartsRow.holds Tryd.pinned (OpenSpec.ofChange crcPartsWrong)

/-- 'belvederelaw01.CrcMixed': WHATEVER THE INPUT: true; the input reads as it did. -/
def crcMixedSpec : ChangeSpec := { name := "crcMixed", fn := fun _ => fun
  | [d1, d2, d3] => { results := [.lit (.bool true)], args := [d1, d2, d3] }
  | _ => none }
def crcMixedRow : OpenClaim := { program := "ytgaklpmedgcglaadoor", sum := "6498c106a74dabebc7c79cd0f6037a99a08376252481ba248956acd01dee59bf", func := "belvedere/belvederelaw01.CrcMixed", spec := "crcMixed", named := ["belvedere/crc.steps"], apart := false, laid := [("belvedere/crc.steps", laid_belvedere_crc_steps)] }
def CrcMixedSaid : Prop := crcMixedRow.holds Tryd.pinned (OpenSpec.ofChange crcMixedSpec)

/-- ITS FALSE NEIGHBOUR: 'it returns false'. Refute it at one input. -/
def crcMixedWrong : ChangeSpec := { name := "crcMixed", fn := fun _ => fun
  | [d1, d2, d3] => { results := [.lit (.bool false)], args := [d1, d2, d3] }
  | _ => none }
def CrcMixedWrongFalsely : Prop := crcMixedRow.holds Tryd.pinned (OpenSpec.ofChange crcMixedWrong)

/-- 'belvederelaw01.CrcSeals': WHATEVER THE INPUT: true; the input reads as it did. -/
def crcSealsSpec : ChangeSpec := { name := "crcSeals", fn := fun _ => fun
  | [d] => { results := [.lit (.bool true)], args := [d] }
  | _ => none }
def crcSealsRow : OpenClaim := { program := "ytgaklpmedgcglaadoor", sum := "6498c106a74dabebc7c79cd0f6037a99a08376252481ba248956acd01dee59bf", func := "belvedere/belvederelaw01.CrcSeals", spec := "crcSeals", inPlace := ["internal/reflectlite.ValueOf", "(internal/reflectlite.Value).Type", "(internal/reflectlite.Value).IsNil", "internal/reflectlite.TypeOf", "(internal/reflectlite.Value).Elem", "(internal/reflectlite.Value).Set"], unfollowed := true, recurses := true, named := ["belvedere/crc.steps", "errors.errorType"], apart := false, laid := [("errors.errorType", laid_errors_errorType), ("belvedere/crc.steps", laid_belvedere_crc_steps)] }
def CrcSealsSaid : Prop := crcSealsRow.holds Tryd.pinned (OpenSpec.ofChange crcSealsSpec)

/-- ITS FALSE NEIGHBOUR: 'it returns false'. Refute it at one input. -/
def crcSealsWrong : ChangeSpec := { name := "crcSeals", fn := fun _ => fun
  | [d] => { results := [.lit (.bool false)], args := [d] }
  | _ => none }
def CrcSealsWrongFalsely : Prop := crcSealsRow.holds Tryd.pinned (OpenSpec.ofChange crcSealsWrong)

/-- 'belvederelaw01.CrcBursts': WHATEVER THE INPUT: true; the input reads as it did. -/
def crcBurstsSpec : ChangeSpec := { name := "crcBursts", fn := fun _ => fun
  | [d1, d2, d3] => { results := [.lit (.bool true)], args := [d1, d2, d3] }
  | _ => none }
def crcBurstsRow : OpenClaim := { program := "ytgaklpmedgcglaadoor", sum := "6498c106a74dabebc7c79cd0f6037a99a08376252481ba248956acd01dee59bf", func := "belvedere/belvederelaw01.CrcBursts", spec := "crcBursts", inPlace := ["internal/reflectlite.ValueOf", "(internal/reflectlite.Value).Type", "(internal/reflectlite.Value).IsNil", "internal/reflectlite.TypeOf", "(internal/reflectlite.Value).Elem", "(internal/reflectlite.Value).Set"], unfollowed := true, recurses := true, named := ["belvedere/crc.steps", "errors.errorType"], apart := false, laid := [("errors.errorType", laid_errors_errorType), ("belvedere/crc.steps", laid_belvedere_crc_steps)] }
def CrcBurstsSaid : Prop := crcBurstsRow.holds Tryd.pinned (OpenSpec.ofChange crcBurstsSpec)

/-- ITS FALSE NEIGHBOUR: 'it returns false'. Refute it at one input. -/
def crcBurstsWrong : ChangeSpec := { name := "crcBursts", fn := fun _ => fun
  | [d1, d2, d3] => { results := [.lit (.bool false)], args := [d1, d2, d3] }
  | _ => none }
def CrcBurstsWrongFalsely : Prop := crcBurstsRow.holds Tryd.pinned (OpenSpec.ofChange crcBurstsWrong)

/-- 'belvederelaw01.CrcNested': WHATEVER THE INPUT: true; the input reads as it did. -/
def crcNestedSpec : ChangeSpec := { name := "crcNested", fn := fun _ => fun
  | [d1, d2] => { results := [.lit (.bool true)], args := [d1, d2] }
  | _ => none }
def crcNestedRow : OpenClaim := { program := "ytgaklpmedgcglaadoor", sum := "6498c106a74dabebc7c79cd0f6037a99a08376252481ba248956acd01dee59bf", func := "belvedere/belvederelaw01.CrcNested", spec := "crcNested", inPlace := ["internal/reflectlite.ValueOf", "(internal/reflectlite.Value).Type", "(internal/reflectlite.Value).IsNil", "internal/reflectlite.TypeOf", "(internal/reflectlite.Value).Elem", "(internal/reflectlite.Value).Set"], unfollowed := true, recurses := true, named := ["belvedere/crc.steps", "errors.errorType"], apart := false, laid := [("errors.errorType", laid_errors_errorType), ("belvedere/crc.steps", laid_belvedere_crc_steps)] }
def CrcNestedSaid : Prop := crcNestedRow.holds Tryd.pinned (OpenSpec.ofChange crcNestedSpec)

/-- ITS FALSE NEIGHBOUR: 'it returns false'. Refute it at one input. -/
def crcNestedWrong : ChangeSpec := { name := "crcNested", fn := fun _ => fun
  | [d1, d2] => { results := [.lit (.bool false)], args := [d1, d2] }
  | _ => none }
def CrcNestedWrongFalsely : Prop := crcNestedRow.holds Tryd.pinned (OpenSpec.ofChange crcNestedWrong)

/-- 'belvederelaw01.CrcShort': WHATEVER THE INPUT: true; the input reads as it did. -/
def crcShortSpec : ChangeSpec := { name := "crcShort", fn := fun _ => fun
  | [d] => { results := [.lit (.bool true)], args := [d] }
  | _ => none }
def crcShortRow : OpenClaim := { program := "ytgaklpmedgcglaadoor", sum := "6498c106a74dabebc7c79cd0f6037a99a08376252481ba248956acd01dee59bf", func := "belvedere/belvederelaw01.CrcShort", spec := "crcShort", inPlace := ["internal/reflectlite.ValueOf", "(internal/reflectlite.Value).Type", "(internal/reflectlite.Value).IsNil", "internal/reflectlite.TypeOf", "(internal/reflectlite.Value).Elem", "(internal/reflectlite.Value).Set"], unfollowed := true, recurses := true, named := ["belvedere/crc.steps", "errors.errorType"], apart := false, laid := [("errors.errorType", laid_errors_errorType), ("belvedere/crc.steps", laid_belvedere_crc_steps)] }
def CrcShortSaid : Prop := crcShortRow.holds Tryd.pinned (OpenSpec.ofChange crcShortSpec)

/-- ITS FALSE NEIGHBOUR: 'it returns false'. Refute it at one input. -/
def crcShortWrong : ChangeSpec := { name := "crcShort", fn := fun _ => fun
  | [d] => { results := [.lit (.bool false)], args := [d] }
  | _ => none }
def CrcShortWrongFalsely : Prop := crcShortRow.holds Tryd.pinned (OpenSpec.ofChange crcShortWrong)

/- THE SECOND FORM. 'bulk': how many values and letters a reading holds, each counted each time it is reached (what is shared counts as often as it is met; a slice's spare places count too). A statement '..UptoSaid' is the law's where the arguments, and the package variables that the reading takes, are together of bulk at most 1048576: NARROWER than '..Said'. Prove '..Said' where nothing that the law and all that it calls make is longer than what came in: it says more and counts as full. Else prove '..UptoSaid'. A law counts once. -/
mutual
def uptoBulk {H : Type} : DataW H → Nat
  | .lit (.string bytes) => bytes.length + 1
  | .lit _ => 1
  | .nil => 1
  | .ptr d => uptoBulk d + 1
  | .slice elems spare => uptoBulkAll elems + uptoBulkAll spare + 1
  | .agg parts => uptoBulkAll parts + 1
  | .iface _ d => uptoBulk d + 1
  | .map entries => uptoBulkEntries entries + 1
  | .held _ => 1
def uptoBulkAll {H : Type} : List (DataW H) → Nat
  | [] => 0
  | d :: r => uptoBulk d + uptoBulkAll r
def uptoBulkEntries {H : Type} : List (Lit × DataW H) → Nat
  | [] => 0
  | x :: r => uptoBulkEntry x + uptoBulkEntries r
def uptoBulkEntry {H : Type} : Lit × DataW H → Nat
  | (.string bytes, d) => bytes.length + uptoBulk d + 1
  | (_, d) => uptoBulk d + 1
 end
def uptoSmall : (H : Type) → List (DataW H) → Bool := fun _ ds => decide (uptoBulkAll ds ≤ 1048576)
def OpenSpec.upto (s : _root_.Go.ChangeSpec) : _root_.Go.OpenSpec := { _root_.Go.OpenSpec.ofChange s with cond := some uptoSmall }

/-- 'belvederelaw01.CrcSums', WHERE WHAT IT READS IS OF BULK AT MOST 1048576: true; the input reads as it did. -/
def crcSumsUptoRow : OpenClaim := { program := "ytgaklpmedgcglaadoor", sum := "6498c106a74dabebc7c79cd0f6037a99a08376252481ba248956acd01dee59bf", func := "belvedere/belvederelaw01.CrcSums", spec := "crcSums", named := ["belvedere/crc.steps"], apart := false, laid := [("belvedere/crc.steps", laid_belvedere_crc_steps)], narrowed := true }
def CrcSumsUptoSaid : Prop := crcSumsUptoRow.holds Tryd.pinned (OpenSpec.upto crcSumsSpec)

/-- 'belvederelaw01.CrcParts', WHERE WHAT IT READS IS OF BULK AT MOST 1048576: true; the input reads as it did. -/
def crcPartsUptoRow : OpenClaim := { program := "ytgaklpmedgcglaadoor", sum := "6498c106a74dabebc7c79cd0f6037a99a08376252481ba248956acd01dee59bf", func := "belvedere/belvederelaw01.CrcParts", spec := "crcParts", named := ["belvedere/crc.steps"], apart := false, laid := [("belvedere/crc.steps", laid_belvedere_crc_steps)], narrowed := true }
def CrcPartsUptoSaid : Prop := crcPartsUptoRow.holds Tryd.pinned (OpenSpec.upto crcPartsSpec)

/-- 'belvederelaw01.CrcMixed', WHERE WHAT IT READS IS OF BULK AT MOST 1048576: true; the input reads as it did. -/
def crcMixedUptoRow : OpenClaim := { program := "ytgaklpmedgcglaadoor", sum := "6498c106a74dabebc7c79cd0f6037a99a08376252481ba248956acd01dee59bf", func := "belvedere/belvederelaw01.CrcMixed", spec := "crcMixed", named := ["belvedere/crc.steps"], apart := false, laid := [("belvedere/crc.steps", laid_belvedere_crc_steps)], narrowed := true }
def CrcMixedUptoSaid : Prop := crcMixedUptoRow.holds Tryd.pinned (OpenSpec.upto crcMixedSpec)

/-- 'belvederelaw01.CrcSeals', WHERE WHAT IT READS IS OF BULK AT MOST 1048576: true; the input reads as it did. -/
def crcSealsUptoRow : OpenClaim := { program := "ytgaklpmedgcglaadoor", sum := "6498c106a74dabebc7c79cd0f6037a99a08376252481ba248956acd01dee59bf", func := "belvedere/belvederelaw01.CrcSeals", spec := "crcSeals", inPlace := ["internal/reflectlite.ValueOf", "(internal/reflectlite.Value).Type", "(internal/reflectlite.Value).IsNil", "internal/reflectlite.TypeOf", "(internal/reflectlite.Value).Elem", "(internal/reflectlite.Value).Set"], unfollowed := true, recurses := true, named := ["belvedere/crc.steps", "errors.errorType"], apart := false, laid := [("errors.errorType", laid_errors_errorType), ("belvedere/crc.steps", laid_belvedere_crc_steps)], narrowed := true }
def CrcSealsUptoSaid : Prop := crcSealsUptoRow.holds Tryd.pinned (OpenSpec.upto crcSealsSpec)

/-- 'belvederelaw01.CrcBursts', WHERE WHAT IT READS IS OF BULK AT MOST 1048576: true; the input reads as it did. -/
def crcBurstsUptoRow : OpenClaim := { program := "ytgaklpmedgcglaadoor", sum := "6498c106a74dabebc7c79cd0f6037a99a08376252481ba248956acd01dee59bf", func := "belvedere/belvederelaw01.CrcBursts", spec := "crcBursts", inPlace := ["internal/reflectlite.ValueOf", "(internal/reflectlite.Value).Type", "(internal/reflectlite.Value).IsNil", "internal/reflectlite.TypeOf", "(internal/reflectlite.Value).Elem", "(internal/reflectlite.Value).Set"], unfollowed := true, recurses := true, named := ["belvedere/crc.steps", "errors.errorType"], apart := false, laid := [("errors.errorType", laid_errors_errorType), ("belvedere/crc.steps", laid_belvedere_crc_steps)], narrowed := true }
def CrcBurstsUptoSaid : Prop := crcBurstsUptoRow.holds Tryd.pinned (OpenSpec.upto crcBurstsSpec)

/-- 'belvederelaw01.CrcNested', WHERE WHAT IT READS IS OF BULK AT MOST 1048576: true; the input reads as it did. -/
def crcNestedUptoRow : OpenClaim := { program := "ytgaklpmedgcglaadoor", sum := "6498c106a74dabebc7c79cd0f6037a99a08376252481ba248956acd01dee59bf", func := "belvedere/belvederelaw01.CrcNested", spec := "crcNested", inPlace := ["internal/reflectlite.ValueOf", "(internal/reflectlite.Value).Type", "(internal/reflectlite.Value).IsNil", "internal/reflectlite.TypeOf", "(internal/reflectlite.Value).Elem", "(internal/reflectlite.Value).Set"], unfollowed := true, recurses := true, named := ["belvedere/crc.steps", "errors.errorType"], apart := false, laid := [("errors.errorType", laid_errors_errorType), ("belvedere/crc.steps", laid_belvedere_crc_steps)], narrowed := true }
def CrcNestedUptoSaid : Prop := crcNestedUptoRow.holds Tryd.pinned (OpenSpec.upto crcNestedSpec)

/-- 'belvederelaw01.CrcShort', WHERE WHAT IT READS IS OF BULK AT MOST 1048576: true; the input reads as it did. -/
def crcShortUptoRow : OpenClaim := { program := "ytgaklpmedgcglaadoor", sum := "6498c106a74dabebc7c79cd0f6037a99a08376252481ba248956acd01dee59bf", func := "belvedere/belvederelaw01.CrcShort", spec := "crcShort", inPlace := ["internal/reflectlite.ValueOf", "(internal/reflectlite.Value).Type", "(internal/reflectlite.Value).IsNil", "internal/reflectlite.TypeOf", "(internal/reflectlite.Value).Elem", "(internal/reflectlite.Value).Set"], unfollowed := true, recurses := true, named := ["belvedere/crc.steps", "errors.errorType"], apart := false, laid := [("errors.errorType", laid_errors_errorType), ("belvedere/crc.steps", laid_belvedere_crc_steps)], narrowed := true }
def CrcShortUptoSaid : Prop := crcShortUptoRow.holds Tryd.pinned (OpenSpec.upto crcShortSpec)

end Rows
end Go.Proofs.YtgaklpmedgcglaaDoor
