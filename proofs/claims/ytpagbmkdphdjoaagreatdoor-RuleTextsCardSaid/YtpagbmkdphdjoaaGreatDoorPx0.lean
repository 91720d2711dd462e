-- written by myprint.py (this claim's own program, after the kit's print)
import Derived.Test.YtpagbmkdphdjoaaGreatDoorProg
import Derived.Below
import Derived.Deep.Draws
import Derived.Deep.AppendLies
import Derived.Maps.AppendAt
import Derived.OwnWalk
import Derived.Laws.BytesArg
import Derived.Laws.MakeOwn
import Derived.Laws.OwnMore
import Derived.Deep.OwnRows
import Derived.Tactics
import Derived.Lib.ConvBytes
import Derived.Laws.Slices
import Derived.WalkKit
import Derived.KernelRfl
import Derived.RowKit3
import Derived.Deep.LoopGhost
import Derived.Deep.QuietTactic
import Derived.BigQuiet
import Derived.WideLaws
import Derived.Deep.DeepCutAuto
import Derived.Deep.CutBlock
import Derived.Deep.RegionHeld3
import Derived.Laws.Rows
import Derived.Lib.AppendStr
import Derived.ArgAppend
import Derived.Laws.IdiomCopy
import Derived.OrdersHeld
import Derived.Laws.BitsLemmas
import Derived.RowKit
import Derived.Test.YtpagbmkdphdjoaaGreatDoorMine
import Derived.Test.YtpagbmkdphdjoaaGreatDoorGl
import Derived.Test.YtpagbmkdphdjoaaGreatDoorWWords
import Derived.Test.YtpagbmkdphdjoaaGreatDoorWLast
import Derived.Test.YtpagbmkdphdjoaaGreatDoorWTab
import Derived.Test.YtpagbmkdphdjoaaGreatDoorWQPut
import Derived.Test.YtpagbmkdphdjoaaGreatDoorWApart
import Derived.Test.YtpagbmkdphdjoaaGreatDoorWFoot
import Derived.Test.YtpagbmkdphdjoaaGreatDoorWKept
import Derived.Test.YtpagbmkdphdjoaaGreatDoorWShare
import Derived.Test.YtpagbmkdphdjoaaGreatDoorWN
import Derived.Test.YtpagbmkdphdjoaaGreatDoorWEqStruct
import Derived.Test.YtpagbmkdphdjoaaGreatDoorWRepsOne
import Derived.Test.YtpagbmkdphdjoaaGreatDoorWInv
import Derived.Test.YtpagbmkdphdjoaaGreatDoorWGuard
import Derived.Test.YtpagbmkdphdjoaaGreatDoorWMore
namespace Go.Proofs.YtpagbmkdphdjoaaGreatDoor.P
open Go.RowKit Go.Proofs.YtpagbmkdphdjoaaGreatDoorW.PrintWords Go.Proofs.YtpagbmkdphdjoaaGreatDoorW.PrintLast Go.Proofs.YtpagbmkdphdjoaaGreatDoorW.PrintMore
attribute [local go_sem] max2_int min2_int max_two min_two max_three min_three max_four min_four   -- for this text's walks alone
set_option linter.unusedVariables false
set_option linter.unusedSimpArgs false



def errW : Option Int → Value
  | none => .nilIface
  | some c => .iface 49 (.int .i64 c)
theorem errW_none : errW none = .nilIface := rfl
theorem errW_some (c : Int) : errW (some c) = .iface 49 (.int .i64 c) := rfl

theorem info9 : (Tryz.prog.info? 9).map (fun i => (i.zero, i.size, i.bytes)) = some (some (.string ⟨#[]⟩), 1, 16) := by kernel_rfl
-- the values' own types
/-! #### struct type 30 -/
structure S30 where
  f0 : Int
  f1 : Int
  f2 : Int
/-! #### struct type 70 -/
structure S70 where
  f0 : Int
  f1 : Int
  f2 : Int
def z70 : S70 := ⟨(0 : Int), (0 : Int), (0 : Int)⟩
end Go.Proofs.YtpagbmkdphdjoaaGreatDoor.P
