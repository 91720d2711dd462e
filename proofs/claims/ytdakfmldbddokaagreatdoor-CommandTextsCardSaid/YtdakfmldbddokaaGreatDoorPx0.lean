-- written by myprint.py (this claim's own program, after the kit's print)
import Derived.Test.YtdakfmldbddokaaGreatDoorProg
import Derived.Below
import Derived.Deep.Draws
import Derived.Deep.AppendLies
import Derived.Maps.AppendAt
import Derived.OwnWalk
import Derived.Laws.BytesArg
import Derived.Laws.MakeOwn
import Derived.Laws.OwnMore
import Derived.Deep.OwnRows
import Derived.Tactics
import Derived.Lib.ConvBytes
import Derived.Laws.Slices
import Derived.WalkKit
import Derived.KernelRfl
import Derived.RowKit3
import Derived.Deep.LoopGhost
import Derived.Deep.QuietTactic
import Derived.BigQuiet
import Derived.WideLaws
import Derived.Deep.DeepCutAuto
import Derived.Deep.CutBlock
import Derived.Deep.RegionHeld3
import Derived.Laws.Rows
import Derived.Lib.AppendStr
import Derived.ArgAppend
import Derived.Laws.IdiomCopy
import Derived.OrdersHeld
import Derived.Laws.BitsLemmas
import Derived.RowKit
import Derived.Test.YtdakfmldbddokaaGreatDoorMine
import Derived.Test.YtdakfmldbddokaaGreatDoorGl
import Derived.Test.YtdakfmldbddokaaGreatDoorWWords
import Derived.Test.YtdakfmldbddokaaGreatDoorWLast
import Derived.Test.YtdakfmldbddokaaGreatDoorWTab
import Derived.Test.YtdakfmldbddokaaGreatDoorWQPut
import Derived.Test.YtdakfmldbddokaaGreatDoorWApart
import Derived.Test.YtdakfmldbddokaaGreatDoorWFoot
import Derived.Test.YtdakfmldbddokaaGreatDoorWKept
import Derived.Test.YtdakfmldbddokaaGreatDoorWShare
import Derived.Test.YtdakfmldbddokaaGreatDoorWN
import Derived.Test.YtdakfmldbddokaaGreatDoorWAt
import Derived.Laws.StructEq
import Derived.Test.YtdakfmldbddokaaGreatDoorWRepsOne
import Derived.Test.YtdakfmldbddokaaGreatDoorWInv
import Derived.Test.YtdakfmldbddokaaGreatDoorWGuard
import Derived.Test.YtdakfmldbddokaaGreatDoorWMore
namespace Go.Proofs.YtdakfmldbddokaaGreatDoor.P
open Go.RowKit Go.Proofs.YtdakfmldbddokaaGreatDoorW.PrintWords Go.Proofs.YtdakfmldbddokaaGreatDoorW.PrintLast Go.Proofs.YtdakfmldbddokaaGreatDoorW.PrintMore
attribute [local go_sem] max2_int min2_int max_two min_two max_three min_three max_four min_four   -- for this text's walks alone
set_option linter.unusedVariables false
set_option linter.unusedSimpArgs false



def errW : Option Int → Value
  | none => .nilIface
  | some c => .iface 45 (.int .i64 c)
theorem errW_none : errW none = .nilIface := rfl
theorem errW_some (c : Int) : errW (some c) = .iface 45 (.int .i64 c) := rfl

theorem info9 : (Tryz.prog.info? 9).map (fun i => (i.zero, i.size, i.bytes)) = some (some (.string ⟨#[]⟩), 1, 16) := by kernel_rfl
-- the values' own types
end Go.Proofs.YtdakfmldbddokaaGreatDoor.P
