/- The contract of the law's function 'num', in the print's form. -/
import Derived.Test.YtdakfmldbddokaaGreatDoorPx0
import Derived.Test.YtdakfmldbddokaaGreatDoorGl
namespace Go.Proofs.YtdakfmldbddokaaGreatDoor.P
open Go.RowKit Go.Proofs.YtdakfmldbddokaaGreatDoorW.PrintWords Go.Proofs.YtdakfmldbddokaaGreatDoorW.PrintLast
def w2n.f (a0 : Option Int) : Option Int := some (a0.getD 0)
theorem num_nil (w : World) : Calls Tryz.prog 12 #[.nilIface] w fun e w' => e = .returned (.int .i64 0) ∧ Below w.heap.size w w' := by
  go_enter Tryz.func12, Tryz.ntmps12
  go_wp2
  go_ret
  exact ⟨rfl, (Below.refl _ _).alloc (Nat.le_refl _) _⟩
set_option maxHeartbeats 1000000 in
theorem num_some (n : Int) (w : World) (hG : GL w) : Calls Tryz.prog 12 #[.iface 45 (.int .i64 n)] w fun e w' => e = .returned (.int .i64 n) ∧ Below w.heap.size w w' := by
  have hA := as_hit n ⟨w.heap.size, 0, none⟩ (.int .i64 0) (w.alloc (.cells #[.int .i64 0] 45)) (hG.alloc _).err (Nat.lt_of_lt_of_le (by decide) (hG.alloc _).size) (by simp) (by simp)
  clear hG
  go_enter Tryz.func12, Tryz.ntmps12
  go_wp2_with (go_at_call 26; refine hA.mono ?_; rintro e w' ⟨rfl, rfl⟩)
  go_ret
  exact ⟨rfl, below_alloc (below_alloc (below_alloc (below_alloc (below_alloc (Below.refl _ _) _) _) _) _) _⟩
theorem w2n.calls (a0 : Option Int) (r : Int) (w : World) (h : w2n.f a0 = some r) (hG : GL w) :
    Calls Tryz.prog 12 #[errW a0] w fun e w' => e = .returned (.int .i64 r) ∧ Below w.heap.size w w' := by
  cases a0 with
  | none => obtain rfl := Option.some.inj h; exact num_nil w
  | some n => obtain rfl := Option.some.inj h; exact num_some n w hG
end Go.Proofs.YtdakfmldbddokaaGreatDoor.P
