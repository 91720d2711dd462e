-- written by myprint.py (this claim's own program, after the kit's print)
import Derived.Test.YtpagbmkdphdjoaaDoorPx0
namespace Go.Proofs.YtpagbmkdphdjoaaDoor.P
open Go.RowKit Go.Proofs.YtpagbmkdphdjoaaDoorW.PrintWords Go.Proofs.YtpagbmkdphdjoaaDoorW.PrintLast Go.Proofs.YtpagbmkdphdjoaaDoorW.PrintMore
attribute [local go_sem] max2_int min2_int max_two min_two max_three min_three max_four min_four   -- for this text's walks alone
set_option linter.unusedVariables false
set_option linter.unusedSimpArgs false

/-! ### rule_ahead: function 13 -/
def rule_ahead.f (a0 : Int) : Option (Int) := some (wrap64 (Int.tdiv (wrap64 ((wrap64 (a0 + 7)) - 1)) 7))
set_option maxHeartbeats 8000000 in
set_option maxRecDepth 100000 in
theorem rule_ahead.calls (a0 : Int) (r : Int) (w : World) (h : rule_ahead.f a0 = some r) :
    Calls Tryd.prog 13 #[.int .i64 a0] w fun e w' => e = .returned (.int .i64 r) ∧ Drawn0 w w' := by
  have H : (some (wrap64 (Int.tdiv (wrap64 ((wrap64 (a0 + 7)) - 1)) 7))) = some r := h
  clear h
  obtain rfl := Option.some.inj H
  go_enter Tryd.func13, Tryd.ntmps13
  go_wp2
  go_ret
  exact ⟨by first | rfl | (simp; done) | (simp [*]; done) | (simp; unfold wrap64; omega), by repeat (first | exact Drawn0.refl _ | apply Drawn0.step)⟩

end Go.Proofs.YtpagbmkdphdjoaaDoor.P
