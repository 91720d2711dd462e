/- '[]byte(s)' in the print's form. -/
import Derived.Test.YtfcnmjbmoiacaaaDoorPx0
import Derived.Test.YtfcnmjbmoiacaaaDoorMineB
namespace Go.Proofs.YtfcnmjbmoiacaaaDoor.P
open Go.RowKit Go.Proofs.YtfcnmjbmoiacaaaDoorW.PrintWords Go.Proofs.YtfcnmjbmoiacaaaDoorW.PrintLast Go.Proofs.YtfcnmjbmoiacaaaDoorW.PrintMore
def bytesConv.f (a0 : ByteArray) : Option (List Int) := if a0.size ≤ 140737488355328 then some (bytesOf a0) else none
theorem bytesConv.calls (a0 : ByteArray) (r : List Int) (w : World) (h : bytesConv.f a0 = some r) :
    ConvB Tryd.prog 9 22 a0 w fun e w' => ∃ v0_ : Value, e = .returned (v0_) ∧ Kd.V (Kd.int .u8) 5 w' w.heap.size (fun k_ => (w.heap.size ≤ k_)) v0_ r ∧ Below w.heap.size w w' := by
  unfold bytesConv.f at h
  by_cases hn : a0.size ≤ 140737488355328
  · rw [if_pos hn] at h
    obtain rfl := Option.some.inj h
    exact conv_bytes Tryd.underlying9 Tryd.underlying22 Tryd.underlying5 a0 hn w
  · rw [if_neg hn] at h
    cases h
end Go.Proofs.YtfcnmjbmoiacaaaDoor.P
