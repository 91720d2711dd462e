/- What the listed package-level variables hold, as one premise of the walks: kept by whatever leaves the elder blocks alone. -/
import Derived.Test.YtgmdaaenhmclfaaDoorMine
import Derived.Test.YtgmdaaenhmclfaaDoorProg
import Derived.Test.YtgmdaaenhmclfaaDoorNum
namespace Go.Proofs.YtgmdaaenhmclfaaDoor
open Go.RowKit
structure GL (w : World) : Prop where
  size : 1 ≤ w.heap.size
  err : w.cell? ⟨0, 0, none⟩ = some (.iface 96 (.agg #[.pointer (some ⟨1, 35, none⟩)]))
theorem GL.below {w w1 : World} (h : GL w) (hb : Below w.heap.size w w1) : GL w1 where
  size := Nat.le_trans h.size hb.size
  err := (hb.cell (p := ⟨0, 0, none⟩) (Nat.lt_of_lt_of_le (by decide) h.size)).trans h.err
theorem GL.drewN {w : World} (h : GL w) (n : Nat) : GL (w.drewN n) := h.below ((Below.refl _ _).trans ⟨rfl, rfl, rfl, Nat.le_refl _, fun _ _ => rfl⟩)
theorem GL.drew {w : World} (h : GL w) : GL w.drew := h.below ⟨rfl, rfl, rfl, Nat.le_refl _, fun _ _ => rfl⟩
theorem GL.alloc {w : World} (h : GL w) (o : Obj) : GL (w.alloc o) := h.below ((Below.refl _ _).alloc (Nat.le_refl _) o)
end Go.Proofs.YtgmdaaenhmclfaaDoor
