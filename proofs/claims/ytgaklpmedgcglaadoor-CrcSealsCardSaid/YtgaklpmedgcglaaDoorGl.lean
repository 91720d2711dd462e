/- What the listed package-level variables hold, as one premise of the walks: kept by whatever leaves the elder blocks alone. -/
import Derived.Test.YtgaklpmedgcglaaDoorMine
import Derived.Test.YtgaklpmedgcglaaDoorProg
import Derived.Test.YtgaklpmedgcglaaDoorNum
namespace Go.Proofs.YtgaklpmedgcglaaDoor
open Go.RowKit
structure GL (w : World) : Prop where
  size : 2 ≤ w.heap.size
  err : w.cell? ⟨1, 0, none⟩ = some (.iface 64 (.agg #[.pointer (some ⟨2, 32, none⟩)]))
  steps : ∀ j, j < 16 → w.cell? ⟨0, j, none⟩ = some (.int .u32 (([0, 498536548, 997073096, 651767980, 1994146192, 1802195444, 1303535960, 1342533948, 3988292384, 4027552580, 3604390888, 3412177804, 2607071920, 2262029012, 2685067896, 3183342108] : List Int).getD j 0))
theorem GL.below {w w1 : World} (h : GL w) (hb : Below w.heap.size w w1) : GL w1 where
  size := Nat.le_trans h.size hb.size
  err := (hb.cell (p := ⟨1, 0, none⟩) (Nat.lt_of_lt_of_le (by decide) h.size)).trans h.err
  steps := fun j hj => (hb.cell (p := ⟨0, j, none⟩) (Nat.lt_of_lt_of_le (show 0 < 2 by decide) h.size)).trans (h.steps j hj)
theorem GL.drewN {w : World} (h : GL w) (n : Nat) : GL (w.drewN n) := h.below ((Below.refl _ _).trans ⟨rfl, rfl, rfl, Nat.le_refl _, fun _ _ => rfl⟩)
theorem GL.drew {w : World} (h : GL w) : GL w.drew := h.below ⟨rfl, rfl, rfl, Nat.le_refl _, fun _ _ => rfl⟩
theorem GL.alloc {w : World} (h : GL w) (o : Obj) : GL (w.alloc o) := h.below ((Below.refl _ _).alloc (Nat.le_refl _) o)
end Go.Proofs.YtgaklpmedgcglaaDoor
