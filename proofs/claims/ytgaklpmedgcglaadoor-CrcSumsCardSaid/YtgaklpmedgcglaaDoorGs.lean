/- What the table of layer 1 holds, as a premise of the walks: kept by whatever leaves the elder blocks alone. -/
import Derived.Test.YtgaklpmedgcglaaDoorMine
import Derived.Test.YtgaklpmedgcglaaDoorProg
namespace Go.Proofs.YtgaklpmedgcglaaDoor
open Go.RowKit
structure GS (w : World) : Prop where
  size : 2 ≤ w.heap.size
  steps : ∀ j, j < 16 → w.cell? ⟨0, j, none⟩ = some (.int .u32 (([0, 498536548, 997073096, 651767980, 1994146192, 1802195444, 1303535960, 1342533948, 3988292384, 4027552580, 3604390888, 3412177804, 2607071920, 2262029012, 2685067896, 3183342108] : List Int).getD j 0))
theorem GS.below {w w1 : World} (h : GS w) (hb : Below w.heap.size w w1) : GS w1 where
  size := Nat.le_trans h.size hb.size
  steps := fun j hj => (hb.cell (p := ⟨0, j, none⟩) (Nat.lt_of_lt_of_le (show 0 < 2 by decide) h.size)).trans (h.steps j hj)
theorem GS.drewN {w : World} (h : GS w) (n : Nat) : GS (w.drewN n) := h.below ((Below.refl _ _).trans ⟨rfl, rfl, rfl, Nat.le_refl _, fun _ _ => rfl⟩)
theorem GS.drew {w : World} (h : GS w) : GS w.drew := h.below ⟨rfl, rfl, rfl, Nat.le_refl _, fun _ _ => rfl⟩
theorem GS.alloc {w : World} (h : GS w) (o : Obj) : GS (w.alloc o) := h.below ((Below.refl _ _).alloc (Nat.le_refl _) o)
end Go.Proofs.YtgaklpmedgcglaaDoor
