/- What the table of powers of ten holds, as a premise of the walks: kept by whatever leaves the elder blocks alone. -/
import Derived.Test.YtegiikkbeknodaaDoorMine
import Derived.Test.YtegiikkbeknodaaDoorProg
import Derived.Lib.AppendIntMem
namespace Go.Proofs.YtegiikkbeknodaaDoor
open Go.RowKit
structure GS (w : World) : Prop where
  size : 9 ≤ w.heap.size
  tab : Lib.TabIs Tryd.prog w "internal/strconv.uint64pow10" .u64 Lib.pow10Tab
theorem GS.below {w w1 : World} (h : GS w) (hb : Below w.heap.size w w1) : GS w1 where
  size := Nat.le_trans h.size hb.size
  tab := ((Lib.tabBelow_of_tabIs h.tab).on hb).here
theorem GS.drewN {w : World} (h : GS w) (n : Nat) : GS (w.drewN n) := h.below ((Below.refl _ _).trans ⟨rfl, rfl, rfl, Nat.le_refl _, fun _ _ => rfl⟩)
theorem GS.drew {w : World} (h : GS w) : GS w.drew := h.below ⟨rfl, rfl, rfl, Nat.le_refl _, fun _ _ => rfl⟩
theorem GS.alloc {w : World} (h : GS w) (o : Obj) : GS (w.alloc o) := h.below ((Below.refl _ _).alloc (Nat.le_refl _) o)
end Go.Proofs.YtegiikkbeknodaaDoor
