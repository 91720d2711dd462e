/- What the listed variables hold, and the package's limit, as a premise of the walks of ClockBack. -/
import Derived.Test.YtegiikkbeknodaaDoorMine
import Derived.Test.YtegiikkbeknodaaDoorProg
import Derived.Lib.AppendIntMem
namespace Go.Proofs.YtegiikkbeknodaaDoor
open Go.RowKit
structure GB (w : World) : Prop where
  size : 9 ≤ w.heap.size
  tab : Lib.TabIs Tryd.prog w "internal/strconv.uint64pow10" .u64 Lib.pow10Tab
  lim : ∃ m : Int, w.cell? ⟨4, 0, none⟩ = some (.int .i64 m)
theorem GB.below {w w1 : World} (h : GB w) (hb : Below w.heap.size w w1) : GB w1 where
  size := Nat.le_trans h.size hb.size
  tab := ((Lib.tabBelow_of_tabIs h.tab).on hb).here
  lim := h.lim.imp fun _ e => (hb.cell (p := ⟨4, 0, none⟩) (Nat.lt_of_lt_of_le (show 4 < 9 by decide) h.size)).trans e
theorem GB.drewN {w : World} (h : GB w) (n : Nat) : GB (w.drewN n) := h.below ((Below.refl _ _).trans ⟨rfl, rfl, rfl, Nat.le_refl _, fun _ _ => rfl⟩)
theorem GB.drew {w : World} (h : GB w) : GB w.drew := h.below ⟨rfl, rfl, rfl, Nat.le_refl _, fun _ _ => rfl⟩
theorem GB.alloc {w : World} (h : GB w) (o : Obj) : GB (w.alloc o) := h.below ((Below.refl _ _).alloc (Nat.le_refl _) o)
end Go.Proofs.YtegiikkbeknodaaDoor
