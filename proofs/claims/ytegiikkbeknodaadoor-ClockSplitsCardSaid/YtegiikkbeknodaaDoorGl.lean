/- What the listed variables hold, as a premise of the walks: the table of powers of ten, the type of error. -/
import Derived.Test.YtegiikkbeknodaaDoorMine
import Derived.Test.YtegiikkbeknodaaDoorProg
import Derived.Test.YtegiikkbeknodaaDoorNum
import Derived.Lib.AppendIntMem
namespace Go.Proofs.YtegiikkbeknodaaDoor
open Go.RowKit
structure GL (w : World) : Prop where
  size : 9 ≤ w.heap.size
  tab : Lib.TabIs Tryd.prog w "internal/strconv.uint64pow10" .u64 Lib.pow10Tab
  err : w.cell? ⟨0, 0, none⟩ = some (.iface 86 (.agg #[.pointer (some ⟨9, 26, none⟩)]))
theorem GL.below {w w1 : World} (h : GL w) (hb : Below w.heap.size w w1) : GL w1 where
  size := Nat.le_trans h.size hb.size
  tab := ((Lib.tabBelow_of_tabIs h.tab).on hb).here
  err := (hb.cell (p := ⟨0, 0, none⟩) (Nat.lt_of_lt_of_le (by decide) h.size)).trans h.err
theorem GL.drewN {w : World} (h : GL w) (n : Nat) : GL (w.drewN n) := h.below ((Below.refl _ _).trans ⟨rfl, rfl, rfl, Nat.le_refl _, fun _ _ => rfl⟩)
theorem GL.drew {w : World} (h : GL w) : GL w.drew := h.below ⟨rfl, rfl, rfl, Nat.le_refl _, fun _ _ => rfl⟩
theorem GL.alloc {w : World} (h : GL w) (o : Obj) : GL (w.alloc o) := h.below ((Below.refl _ _).alloc (Nat.le_refl _) o)
end Go.Proofs.YtegiikkbeknodaaDoor
