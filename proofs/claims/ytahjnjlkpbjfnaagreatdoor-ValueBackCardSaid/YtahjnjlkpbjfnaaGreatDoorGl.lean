/- What the listed variables hold, and the package's limit, and what the handle of errors holds, as a premise of the walks of layer 6. -/
import Derived.Test.YtahjnjlkpbjfnaaGreatDoorMine
import Derived.Test.YtahjnjlkpbjfnaaGreatDoorProg
import Derived.Lib.AppendIntMem
import Derived.Test.YtahjnjlkpbjfnaaGreatDoorNum
namespace Go.Proofs.YtahjnjlkpbjfnaaGreatDoor
open Go.RowKit
structure GL (w : World) : Prop where
  size : 9 ≤ w.heap.size
  tab : Lib.TabIs Tryz.prog w "internal/strconv.uint64pow10" .u64 Lib.pow10Tab
  lim : ∃ m : Int, w.cell? ⟨1, 0, none⟩ = some (.int .i64 m)
  syn : ∃ (te : TypeId) (pe : Value), w.cell? ⟨2, 0, none⟩ = some (.iface te pe)
  rng : ∃ (te : TypeId) (pe : Value), w.cell? ⟨3, 0, none⟩ = some (.iface te pe)
  err : w.cell? ⟨0, 0, none⟩ = some (.iface 116 (.agg #[.pointer (some ⟨9, 26, none⟩)]))
theorem GL.below {w w1 : World} (h : GL w) (hb : Below w.heap.size w w1) : GL w1 where
  size := Nat.le_trans h.size hb.size
  tab := ((Lib.tabBelow_of_tabIs h.tab).on hb).here
  lim := h.lim.imp fun _ e => (hb.cell (p := ⟨1, 0, none⟩) (Nat.lt_of_lt_of_le (show 1 < 9 by decide) h.size)).trans e
  syn := h.syn.imp fun _ e => e.imp fun _ e => (hb.cell (p := ⟨2, 0, none⟩) (Nat.lt_of_lt_of_le (show 2 < 9 by decide) h.size)).trans e
  rng := h.rng.imp fun _ e => e.imp fun _ e => (hb.cell (p := ⟨3, 0, none⟩) (Nat.lt_of_lt_of_le (show 3 < 9 by decide) h.size)).trans e
  err := (hb.cell (p := ⟨0, 0, none⟩) (Nat.lt_of_lt_of_le (by decide) h.size)).trans h.err
theorem GL.drewN {w : World} (h : GL w) (n : Nat) : GL (w.drewN n) := h.below ((Below.refl _ _).trans ⟨rfl, rfl, rfl, Nat.le_refl _, fun _ _ => rfl⟩)
theorem GL.drew {w : World} (h : GL w) : GL w.drew := h.below ⟨rfl, rfl, rfl, Nat.le_refl _, fun _ _ => rfl⟩
theorem GL.alloc {w : World} (h : GL w) (o : Obj) : GL (w.alloc o) := h.below ((Below.refl _ _).alloc (Nat.le_refl _) o)
end Go.Proofs.YtahjnjlkpbjfnaaGreatDoor
