/- What the listed variables hold, and the package's limit, as a premise of the walks of layer 6. -/
import Derived.Test.YtpagbmkdphdjoaaDoorMine
import Derived.Test.YtpagbmkdphdjoaaDoorProg
import Derived.Lib.AppendIntMem
namespace Go.Proofs.YtpagbmkdphdjoaaDoor
open Go.RowKit
structure GR (w : World) : Prop where
  size : 8 ≤ w.heap.size
  tab : Lib.TabIs Tryd.prog w "internal/strconv.uint64pow10" .u64 Lib.pow10Tab
  lim : ∃ m : Int, w.cell? ⟨0, 0, none⟩ = some (.int .i64 m)
  syn : ∃ (te : TypeId) (pe : Value), w.cell? ⟨1, 0, none⟩ = some (.iface te pe)
  rng : ∃ (te : TypeId) (pe : Value), w.cell? ⟨2, 0, none⟩ = some (.iface te pe)
theorem GR.below {w w1 : World} (h : GR w) (hb : Below w.heap.size w w1) : GR w1 where
  size := Nat.le_trans h.size hb.size
  tab := ((Lib.tabBelow_of_tabIs h.tab).on hb).here
  lim := h.lim.imp fun _ e => (hb.cell (p := ⟨0, 0, none⟩) (Nat.lt_of_lt_of_le (show 0 < 8 by decide) h.size)).trans e
  syn := h.syn.imp fun _ e => e.imp fun _ e => (hb.cell (p := ⟨1, 0, none⟩) (Nat.lt_of_lt_of_le (show 1 < 8 by decide) h.size)).trans e
  rng := h.rng.imp fun _ e => e.imp fun _ e => (hb.cell (p := ⟨2, 0, none⟩) (Nat.lt_of_lt_of_le (show 2 < 8 by decide) h.size)).trans e
theorem GR.drewN {w : World} (h : GR w) (n : Nat) : GR (w.drewN n) := h.below ((Below.refl _ _).trans ⟨rfl, rfl, rfl, Nat.le_refl _, fun _ _ => rfl⟩)
theorem GR.drew {w : World} (h : GR w) : GR w.drew := h.below ⟨rfl, rfl, rfl, Nat.le_refl _, fun _ _ => rfl⟩
theorem GR.alloc {w : World} (h : GR w) (o : Obj) : GR (w.alloc o) := h.below ((Below.refl _ _).alloc (Nat.le_refl _) o)
end Go.Proofs.YtpagbmkdphdjoaaDoor
