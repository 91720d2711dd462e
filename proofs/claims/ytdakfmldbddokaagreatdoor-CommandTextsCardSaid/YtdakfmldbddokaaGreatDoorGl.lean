/- What the listed variables hold (the words of commands too), the package's limit, and what the handle of errors holds, as a premise of the walks of layer 20. -/
import Derived.Test.YtdakfmldbddokaaGreatDoorMine
import Derived.Test.YtdakfmldbddokaaGreatDoorProg
import Derived.Lib.AppendIntMem
import Derived.Test.YtdakfmldbddokaaGreatDoorNum
namespace Go.Proofs.YtdakfmldbddokaaGreatDoor
open Go.RowKit
/-- The words of the codes. -/
def wordCells : Array Value := #[.string ⟨#[]⟩, .string ⟨#[100, 111, 119, 110]⟩, .string ⟨#[117, 110, 100, 111, 119, 110]⟩, .string ⟨#[97, 99, 107]⟩, .string ⟨#[117, 110, 97, 99, 107]⟩, .string ⟨#[101, 110, 97, 98, 108, 101]⟩, .string ⟨#[100, 105, 115, 97, 98, 108, 101]⟩, .string ⟨#[99, 104, 101, 99, 107]⟩, .string ⟨#[114, 101, 115, 117, 108, 116]⟩, .string ⟨#[116, 101, 108, 108]⟩]
structure GL (w : World) : Prop where
  size : 10 ≤ w.heap.size
  tab : Lib.TabIs Tryz.prog w "internal/strconv.uint64pow10" .u64 Lib.pow10Tab
  lim : ∃ m : Int, w.cell? ⟨2, 0, none⟩ = some (.int .i64 m)
  syn : ∃ (te : TypeId) (pe : Value), w.cell? ⟨4, 0, none⟩ = some (.iface te pe)
  rng : ∃ (te : TypeId) (pe : Value), w.cell? ⟨5, 0, none⟩ = some (.iface te pe)
  err : w.cell? ⟨1, 0, none⟩ = some (.iface 106 (.agg #[.pointer (some ⟨10, 27, none⟩)]))
  words : ∃ (T : TypeId) (fr : Nat × Nat), w.heap[0]? = some (.cells wordCells T fr)
theorem GL.below {w w1 : World} (h : GL w) (hb : Below w.heap.size w w1) : GL w1 where
  size := Nat.le_trans h.size hb.size
  tab := ((Lib.tabBelow_of_tabIs h.tab).on hb).here
  lim := h.lim.imp fun _ e => (hb.cell (p := ⟨2, 0, none⟩) (Nat.lt_of_lt_of_le (show 2 < 10 by decide) h.size)).trans e
  syn := h.syn.imp fun _ e => e.imp fun _ e => (hb.cell (p := ⟨4, 0, none⟩) (Nat.lt_of_lt_of_le (show 4 < 10 by decide) h.size)).trans e
  rng := h.rng.imp fun _ e => e.imp fun _ e => (hb.cell (p := ⟨5, 0, none⟩) (Nat.lt_of_lt_of_le (show 5 < 10 by decide) h.size)).trans e
  err := (hb.cell (p := ⟨1, 0, none⟩) (Nat.lt_of_lt_of_le (by decide) h.size)).trans h.err
  words := h.words.imp fun _ e => e.imp fun _ e => (hb.block 0 (Nat.lt_of_lt_of_le (by decide) h.size)).trans e
theorem GL.drewN {w : World} (h : GL w) (n : Nat) : GL (w.drewN n) := h.below ((Below.refl _ _).trans ⟨rfl, rfl, rfl, Nat.le_refl _, fun _ _ => rfl⟩)
theorem GL.drew {w : World} (h : GL w) : GL w.drew := h.below ⟨rfl, rfl, rfl, Nat.le_refl _, fun _ _ => rfl⟩
theorem GL.alloc {w : World} (h : GL w) (o : Obj) : GL (w.alloc o) := h.below ((Below.refl _ _).alloc (Nat.le_refl _) o)
end Go.Proofs.YtdakfmldbddokaaGreatDoor
