/- The contract of strings.Cut, in the print's form, and that of Split: the kit's contracts, laid at this program. -/
import Derived.Test.YtdakfmldbddokaaGreatDoorPx0
import Derived.Test.YtdakfmldbddokaaGreatDoorGl
import Derived.Test.YtdakfmldbddokaaGreatDoorRuShelf
import Derived.Lib.SplitLaws
set_option linter.unusedVariables false
namespace Go.Proofs.YtdakfmldbddokaaGreatDoor.P
open Go.RowKit Go.Proofs.YtdakfmldbddokaaGreatDoorW.PrintWords Go.Proofs.YtdakfmldbddokaaGreatDoorW.PrintLast
def strings_Cut.f (a0 a1 : ByteArray) : Option (ByteArray × ByteArray × Bool) := if a0.size < 4294967281 then some (⟨(Lib.cut a0.data.toList a1.data.toList).1.toArray⟩, ⟨(Lib.cut a0.data.toList a1.data.toList).2.1.toArray⟩, (Lib.cut a0.data.toList a1.data.toList).2.2) else none
theorem strings_Cut.calls (a0 a1 : ByteArray) (r1 r2 : ByteArray) (r3 : Bool) (w : World) (h : strings_Cut.f a0 a1 = some (r1, r2, r3)) (hG : GL w) :
    Calls Tryz.prog 20 #[.string a0, .string a1] w fun e w' => e = .returned (.tuple #[.string r1, .string r2, .bool r3]) ∧ Below w.heap.size w w' := by
  unfold strings_Cut.f at h
  split at h
  case isFalse => cases h
  case isTrue hs =>
    simp only [Option.some.injEq, Prod.mk.injEq] at h
    obtain ⟨rfl, rfl, rfl⟩ := h
    obtain ⟨m, hm⟩ := hG.lim
    refine (Tryz.strings_Cut a0 a1 m w hs hm).mono ?_
    rintro e w' ⟨rfl, n, rfl⟩
    exact ⟨rfl, (Below.refl _ _).trans ⟨rfl, rfl, rfl, Nat.le_refl _, fun _ _ => rfl⟩⟩
def parts (s sep : ByteArray) : List ByteArray := Lib.splitB sep 0 (Lib.countB s sep) s
theorem split_walk (s sep : ByteArray) (hs : s.size < 4294967281) (h1 : 1 ≤ sep.size) (w : World) (hG : GL w) : Calls Tryz.prog 38 #[.string s, .string sep] w fun e w' => e = .returned (.slice (some ⟨w.heap.size, 0, none⟩) (parts s sep).length (parts s sep).length) ∧ w' = w.alloc (.cells ((parts s sep).map Value.string).toArray 9) := by
  obtain ⟨m, hm⟩ := hG.lim
  have hl : (parts s sep).length = Lib.countB s sep + 1 := Lib.splitB_all sep h1 0 _ s rfl
  rw [hl]
  exact Tryz.strings_Split s sep m w hs hm h1
end Go.Proofs.YtdakfmldbddokaaGreatDoor.P
