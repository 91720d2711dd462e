/- The word of a code, as the print's reading of command.Text tells it (tools/fake_word.py). -/
import Derived.Test.YtdakfmldbddokaaGreatDoorCmParts
namespace Go.Proofs.YtdakfmldbddokaaGreatDoor.P
open Go Go.RowKit
def sSm.f (a0 : Int) : Option ByteArray := if 0 ≤ a0 ∧ a0 < 10 then some (wordList.getD a0.toNat ByteArray.empty) else none
/-- Where the word lies. -/
theorem word_cell {w : World} (hG : GL w) (c : Int) (h0 : 0 ≤ c) (h1 : c < 10) : w.cell? ⟨0, c.toNat, none⟩ = some (.string (wordList.getD c.toNat ByteArray.empty)) := by
  obtain ⟨T, fr, hW⟩ := hG.words
  obtain ⟨n, rfl⟩ := Int.eq_ofNat_of_zero_le h0
  have hn : n < 10 := by omega
  rw [Int.toNat_natCast]
  unfold wordCells at hW
  have : n = 0 ∨ n = 1 ∨ n = 2 ∨ n = 3 ∨ n = 4 ∨ n = 5 ∨ n = 6 ∨ n = 7 ∨ n = 8 ∨ n = 9 := by omega
  rcases this with rfl | rfl | rfl | rfl | rfl | rfl | rfl | rfl | rfl | rfl <;> simp [World.cell?, hW, wordList]
theorem word_rng {c : Int} {t : ByteArray} (h : sSm.f c = some t) : 0 ≤ c ∧ c < 10 := by
  unfold sSm.f at h
  split at h
  case isTrue g => exact g
  case isFalse => cases h
theorem word_load {w : World} (hG : GL w) {c : Int} {t : ByteArray} (h : sSm.f c = some t) : w.cell? ⟨0, c.toNat, none⟩ = some (.string t) := by
  have g := word_rng h
  unfold sSm.f at h
  rw [if_pos g] at h
  obtain rfl := Option.some.inj h
  exact word_cell hG c g.1 g.2
end Go.Proofs.YtdakfmldbddokaaGreatDoor.P
