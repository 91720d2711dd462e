/- Plain mathematics of layer 10: texts are fewer, sorted and each taken once, just where one is there twice. -/
import Derived.Test.YtahjnjlkpbjfnaaGreatDoorVaRep
set_option linter.unusedVariables false
namespace Go.Proofs.YtahjnjlkpbjfnaaGreatDoor.PVal
open Go Go.Proofs.YtahjnjlkpbjfnaaGreatDoor.P
theorem short_iff {α : Type} [Inhabited α] [DecidableEq α] (l : List α) : (Lib.compact l).length < l.length ↔ ∃ j, 0 < j ∧ j < l.length ∧ l.toArray[j]! = l.toArray[j - 1]! := by
  unfold Lib.compact Lib.compactUpTo
  rw [List.length_map]
  have h := List.length_filter_lt_length_iff_exists (l := List.range l.length) (p := Lib.keeps l.toArray)
  rw [List.length_range] at h
  rw [h]
  constructor
  · rintro ⟨j, hj, hk⟩
    have hk' : ¬ (j = 0 ∨ l.toArray[j]! ≠ l.toArray[j - 1]!) := fun e => hk (by unfold Lib.keeps; exact decide_eq_true e)
    refine ⟨j, ?_, List.mem_range.1 hj, ?_⟩
    · rcases Nat.eq_zero_or_pos j with q | q
      · exact absurd (.inl q) hk'
      · exact q
    · exact Classical.byContradiction fun e => hk' (.inr e)
  · rintro ⟨j, h0, hj, e⟩
    refine ⟨j, List.mem_range.2 hj, ?_⟩
    rw [Lib.keeps_neg h0 e]
    decide
theorem twice_iff {s : List (List UInt8)} (hs : s.Pairwise fun x y => decide (x ≤ y) = true) : (∃ j, 0 < j ∧ j < s.length ∧ s.toArray[j]! = s.toArray[j - 1]!) ↔ ¬ s.Nodup := by
  have hle : ∀ (i j : Nat) (hi : i < s.length) (hj : j < s.length), i < j → s[i] ≤ s[j] := fun i j hi hj hij => of_decide_eq_true (List.pairwise_iff_getElem.1 hs i j hi hj hij)
  have hg : ∀ (j : Nat) (hj : j < s.length), s.toArray[j]! = s[j] := fun j hj => by rw [getElem!_pos s.toArray j (by simpa using hj)]; simp
  constructor
  · rintro ⟨j, h0, hj, e⟩ hnd
    rw [hg j hj, hg (j - 1) (by omega)] at e
    exact List.pairwise_iff_getElem.1 hnd (j - 1) j (by omega) hj (by omega) e.symm
  · intro hnd
    refine Classical.byContradiction fun hno => hnd (List.pairwise_iff_getElem.2 fun i j hi hj hij e => hno ⟨i + 1, by omega, by omega, ?_⟩)
    rw [hg (i + 1) (by omega), Nat.add_sub_cancel, hg i hi]
    have h1 := hle i (i + 1) hi (by omega) (by omega)
    rcases Nat.lt_or_ge (i + 1) j with q | q
    · have h2 := hle (i + 1) j (by omega) hj q
      rw [← e] at h2
      exact List.le_antisymm h2 h1
    · obtain rfl : j = i + 1 := by omega
      exact e.symm
theorem dup_iff (l : List ByteArray) : dupS l = true ↔ ¬ l.Nodup := by
  unfold dupS
  rw [decide_eq_true_eq]
  have hlen : (sortedOf l).length = l.length := by unfold sortedOf; rw [List.length_mergeSort, List.length_map]
  have hp : (sortedOf l).Perm (l.map (·.data.toList)) := List.mergeSort_perm ..
  have hs : (sortedOf l).Pairwise fun x y => decide (x ≤ y) = true := by
    refine List.pairwise_mergeSort (fun a b c h1 h2 => ?_) (fun a b => ?_) _
    · simp only [decide_eq_true_eq] at *; exact List.le_trans h1 h2
    · simp only [Bool.or_eq_true, decide_eq_true_eq]; exact List.le_total a b
  have hn : (sortedOf l).Nodup ↔ l.Nodup := by
    rw [hp.nodup_iff]
    unfold List.Nodup
    rw [List.pairwise_map]
    constructor
    · exact fun h => h.imp fun hne e => hne (by rw [e])
    · exact fun h => h.imp fun hne e => hne (ByteArray.ext (Array.toList_inj.1 e))
  rw [← hn, ← twice_iff hs, ← short_iff, hlen]
end Go.Proofs.YtahjnjlkpbjfnaaGreatDoor.PVal
