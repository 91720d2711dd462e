/- The contract of repeated. -/
import Derived.Test.YtdakfmldbddokaaGreatDoorVaSeq
import Derived.Test.YtdakfmldbddokaaGreatDoorVaShelf
set_option linter.unusedVariables false
set_option linter.unusedSimpArgs false
namespace Go.Proofs.YtdakfmldbddokaaGreatDoor.P
open Go Go.RowKit Go.Shelf Go.Sort Go.Maps Go.Proofs.YtdakfmldbddokaaGreatDoorW.PrintWords Go.Proofs.YtdakfmldbddokaaGreatDoorW.PrintLast Go.Proofs.YtdakfmldbddokaaGreatDoorW.PrintMore
/-- Whether some texts are fewer when they are sorted and each is taken once. -/
def dupS (l : List ByteArray) : Bool := decide ((Lib.compact (sortedOf l)).length < l.length)
def vRep.f (l0 : List ByteArray) : Option Bool := if l0.length ≤ 4398046511104 then some (dupS l0) else none
theorem values_seq (w : World) (A0 : Option Addr) (c0 : Nat) (l0 : List ByteArray) (hl : l0.length ≤ 4398046511104) (hr0 : Kd.C Kd.string w A0 l0.length l0) :
    ∃ K : Nat → Prop, (∀ j, K j → j < w.heap.size + 1) ∧ ∀ m W, 1 ≤ m → (∀ (j : Nat) (o : Obj), (w.alloc (.cells #[.slice A0 l0.length c0] 47)).heap[j]? = some o → W.heap[j]? = some o) → SeqB Fence.wide m Tryz.prog 153 #[.pointer (some ⟨w.heap.size, 0, none⟩)] w.heap.size K l0 W := by
  have bS := Boxed.new w 47 (.slice A0 l0.length c0)
  by_cases hne : 0 < l0.length
  · obtain ⟨bk, o, rfl, hbk, hcell⟩ := row_at hr0 hne
    obtain ⟨row, hrow⟩ : ∃ row, w.heap[bk]? = some row := ⟨_, Array.getElem?_eq_getElem hbk⟩
    refine ⟨fun j => j = w.heap.size ∨ j = bk, fun j hj => by omega, fun m W hm hW => ?_⟩
    exact values1_seq m hm l0 w.heap.size bk o c0 (by omega) row W (hW _ _ bS) (hW _ _ ((Below.heap_alloc _ _ _ hbk).trans hrow)) fun V hV j x hj => (World.cell?_of_block (w := w) (hV.trans hrow.symm)).trans (hcell j x hj)
  · obtain rfl : l0 = [] := List.length_eq_zero_iff.1 (by omega)
    refine ⟨fun j => j = w.heap.size, fun j hj => by omega, fun m W hm hW => ?_⟩
    exact values1_none m hm w.heap.size A0 c0 W (hW _ _ bS)
theorem below_put {α : Type} [Inhabited α] {n₀ : Nat} {A W : World} {enc : α → Value} {g q : Nat} {d : Array α} (h : Below n₀ A W) (hg : n₀ ≤ g) : Below n₀ A (putRow enc (Sort.ahead W q) g 0 d) :=
  h.trans ⟨rfl, rfl, rfl, by simp [putRow, mapBlock, Sort.ahead], fun k hk => by
    have : g ≠ k := by omega
    simp [putRow, mapBlock, Sort.ahead, Array.getElem?_modify, this]⟩
theorem vRep.calls (A0 : Option Addr) (c0 : Nat) (l0 : List ByteArray) (r : Bool) (w : World) (hr0 : Kd.C Kd.string w A0 l0.length l0) (hc0 : l0.length ≤ c0) (h : vRep.f l0 = some r) :
    Calls Tryz.prog 93 #[.slice A0 l0.length c0] w fun e w' => e = .returned (.bool r) ∧ Below w.heap.size w w' := by
  unfold vRep.f at h
  split at h
  case isFalse => cases h
  case isTrue hl =>
    obtain rfl := Option.some.inj h
    have hV := values_walk (.slice A0 l0.length c0) ⟨_, _, _, rfl⟩ w
    obtain ⟨K, hK, hseq⟩ := values_seq w A0 c0 l0 hl hr0
    have hB1 : Below w.heap.size w (w.alloc (.cells #[.slice A0 l0.length c0] 47)) := (Below.refl _ w).alloc (Nat.le_refl _) _
    have hz : (w.alloc (.cells #[.slice A0 l0.length c0] 47)).heap.size = w.heap.size + 1 := World.size_alloc _ _
    have hmax : maxLen = 9223372036854775807 := rfl
    have hS := sorted_walk w.heap.size (w.alloc (.cells #[.slice A0 l0.length c0] 47)) 153 #[.pointer (some ⟨w.heap.size, 0, none⟩)] w.heap.size K l0 (by omega) (by omega) (by omega) (Nat.le_refl _) (by omega) (fun j hj => by have := hK j hj; omega)
      (enters 153 Tryz.f153 Tryz.func153 rfl (by decide)) hseq
    rw [hz] at hS
    clear hseq hK hr0 h
    go_enter Tryz.func93, Tryz.ntmps93
    go_wp2_with (first | (go_at_call 132; refine hV.mono ?_; rintro e w' ⟨rfl, rfl⟩) | (go_at_call 131; refine hS.mono ?_; rintro e W ⟨v, rfl, hrow, hb⟩))
    rcases hrow.2 with ⟨rfl, hz0⟩ | ⟨gb, cap, cur, rfl, hbase, hgb, r1, r2, r3, r4⟩
    · have hss : l0 = [] := List.eq_nil_of_length_eq_zero hz0
      subst hss
      go_wp2_with (go_at_call 133; refine (Tryz.slices_Compact_string_empty none 0 W).mono ?_; rintro e w' ⟨rfl, rfl⟩)
      go_ret
      exact ⟨by simp [dupS, sortedOf, Lib.compact], hB1.trans hb⟩
    · have hlen : (sortedOf l0).length = l0.length := by unfold sortedOf; rw [List.length_mergeSort, List.length_map]
      have hH : Holds encStr W gb 0 (sortedOf l0).toArray := holds_of_block hgb (by rw [Nat.mul_one] at r4; rw [hlen]; exact r4)
      have cC := Tryz.slices_Compact_string gb 0 cap (sortedOf l0) W hH (by rw [hlen]; omega) (by rw [hlen]; exact r1)
      rw [hlen] at cC
      go_wp2_with (go_at_call 133; refine cC.mono ?_; rintro e w' ⟨rfl, q, rfl⟩)
      go_ret
      exact ⟨by simp [dupS], (below_put (hB1.trans hb) (by omega))⟩
end Go.Proofs.YtdakfmldbddokaaGreatDoor.P
