/- A row of bytes made of a text: written like a row of one's own, but for the mark behind its end. -/
import Derived.Test.YtdakfmldbddokaaGreatDoorPx0
set_option linter.unusedVariables false
namespace Go.Proofs.YtdakfmldbddokaaGreatDoor.P
open Go.RowKit Go.Proofs.YtdakfmldbddokaaGreatDoorW.PrintWords Go.Proofs.YtdakfmldbddokaaGreatDoorW.PrintLast Go.Proofs.YtdakfmldbddokaaGreatDoorW.PrintMore
namespace Kz
def R (_d : Kd Int) (e : Nat) (w : World) (base : Nat) (ok : Nat → Prop) (v : Value) (xs : List Int) : Prop :=
  (∀ k, v.ownBlock = some k → ok k) ∧ ∃ g cap cur fr, v = .slice (some ⟨g, 0, none⟩) xs.length cap ∧ base ≤ g ∧ w.heap[g]? = some (.cells cur e fr) ∧ xs.length ≤ cap ∧ cap ≤ maxLen ∧ cur.size = cap ∧ cur.toList.take xs.length = xs.map (Value.int .u8) ∧ cap ≤ fr.1
section
variable {d : Kd Int} {e : Nat} {w w1 W : World} {base : Nat} {ok ok' : Nat → Prop} {v : Value} {xs : List Int}
theorem R_mono (h : R d e w base ok v xs) (hok : ∀ k, ok k → ok' k) : R d e w base ok' v xs := ⟨fun k hk => hok k (h.1 k hk), h.2⟩
theorem R_move (h : R d e w base ok v xs) (hm : ∀ k, ok k → w1.heap[k]? = w.heap[k]?) : R d e w1 base ok v xs := by
  obtain ⟨h0, g, cap, cur, fr, rfl, hb, hg, r⟩ := h
  exact ⟨h0, g, cap, cur, fr, rfl, hb, (hm g (h0 g (by simp [Value.ownBlock]))).trans hg, r⟩
theorem R_below (h : R d e w base ok v xs) (hb : Below w.heap.size w w1) : R d e w1 base ok v xs := by
  obtain ⟨h0, g, cap, cur, fr, rfl, hb', hg, r⟩ := h
  exact ⟨h0, g, cap, cur, fr, rfl, hb', (hb.block g (Array.getElem?_eq_some_iff.1 hg).1).trans hg, r⟩
theorem R_alloc (h : R d e w base ok v xs) (o : Obj) : R d e (w.alloc o) base ok v xs := R_below h (below_alloc (Below.refl _ _) o)
theorem R_drew (h : R d e w base ok v xs) : R d e w.drew base ok v xs := R_below h (below_drew (Below.refl _ _))
theorem R_drewN (h : R d e w base ok v xs) (m : Nat) : R d e (w.drewN m) base ok v xs := R_below h (pw_below_drewN (Below.refl _ _) m)
theorem R_slice (h : R d e w base ok v xs) : ∃ A c, v = .slice A xs.length c := by
  obtain ⟨_, g, cap, cur, fr, rfl, _⟩ := h
  exact ⟨_, _, rfl⟩
theorem R_tight (_ : d.E = []) (h : R d e w base ok v xs) : R d e w base (fun k => some k = v.ownBlock) v xs := ⟨fun k hk => hk.symm, h.2⟩
theorem R_reok (hE : d.E = []) (h : R d e W base ok v xs) (hok : ∀ k, v.ownBlock = some k → ok' k) : R d e W base ok' v xs := ⟨hok, h.2⟩
theorem R_form (h : R d e w base ok v xs) (_ : 0 < xs.length) : ∃ g cap, v = .slice (some ⟨g, 0, none⟩) xs.length cap ∧ base ≤ g ∧ g < w.heap.size ∧ ∃ _cells : Array Value, True := by
  obtain ⟨_, g, cap, cur, fr, rfl, hb, hg, _⟩ := h
  exact ⟨g, cap, rfl, hb, (Array.getElem?_eq_some_iff.1 hg).1, #[], trivial⟩
variable {g cap n : Nat}
theorem R_at (h : R d e W base ok (.slice (some ⟨g, 0, none⟩) n cap) xs) : n = xs.length ∧ base ≤ g ∧ ∃ cur fr, W.heap[g]? = some (.cells cur e fr) ∧ xs.length ≤ cap ∧ cap ≤ maxLen ∧ cur.size = cap ∧ cur.toList.take xs.length = xs.map (Value.int .u8) ∧ cap ≤ fr.1 := by
  obtain ⟨_, g', cap', cur, fr, he, hb, r⟩ := h
  simp only [Value.slice.injEq, Option.some.injEq, Addr.mk.injEq] at he
  obtain ⟨⟨rfl, _⟩, rfl, rfl⟩ := he
  exact ⟨rfl, hb, cur, fr, r⟩
theorem R_cells (h : R d e W base ok (.slice (some ⟨g, 0, none⟩) n cap) xs) (i : Nat) (hi : i < xs.length) : W.cell? ⟨g, i, none⟩ = some (.int .u8 xs[i]) ∧ W.frozen? ⟨g, i, none⟩ = false := by
  obtain ⟨_, _, cur, fr, hg, h1, _, h3, h4, h5⟩ := R_at h
  refine ⟨?_, ?_⟩
  · have h6 : (cur.toList.take xs.length)[i]? = (xs.map (Value.int .u8))[i]? := by rw [h4]
    rw [List.getElem?_take_of_lt hi, List.getElem?_map, List.getElem?_eq_getElem hi] at h6
    simp only [World.cell?, hg]
    simpa using h6
  · simp only [World.frozen?, hg]
    simp
    omega
theorem R_celln (dd : Int) (h : R d e W base ok (.slice (some ⟨g, 0, none⟩) n cap) xs) (i : Int) (h0 : 0 ≤ i) (hi : i < n) : W.cell? ⟨g, i.toNat, none⟩ = some (.int .u8 (rdOf dd xs i)) ∧ W.frozen? ⟨g, i.toNat, none⟩ = false := by
  have hn := (R_at h).1
  have hl : i.toNat < xs.length := by omega
  have := R_cells h i.toNat hl
  rw [show rdOf dd xs i = xs[i.toNat] from by unfold rdOf; rw [List.getD_eq_getElem?_getD, List.getElem?_eq_getElem hl]; rfl]
  exact this
theorem R_putn (h : R d e W base ok (.slice (some ⟨g, 0, none⟩) n cap) xs) (i : Int) (x : Int) : R d e (W.setCell ⟨g, i.toNat, none⟩ (.int .u8 x)) base ok (.slice (some ⟨g, 0, none⟩) n cap) (xs.set i.toNat x) := by
  obtain ⟨hn, hb, cur, fr, hg, h1, h2, h3, h4, h5⟩ := R_at h
  have hlt := (Array.getElem?_eq_some_iff.1 hg).1
  refine ⟨h.1, g, cap, cur.setIfInBounds i.toNat (.int .u8 x), fr, by rw [List.length_set, hn], hb, ?_, by rw [List.length_set]; exact h1, h2, by simpa using h3, ?_, h5⟩
  · show (W.heap.modify g _)[g]? = _
    rw [Array.getElem?_modify, if_pos rfl, hg]
    rfl
  · rw [List.length_set, Array.toList_setIfInBounds, List.take_set, h4, List.map_set]
theorem R_reads' {A : Option Addr} {c : Nat} (h : R (Kd.int .u8) e W base ok (.slice A n c) xs) : n = xs.length ∧ n ≤ c ∧ (Kd.int .u8).C W A xs.length xs := by
  obtain ⟨A', c', he⟩ := R_slice h
  have h' := h
  obtain ⟨_, g', cap', cur, fr, he2, hb, hg, h1, h2, h3, r⟩ := h'
  simp only [Value.slice.injEq] at he2
  obtain ⟨rfl, rfl, rfl⟩ := he2
  refine ⟨rfl, h1, Kd.C_of_reads (d := (0 : Int)) (h1 := fun _ => rfl) ⟨rfl, ?_, fun _ => ⟨_, rfl, fun j hj => ?_⟩⟩⟩
  · have : maxLen = 9223372036854775807 := rfl
    omega
  · rw [add_plain]
    rw [(R_cells h j hj).1, List.getD_eq_getElem?_getD, List.getElem?_eq_getElem hj]
    rfl
end
end Kz
end Go.Proofs.YtdakfmldbddokaaGreatDoor.P
