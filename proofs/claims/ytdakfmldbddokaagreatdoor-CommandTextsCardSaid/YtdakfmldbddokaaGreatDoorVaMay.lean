/- The contract of may: letters are some, if they are sixteen at most, all between a and z, and sorted none is beside itself. -/
import Derived.Test.YtdakfmldbddokaaGreatDoorVaRep
import Derived.Test.YtdakfmldbddokaaGreatDoorVaZ
import Derived.Test.YtdakfmldbddokaaGreatDoorMineB
import Derived.Test.YtdakfmldbddokaaGreatDoorPx4
set_option linter.unusedVariables false
set_option linter.unusedSimpArgs false
namespace Go.Proofs.YtdakfmldbddokaaGreatDoor.P
open Go Go.RowKit Go.Shelf Go.Sort Go.Maps Go.Proofs.YtdakfmldbddokaaGreatDoorW.PrintWords Go.Proofs.YtdakfmldbddokaaGreatDoorW.PrintLast Go.Proofs.YtdakfmldbddokaaGreatDoorW.PrintMore
def oddLetter (c : Int) : Bool := decide (c < 97) || decide (c > 122)
def vMay.f (a0 : ByteArray) : Option Bool :=
 if a0.size ≤ 140737488355328 then
  if 16 < a0.size then some false
  else if (bytesOf a0).any oddLetter = true then some false
  else (sS.f 400 (bytesOf a0)).bind fun s => some (decide ((Lib.compactUpTo s.toArray s.toArray.size).length = a0.size))
 else none
theorem conv_z (s : ByteArray) (hn : s.size ≤ 140737488355328) (w : World) :
  ConvB Tryz.prog 9 69 s w fun e w' => ∃ g cap, e = .returned (.slice (some ⟨g, 0, none⟩) s.size cap) ∧ w.heap.size ≤ g ∧ Kz.R (Kd.int .u8) 5 w' w.heap.size (fun _ => True) (.slice (some ⟨g, 0, none⟩) s.size cap) (bytesOf s) ∧ Below w.heap.size w w' := by
 have hmax : maxLen = 9223372036854775807 := rfl
 have hge := grownCap_ge w s.size 0 5
 have hle := grownCap_le_maxLen w s.size 0 5 (by omega)
 have hsz : (Lib.bytesCells w 5 s).size = grownCap w s.size 0 5 := by
  unfold Lib.bytesCells
  rw [Array.size_append, Array.size_map, Array.size_replicate]
  show s.size + _ = _
  omega
 refine ⟨_, _, Lib.run_convert_string_bytes w 9 69 5 s Tryz.underlying9 Tryz.underlying69 Tryz.underlying5, _, _, rfl, Nat.le_refl _, ⟨fun _ _ => trivial, w.heap.size, grownCap w s.size 0 5, Lib.bytesCells w 5 s, _, by rw [bytesOf_length], Nat.le_refl _, Lib.bytesWorld_at_new w 5 s, by rw [bytesOf_length]; exact hge, hle, hsz, ?_, by rw [hsz]; exact Nat.le_refl _⟩, bytesWorld_below w 5 s⟩
 rw [bytesOf_length]
 unfold Lib.bytesCells
 rw [Array.toList_append, Array.toList_map, List.take_append_of_le_length (by rw [List.length_map, Array.length_toList]; exact Nat.le_refl _), List.take_of_length_le (by rw [List.length_map, Array.length_toList]; exact Nat.le_refl _)]
 unfold bytesOf
 rw [List.map_map]
 rfl
theorem odd_gives (w : World) : PredAt Tryz.prog 54 #[] (Value.int .u8) oddLetter w := fun W x _ => by
 refine (value_may_1.calls x (oddLetter x) W ?_).mono ?_
 ·unfold value_may_1.f oddLetter
  by_cases h : x < 97
  ·rw [if_pos h, decide_eq_true h]; rfl
  ·rw [if_neg h, decide_eq_false h]; rfl
 ·rintro e w' ⟨rfl, nd, rfl⟩
  exact ⟨rfl, nd, rfl⟩
theorem z_cells {w : World} {base g n cap : Nat} {ok : Nat → Prop} {xs : List Int} (h : Kz.R (Kd.int .u8) 5 w base ok (.slice (some ⟨g, 0, none⟩) n cap) xs) : ∀ j, j < xs.length → w.cell? ⟨g, 0 + j, none⟩ = some (.int .u8 xs[j]!) := fun j hj => by
 rw [Nat.zero_add, getElem!_pos xs j hj]
 exact (Kz.R_cells h j hj).1
set_option maxRecDepth 100000 in
set_option maxHeartbeats 4000000 in
theorem may_long (a0 : ByteArray) (hs : a0.size ≤ 140737488355328) (h16 : 16 < a0.size) (w : World) : Calls Tryz.prog 31 #[.string a0] w fun e w' => e = .returned (.bool false) ∧ Below w.heap.size w w' := by
 have hConv := conv_z a0 hs w
 have d1 : decide ((16 : Int) < (a0.size : Int)) = true := decide_eq_true (by omega)
 have d2 : decide (16 < a0.size) = true := decide_eq_true h16
 clear hs
 go_enter Tryz.func31, Tryz.ntmps31
 go_wp2_with ((with_reducible refine gate_dst (N := 6) rfl ?_); refine convGo_ (some 6) rfl rfl 9 69 a0 rfl rfl ?_; refine hConv.mono ?_; rintro e w1 ⟨g, cap, rfl, hg, hR, hb⟩; refine ⟨_, rfl, ?_⟩)
 go_ret
 exact ⟨rfl, hb⟩
set_option maxRecDepth 100000 in
set_option maxHeartbeats 4000000 in
theorem may_odd (a0 : ByteArray) (hs : a0.size ≤ 140737488355328) (h16 : ¬ 16 < a0.size) (h : (bytesOf a0).any oddLetter = true) (w : World) : Calls Tryz.prog 31 #[.string a0] w fun e w' => e = .returned (.bool false) ∧ Below w.heap.size w w' := by
 have hConv := conv_z a0 hs w
 have hl := bytesOf_length a0
 have d1 : decide ((16 : Int) < (a0.size : Int)) = false := decide_eq_false (by omega)
 have d2 : decide (16 < a0.size) = false := decide_eq_false h16
 have hC : ∀ (g cap : Nat) (w1 : World), Kz.R (Kd.int .u8) 5 w1 w.heap.size (fun _ => True) (.slice (some ⟨g, 0, none⟩) a0.size cap) (bytesOf a0) → Calls Tryz.prog 55 #[.slice (some ⟨g, 0, none⟩) a0.size cap, .func (.func 54) #[] #[]] w1 fun e w' => e = .returned (.bool true) ∧ ∃ q, w' = w1.drewN q := fun g cap w1 hR => by
  have hc := Tryz.slices_ContainsFunc (Value.int .u8) oddLetter 54 #[] (enters 54 Tryz.f54 Tryz.func54 rfl (by decide)) g 0 a0.size cap (bytesOf a0) w1 (odd_gives w1) (by omega) (by omega) (z_cells hR)
  rw [List.take_of_length_le (by omega), h] at hc
  exact hc
 clear hs hl
 go_enter Tryz.func31, Tryz.ntmps31
 go_wp2_with (first | ((with_reducible refine gate_dst (N := 6) rfl ?_); refine convGo_ (some 6) rfl rfl 9 69 a0 rfl rfl ?_; refine hConv.mono ?_; rintro e w1 ⟨g, cap, rfl, hg, hR, hb⟩; refine ⟨_, rfl, ?_⟩) | (go_at_call 55; refine (hC _ _ _ hR).mono ?_; rintro e w2 ⟨rfl, q, rfl⟩))
 go_ret
 exact ⟨rfl, pw_below_drewN hb _⟩
set_option maxRecDepth 100000 in
set_option maxHeartbeats 4000000 in
theorem may_sorts (a0 : ByteArray) (hs : a0.size ≤ 140737488355328) (h16 : ¬ 16 < a0.size) (h : (bytesOf a0).any oddLetter = false) (s : List Int) (hf : sS.f 400 (bytesOf a0) = some s) (w : World) :
  Calls Tryz.prog 31 #[.string a0] w fun e w' => e = .returned (.bool (decide ((Lib.compactUpTo s.toArray s.toArray.size).length = a0.size))) ∧ Below w.heap.size w w' := by
 have hConv := conv_z a0 hs w
 have hl := bytesOf_length a0
 have d1 : decide ((16 : Int) < (a0.size : Int)) = false := decide_eq_false (by omega)
 have d2 : decide (16 < a0.size) = false := decide_eq_false h16
 have hC : ∀ (g cap : Nat) (w1 : World), Kz.R (Kd.int .u8) 5 w1 w.heap.size (fun _ => True) (.slice (some ⟨g, 0, none⟩) a0.size cap) (bytesOf a0) → Calls Tryz.prog 55 #[.slice (some ⟨g, 0, none⟩) a0.size cap, .func (.func 54) #[] #[]] w1 fun e w' => e = .returned (.bool false) ∧ ∃ q, w' = w1.drewN q := fun g cap w1 hR => by
  have hc := Tryz.slices_ContainsFunc (Value.int .u8) oddLetter 54 #[] (enters 54 Tryz.f54 Tryz.func54 rfl (by decide)) g 0 a0.size cap (bytesOf a0) w1 (odd_gives w1) (by omega) (by omega) (z_cells hR)
  rw [List.take_of_length_le (by omega), h] at hc
  exact hc
 have hS : ∀ (g cap : Nat) (w1 : World), Kz.R (Kd.int .u8) 5 w1 w.heap.size (fun _ => True) (.slice (some ⟨g, 0, none⟩) a0.size cap) (bytesOf a0) → Below w.heap.size w w1 → Calls Tryz.prog 56 #[.slice (some ⟨g, 0, none⟩) a0.size cap] w1 fun e w' => e = .returned (.tuple #[]) ∧ (∃ ok, Kz.R (Kd.int .u8) 5 w' w.heap.size ok (.slice (some ⟨g, 0, none⟩) a0.size cap) s) ∧ Below w.heap.size w w' := fun g cap w1 hR hb => by
  refine (sS.calls 400 _ _ _ s w w1 hb hR hf).mono ?_
  rintro e w' ⟨rfl, hy, hb2, _⟩
  exact ⟨rfl, ⟨_, hy⟩, hb2⟩
 have hP : ∀ (g cap : Nat) (w1 : World) (ok : Nat → Prop), Kz.R (Kd.int .u8) 5 w1 w.heap.size ok (.slice (some ⟨g, 0, none⟩) a0.size cap) s → Below w.heap.size w w1 → Calls Tryz.prog 57 #[.slice (some ⟨g, 0, none⟩) a0.size cap] w1 fun e w' => e = .returned (.slice (some ⟨g, 0, none⟩) (Lib.compactUpTo s.toArray s.toArray.size).length cap) ∧ Below w.heap.size w w' := fun g cap w1 ok hR hb => by
  obtain ⟨hn, hg, cur, fr, _, h1, _⟩ := Kz.R_at hR
  have e1 : (fun x y : Int => x == y) = fun x y => decide (x = y) := rfl
  have hH : Holds (Value.int .u8) w1 g 0 s.toArray := fun j hj => by
   have hj' : j < s.length := by simpa using hj
   have := Kz.R_cells hR j hj'
   rw [Nat.zero_add, getElem!_pos s.toArray j hj]
   exact this
  have hc := Tryz.slices_Compact_f57 (Value.int .u8) (fun _ => rfl) (e1 ▸ EqlAt.int Tryz.prog 5 .u8) (e1 ▸ NeqAt.int Tryz.prog 5 .u8) 0 (fun w => Tryz.zeroValue5 w) g 0 cap s.toArray w1 hH (by rw [List.size_toArray]; omega) (by rw [List.size_toArray]; exact h1)
  rw [show s.toArray.size = a0.size by rw [List.size_toArray]; exact hn.symm] at hc ⊢
  refine hc.mono ?_
  rintro e w' ⟨rfl, q, rfl⟩
  exact ⟨rfl, below_put hb hg⟩
 clear hs hl hf
 generalize Lib.compactUpTo s.toArray s.toArray.size = L at hP ⊢
 go_enter Tryz.func31, Tryz.ntmps31
 go_wp2_with (first | ((with_reducible refine gate_dst (N := 6) rfl ?_); refine convGo_ (some 6) rfl rfl 9 69 a0 rfl rfl ?_; refine hConv.mono ?_; rintro e w1 ⟨g, cap, rfl, hg, hR, hb⟩; refine ⟨_, rfl, ?_⟩) | (go_at_call 55; refine (hC _ _ _ hR).mono ?_; rintro e w2 ⟨rfl, q, rfl⟩) | (go_at_call 56; refine (hS _ _ _ (Kz.R_drewN hR _) (pw_below_drewN hb _)).mono ?_; rintro e w3 ⟨rfl, ⟨ok, hy⟩, hb3⟩) | (go_at_call 57; refine (hP _ _ _ _ hy hb3).mono ?_; rintro e w4 ⟨rfl, hb4⟩))
 go_ret
 refine ⟨?_, hb4⟩
 have e2 : ((L.length : Int) == (a0.size : Int)) = decide (L.length = a0.size) := by
  by_cases hq : L.length = a0.size
  ·rw [decide_eq_true hq, hq]; exact beq_self_eq_true _
  ·rw [decide_eq_false hq]; exact beq_eq_false_iff_ne.mpr (by omega)
 first | rfl | exact (congrArg (fun b => Ending.returned (Value.bool b)) e2) | (congr 2; simp; exact e2)
theorem vMay.calls (a0 : ByteArray) (r : Bool) (w : World) (h : vMay.f a0 = some r) :
  Calls Tryz.prog 31 #[.string a0] w fun e w' => e = .returned (.bool r) ∧ Below w.heap.size w w' := by
 unfold vMay.f at h
 split at h
 case isFalse => cases h
 case isTrue hs =>
  by_cases h16 : 16 < a0.size
  ·rw [if_pos h16] at h
   obtain rfl := Option.some.inj h
   exact may_long a0 hs h16 w
  ·rw [if_neg h16] at h
   by_cases ho : (bytesOf a0).any oddLetter = true
   ·rw [if_pos ho] at h
    obtain rfl := Option.some.inj h
    exact may_odd a0 hs h16 ho w
   ·rw [if_neg ho] at h
    obtain ⟨s, hf, h⟩ := Option.bind_eq_some_iff.mp h
    obtain rfl := Option.some.inj h
    exact may_sorts a0 hs h16 (by simpa using ho) s hf w
end Go.Proofs.YtdakfmldbddokaaGreatDoor.P
