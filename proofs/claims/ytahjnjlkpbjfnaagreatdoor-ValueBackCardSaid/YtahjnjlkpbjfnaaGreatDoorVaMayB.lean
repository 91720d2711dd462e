/- The contract of may: letters are some, if they are sixteen at most, all between a and z, and none is there twice. -/
import Derived.Test.YtahjnjlkpbjfnaaGreatDoorVaRep
import Derived.Test.YtahjnjlkpbjfnaaGreatDoorVaPdq
import Derived.Test.YtahjnjlkpbjfnaaGreatDoorMineB
set_option linter.unusedVariables false
set_option linter.unusedSimpArgs false
namespace Go.Proofs.YtahjnjlkpbjfnaaGreatDoor.P
open Go Go.RowKit Go.Shelf Go.Maps Go.Proofs.YtahjnjlkpbjfnaaGreatDoorW.PrintWords Go.Proofs.YtahjnjlkpbjfnaaGreatDoorW.PrintLast Go.Proofs.YtahjnjlkpbjfnaaGreatDoorW.PrintMore
def oddLetter (c : Int) : Bool := decide (c < 97) || decide (c > 122)
def mayB (a0 : ByteArray) : Bool := decide (a0.size ≤ 16) && !((bytesOf a0).any oddLetter) && decide (bytesOf a0).Nodup
def value_may.f (a0 : ByteArray) : Option Bool := if a0.size ≤ 140737488355328 then some (mayB a0) else none
theorem perm_list {d d' : Array Int} {n : Nat} (hd : d.size = n) (h : Sort.PermIn 0 n d d') : d'.toList.Perm d.toList := by
  have e : ∀ x : Array Int, x.size = n → x.extract 0 n = x := fun x hx => by subst hx; simp
  have := h.2.2
  rw [e d hd, e d' (h.1.trans hd)] at this
  exact this
theorem lim_16 (n : Nat) (h1 : 12 < n) (h2 : n ≤ 16) : n ≤ Lib.bitLen n + 11 ∧ Lib.bitLen n ≤ 1000 := by
  have : n = 13 ∨ n = 14 ∨ n = 15 ∨ n = 16 := by omega
  rcases this with rfl | rfl | rfl | rfl <;> decide
set_option maxRecDepth 100000 in
set_option maxHeartbeats 4000000 in
theorem sort_st {A w : World} {g n cap : Nat} {d : Array Int} (h : St A g n cap d w) (hn : n ≤ 16) :
    Calls Tryz.prog 53 #[.slice (some ⟨g, 0, none⟩) n cap] w fun e w' => e = .returned (.tuple #[]) ∧ ∃ d' : Array Int, (Sort.PermIn 0 n d d' ∧ Sort.SortedIn Sort.ltInt 0 n d') ∧ St A g n cap d' w' := by
  have hL : ∀ w, Calls Tryz.prog 83 #[.int .u64 (n : Int)] w fun e w' => e = .returned (.int .i64 ((Lib.bitLen n : Nat) : Int)) ∧ w' = w := fun w => Tryz.bits_Len n w (by omega) (by omega)
  have hP : Calls Tryz.prog 82 #[.slice (some ⟨g, 0, none⟩) n cap, .int .i64 0, .int .i64 n, .int .i64 ((Lib.bitLen n : Nat) : Int)] w fun e w' => e = .returned (.tuple #[]) ∧ ∃ d' : Array Int, (Sort.PermIn 0 n d d' ∧ Sort.SortedIn Sort.ltInt 0 n d') ∧ St A g n cap d' w' := by
    by_cases h12 : n ≤ 12
    · refine (pdq_small h 0 n (Lib.bitLen n) (by omega) (by omega) (by omega) (by omega)).mono ?_
      rintro e w' ⟨rfl, d', h1, h2, h3⟩
      exact ⟨rfl, d', ⟨h1, h2⟩, h3⟩
    · exact pdq_16 h (Lib.bitLen n) (lim_16 n (by omega) hn).1 (lim_16 n (by omega) hn).2 hn
  generalize Lib.bitLen n = m at hL hP
  clear h
  go_enter Tryz.func53, Tryz.ntmps53
  go_wp2_with (first | (go_at_call 83; refine (hL _).mono ?_; rintro e w' ⟨rfl, rfl⟩) | (go_at_call 82; refine hP.mono ?_; rintro e w' ⟨rfl, hp⟩))
  first | go_end0 | ((try simp only [Exit.inBlock, Exit.then]); refine bodyPost_ret (results_none rfl _ _ _) rfl ?_)
  exact ⟨rfl, hp⟩
theorem conv_z (s : ByteArray) (hn : s.size ≤ 140737488355328) (w : World) :
    ConvB Tryz.prog 9 93 s w fun e w' => ∃ g cap, e = .returned (.slice (some ⟨g, 0, none⟩) s.size cap) ∧ w.heap.size ≤ g ∧ Kz.R (Kd.int .u8) 5 w' w.heap.size (fun _ => True) (.slice (some ⟨g, 0, none⟩) s.size cap) (bytesOf s) ∧ Below w.heap.size w w' := by
  have hmax : maxLen = 9223372036854775807 := rfl
  have hge := grownCap_ge w s.size 0 5
  have hle := grownCap_le_maxLen w s.size 0 5 (by omega)
  have hsz : (Lib.bytesCells w 5 s).size = grownCap w s.size 0 5 := by
    unfold Lib.bytesCells
    rw [Array.size_append, Array.size_map, Array.size_replicate]
    show s.size + _ = _
    omega
  refine ⟨_, _, Lib.run_convert_string_bytes w 9 93 5 s Tryz.underlying9 Tryz.underlying93 Tryz.underlying5, _, _, rfl, Nat.le_refl _, ⟨fun _ _ => trivial, w.heap.size, grownCap w s.size 0 5, Lib.bytesCells w 5 s, _, by rw [bytesOf_length], Nat.le_refl _, Lib.bytesWorld_at_new w 5 s, by rw [bytesOf_length]; exact hge, hle, hsz, ?_, by rw [hsz]; exact Nat.le_refl _⟩, bytesWorld_below w 5 s⟩
  rw [bytesOf_length]
  unfold Lib.bytesCells
  rw [Array.toList_append, Array.toList_map, List.take_append_of_le_length (by rw [List.length_map, Array.length_toList]; exact Nat.le_refl _), List.take_of_length_le (by rw [List.length_map, Array.length_toList]; exact Nat.le_refl _)]
  unfold bytesOf
  rw [List.map_map]
  rfl
theorem odd_gives (w : World) : PredAt Tryz.prog 52 #[] (Value.int .u8) oddLetter w := fun W x _ => by
  refine (value_may_1.calls x (oddLetter x) W ?_).mono ?_
  · unfold value_may_1.f oddLetter
    by_cases h : x < 97
    · rw [if_pos h, decide_eq_true h]; rfl
    · rw [if_neg h, decide_eq_false h]; rfl
  · rintro e w' ⟨rfl, nd, rfl⟩
    exact ⟨rfl, nd, rfl⟩
theorem z_cells {w : World} {base g n cap : Nat} {ok : Nat → Prop} {xs : List Int} (h : Kz.R (Kd.int .u8) 5 w base ok (.slice (some ⟨g, 0, none⟩) n cap) xs) : ∀ j, j < xs.length → w.cell? ⟨g, 0 + j, none⟩ = some (.int .u8 xs[j]!) := fun j hj => by
  rw [Nat.zero_add, getElem!_pos xs j hj]
  exact (Kz.R_cells h j hj).1
set_option maxRecDepth 100000 in
set_option maxHeartbeats 4000000 in
theorem may_long (a0 : ByteArray) (hs : a0.size ≤ 140737488355328) (h16 : 16 < a0.size) (w : World) : Calls Tryz.prog 29 #[.string a0] w fun e w' => e = .returned (.bool false) ∧ Below w.heap.size w w' := by
  have hConv := conv_z a0 hs w
  have d1 : decide ((16 : Int) < (a0.size : Int)) = true := decide_eq_true (by omega)
  have d2 : decide (16 < a0.size) = true := decide_eq_true h16
  clear hs
  go_enter Tryz.func29, Tryz.ntmps29
  go_wp2_with ((with_reducible refine gate_dst (N := 6) rfl ?_); refine convGo_ (some 6) rfl rfl 9 93 a0 rfl rfl ?_; refine hConv.mono ?_; rintro e w1 ⟨g, cap, rfl, hg, hR, hb⟩; refine ⟨_, rfl, ?_⟩)
  go_ret
  exact ⟨rfl, hb⟩
set_option maxRecDepth 100000 in
set_option maxHeartbeats 4000000 in
theorem may_odd (a0 : ByteArray) (hs : a0.size ≤ 140737488355328) (h16 : ¬ 16 < a0.size) (h : (bytesOf a0).any oddLetter = true) (w : World) : Calls Tryz.prog 29 #[.string a0] w fun e w' => e = .returned (.bool false) ∧ Below w.heap.size w w' := by
  have hConv := conv_z a0 hs w
  have hl := bytesOf_length a0
  have d1 : decide ((16 : Int) < (a0.size : Int)) = false := decide_eq_false (by omega)
  have d2 : decide (16 < a0.size) = false := decide_eq_false h16
  have hC : ∀ (g cap : Nat) (w1 : World), Kz.R (Kd.int .u8) 5 w1 w.heap.size (fun _ => True) (.slice (some ⟨g, 0, none⟩) a0.size cap) (bytesOf a0) → Calls Tryz.prog 49 #[.slice (some ⟨g, 0, none⟩) a0.size cap, .func (.func 52) #[] #[]] w1 fun e w' => e = .returned (.bool true) ∧ ∃ q, w' = w1.drewN q := fun g cap w1 hR => by
    have hc := Tryz.slices_ContainsFunc_f49 (Value.int .u8) oddLetter 52 #[] (enters 52 Tryz.f52 Tryz.func52 rfl (by decide)) g 0 a0.size cap (bytesOf a0) w1 (odd_gives w1) (by omega) (by omega) (z_cells hR)
    rw [List.take_of_length_le (by omega), h] at hc
    exact hc
  clear hs hl
  go_enter Tryz.func29, Tryz.ntmps29
  go_wp2_with (first | ((with_reducible refine gate_dst (N := 6) rfl ?_); refine convGo_ (some 6) rfl rfl 9 93 a0 rfl rfl ?_; refine hConv.mono ?_; rintro e w1 ⟨g, cap, rfl, hg, hR, hb⟩; refine ⟨_, rfl, ?_⟩) | (go_at_call 49; refine (hC _ _ _ hR).mono ?_; rintro e w2 ⟨rfl, q, rfl⟩))
  go_ret
  exact ⟨rfl, pw_below_drewN hb _⟩
set_option maxRecDepth 100000 in
set_option maxHeartbeats 4000000 in
theorem may_sorts (a0 : ByteArray) (hs : a0.size ≤ 140737488355328) (h16 : ¬ 16 < a0.size) (h : (bytesOf a0).any oddLetter = false) (w : World) :
    Calls Tryz.prog 29 #[.string a0] w fun e w' => e = .returned (.bool (decide (bytesOf a0).Nodup)) ∧ Below w.heap.size w w' := by
  have hConv := conv_z a0 hs w
  have hl := bytesOf_length a0
  have d1 : decide ((16 : Int) < (a0.size : Int)) = false := decide_eq_false (by omega)
  have d2 : decide (16 < a0.size) = false := decide_eq_false h16
  have hC : ∀ (g cap : Nat) (w1 : World), Kz.R (Kd.int .u8) 5 w1 w.heap.size (fun _ => True) (.slice (some ⟨g, 0, none⟩) a0.size cap) (bytesOf a0) → Calls Tryz.prog 49 #[.slice (some ⟨g, 0, none⟩) a0.size cap, .func (.func 52) #[] #[]] w1 fun e w' => e = .returned (.bool false) ∧ ∃ q, w' = w1.drewN q := fun g cap w1 hR => by
    have hc := Tryz.slices_ContainsFunc_f49 (Value.int .u8) oddLetter 52 #[] (enters 52 Tryz.f52 Tryz.func52 rfl (by decide)) g 0 a0.size cap (bytesOf a0) w1 (odd_gives w1) (by omega) (by omega) (z_cells hR)
    rw [List.take_of_length_le (by omega), h] at hc
    exact hc
  have hS : ∀ (g cap : Nat) (w1 : World), Kz.R (Kd.int .u8) 5 w1 w.heap.size (fun _ => True) (.slice (some ⟨g, 0, none⟩) a0.size cap) (bytesOf a0) → Below w.heap.size w w1 → Calls Tryz.prog 53 #[.slice (some ⟨g, 0, none⟩) a0.size cap] w1 fun e w' => e = .returned (.tuple #[]) ∧ ∃ d' : Array Int, (Sort.PermIn 0 a0.size (bytesOf a0).toArray d' ∧ Sort.SortedIn Sort.ltInt 0 a0.size d') ∧ St w g a0.size cap d' w' := fun g cap w1 hR hb => by
    exact sort_st (A := w) (d := (bytesOf a0).toArray) ⟨⟨_, hR⟩, hb⟩ (by omega)
  have hP : ∀ (g cap : Nat) (w1 : World) (d' : Array Int), (Sort.PermIn 0 a0.size (bytesOf a0).toArray d' ∧ Sort.SortedIn Sort.ltInt 0 a0.size d') → St w g a0.size cap d' w1 → ∃ m : Nat, decide (m = a0.size) = decide (bytesOf a0).Nodup ∧ Calls Tryz.prog 54 #[.slice (some ⟨g, 0, none⟩) a0.size cap] w1 fun e w' => e = .returned (.slice (some ⟨g, 0, none⟩) m cap) ∧ Below w.heap.size w w' := fun g cap w1 d' hps hSt => by
    have hdl := hSt.len
    have hpl := perm_list (by simp; omega) hps.1
    simp only [List.toList_toArray] at hpl
    obtain ⟨⟨ok, hR⟩, hb⟩ := hSt
    obtain ⟨hn, hg, cur, fr, _, h1, _⟩ := Kz.R_at hR
    have e1 : (fun x y : Int => x == y) = fun x y => decide (x = y) := rfl
    have hH : Sort.Holds (Value.int .u8) w1 g 0 d' := fun j hj => by
      have := Kz.R_cells hR j (by simpa using hj)
      rw [Nat.zero_add, getElem!_pos d' j hj]
      exact ⟨by rw [this.1]; simp, this.2⟩
    have hci := PSim.compact_iff (bytesOf a0) d'.toList hpl (by simpa [hdl] using hps.2)
    rw [Array.toArray_toList, hl] at hci
    refine ⟨_, hci, ?_⟩
    have hc := Tryz.slices_Compact_f54 (Value.int .u8) (fun _ => rfl) (e1 ▸ EqlAt.int Tryz.prog 5 .u8) (e1 ▸ NeqAt.int Tryz.prog 5 .u8) 0 (fun w => Tryz.zeroValue5 w) g 0 cap d' w1 hH (by omega) (by simpa using h1)
    rw [hdl] at hc ⊢
    refine hc.mono ?_
    rintro e w' ⟨rfl, q, rfl⟩
    exact ⟨rfl, below_put hb hg⟩
  clear hs hl h
  generalize decide (bytesOf a0).Nodup = R at hP ⊢
  go_enter Tryz.func29, Tryz.ntmps29
  go_wp2_with (first | ((with_reducible refine gate_dst (N := 6) rfl ?_); refine convGo_ (some 6) rfl rfl 9 93 a0 rfl rfl ?_; refine hConv.mono ?_; rintro e w1 ⟨g, cap, rfl, hg, hR, hb⟩; refine ⟨_, rfl, ?_⟩) | (go_at_call 49; refine (hC _ _ _ hR).mono ?_; rintro e w2 ⟨rfl, q, rfl⟩) | (go_at_call 53; refine (hS _ _ _ (Kz.R_drewN hR _) (pw_below_drewN hb _)).mono ?_; rintro e w3 ⟨rfl, d', hps, hSt⟩; obtain ⟨m, hm, hcm⟩ := hP _ _ _ d' hps hSt; have HM := Hid1.mk hm; clear hm hps hSt hP) | (go_at_call 54; refine hcm.mono ?_; rintro e w4 ⟨rfl, hb4⟩))
  go_ret
  refine ⟨?_, hb4⟩
  have e2 : ((m : Int) == (a0.size : Int)) = R := by
    rw [← HM.out]
    by_cases hq : m = a0.size
    · rw [decide_eq_true hq, hq]; exact beq_self_eq_true _
    · rw [decide_eq_false hq]; exact beq_eq_false_iff_ne.mpr (by omega)
  first | exact (congrArg (fun b => Ending.returned (Value.bool b)) e2) | (congr 2; simp; exact e2) | (rw [← e2]; simp)
theorem value_may.calls (a0 : ByteArray) (r : Bool) (w : World) (h : value_may.f a0 = some r) :
    Calls Tryz.prog 29 #[.string a0] w fun e w' => e = .returned (.bool r) ∧ Below w.heap.size w w' := by
  unfold value_may.f at h
  split at h
  case isFalse => cases h
  case isTrue hs =>
    obtain rfl := Option.some.inj h
    unfold mayB
    by_cases h16 : 16 < a0.size
    · rw [decide_eq_false (by omega)]
      exact may_long a0 hs h16 w
    · rw [decide_eq_true (by omega)]
      by_cases ho : (bytesOf a0).any oddLetter = true
      · rw [ho]
        exact may_odd a0 hs h16 ho w
      · have ho' : (bytesOf a0).any oddLetter = false := by simpa using ho
        rw [ho']
        exact may_sorts a0 hs h16 ho' w
end Go.Proofs.YtahjnjlkpbjfnaaGreatDoor.P
