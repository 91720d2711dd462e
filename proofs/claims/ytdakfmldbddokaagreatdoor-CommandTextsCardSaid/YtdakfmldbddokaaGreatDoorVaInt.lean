/- The contract of Int. -/
import Derived.Test.YtdakfmldbddokaaGreatDoorVaShelf
import Derived.Test.YtdakfmldbddokaaGreatDoorVaSeq
import Derived.Test.YtdakfmldbddokaaGreatDoorMineB
import Derived.Test.YtdakfmldbddokaaGreatDoorPx2
import Derived.Lib.AtoiAllCases
set_option linter.unusedVariables false
set_option linter.unusedSimpArgs false
namespace Go.Proofs.YtdakfmldbddokaaGreatDoor.P
open Go Go.RowKit Go.Shelf Go.Proofs.YtdakfmldbddokaaGreatDoorW.PrintWords Go.Proofs.YtdakfmldbddokaaGreatDoorW.PrintLast Go.Proofs.YtdakfmldbddokaaGreatDoorW.PrintMore
def oddDigit (c : Int) : Bool := decide (c < 48) || decide (c > 57)
/-- What is behind a minus, and whether one is there. -/
def bare (s : ByteArray) : ByteArray := ⟨(Lib.trimPrefix s.data.toList [45]).toArray⟩
def minusOf (s : ByteArray) : Bool := Lib.hasPrefix s.data.toList [45]
def digOf (t : ByteArray) (m : Bool) : Bool :=
 if t.toList = ([] : List UInt8) then false
 else if (bytesOf t).any oddDigit = true then false
 else if bt t 0 = 48 then (if t.toList = ([48] : List UInt8) then !m else false) else true
theorem odd_dig (w : World) : PredAt Tryz.prog 87 #[] (Value.int .u8) oddDigit w := fun W x _ => by
 refine (value_digits_1.calls x (oddDigit x) W ?_).mono ?_
 ·unfold value_digits_1.f oddDigit
  by_cases h : x < 48
  ·rw [if_pos h, decide_eq_true h]; rfl
  ·rw [if_neg h, decide_eq_false h]; rfl
 ·rintro e w' ⟨rfl, nd, rfl⟩
  exact ⟨rfl, nd, rfl⟩
theorem dig_any (t : ByteArray) (hs : t.size ≤ 140737488355328) (w : World) : Calls Tryz.prog 55 #[.slice (some ⟨w.heap.size, 0, none⟩) t.size (grownCap w t.size 0 5), .func (.func 87) #[] #[]] (Lib.bytesWorld w 5 t) fun e w' => e = .returned (.bool ((bytesOf t).any oddDigit)) ∧ ∃ q, w' = (Lib.bytesWorld w 5 t).drewN q := by
 have hl := bytesOf_length t
 have hc := Tryz.slices_ContainsFunc (Value.int .u8) oddDigit 87 #[] (enters 87 Tryz.f87 Tryz.func87 rfl (by decide)) w.heap.size 0 t.size (grownCap w t.size 0 5) (bytesOf t) (Lib.bytesWorld w 5 t) (odd_dig _) (by omega) (by omega) (fun j hj => by
  have hj' : j < t.size := by omega
  rw [Nat.zero_add, Lib.bytesWorld_cell w 5 t j hj', getElem!_pos (bytesOf t) j hj]
  congr 2
  have hd : j < t.data.toList.length := by rw [Array.length_toList]; exact hj'
  simp [bytesOf, List.getD_eq_getElem?_getD, List.getElem?_eq_getElem hd])
 rw [List.take_of_length_le (by omega)] at hc
 exact hc
theorem bare_size (s : ByteArray) : (bare s).size ≤ s.size := by
 have e : s.data.toList.length = s.size := Array.length_toList
 have e2 : (bare s).size = (Lib.trimPrefix s.data.toList [45]).length := rfl
 rw [e2, ← e]
 unfold Lib.trimPrefix
 split
 ·rw [List.length_drop]; omega
 ·exact Nat.le_refl _
set_option maxRecDepth 100000 in
set_option maxHeartbeats 4000000 in
theorem digits_walk (a0 : ByteArray) (hs : a0.size ≤ 140737488355328) (w : World) : Calls Tryz.prog 64 #[.string a0] w fun e w' => e = .returned (.bool (digOf (bare a0) (minusOf a0))) ∧ Below w.heap.size w w' := by
 have hP := Tryz.strings_CutPrefix a0 ⟨#[45]⟩ w
 have hz := bare_size a0
 have hA := fun W => dig_any (bare a0) (by omega) W
 have hconv : ∀ W : World, (convert 9 69 (.string (bare a0))).run Tryz.prog W = .ok (.slice (some ⟨W.heap.size, 0, none⟩) (bare a0).size (grownCap W (bare a0).size 0 5)) (Lib.bytesWorld W 5 (bare a0)) := fun W => Lib.run_convert_string_bytes W 9 69 5 (bare a0) Tryz.underlying9 Tryz.underlying69 Tryz.underlying5
 have hP' : Calls Tryz.prog 86 #[.string a0, .string ⟨#[45]⟩] w fun e w' => e = .returned (.tuple #[.string (bare a0), .bool (minusOf a0)]) ∧ w' = w := hP
 clear hP hs hz
 unfold digOf
 generalize bare a0 = t at hA hconv hP' ⊢
 generalize minusOf a0 = m at hP' ⊢
 by_cases h0 : t.toList = ([] : List UInt8)
 ·have b0 : (t.toList == ([] : List UInt8)) = true := beq_iff_eq.mpr h0
  rw [if_pos h0]
  go_enter Tryz.func64, Tryz.ntmps64
  go_wp2_with (go_at_call 86; refine hP'.mono ?_; rintro e w' ⟨rfl, rfl⟩)
  go_ret
  exact ⟨rfl, Below.refl _ _⟩
 ·have b0 : (t.toList == ([] : List UInt8)) = false := beq_eq_false_iff_ne.mpr h0
  rw [if_neg h0]
  by_cases h1 : (bytesOf t).any oddDigit = true
  ·rw [if_pos h1]
   rw [h1] at hA
   clear h0
   go_enter Tryz.func64, Tryz.ntmps64
   go_wp2_with (first | (go_at_call 86; refine hP'.mono ?_; rintro e w' ⟨rfl, rfl⟩) | (go_at_call 55; refine (hA _).mono ?_; rintro e w' ⟨rfl, q, rfl⟩))
   go_ret
   exact ⟨rfl, pw_below_drewN (bytesWorld_below _ _ _) _⟩
  ·have h1' : (bytesOf t).any oddDigit = false := by simpa using h1
   rw [if_neg h1]
   rw [h1'] at hA
   have hpos : 0 < t.size := by
    have e : t.toList.length = t.size := by rw [ByteArray.toList_eq]; exact Array.length_toList
    rcases Nat.eq_zero_or_pos t.size with q | q
    ·exact absurd (List.length_eq_zero_iff.1 (e.trans q)) h0
    ·exact q
   obtain ⟨x, hx⟩ : ∃ x : Int, bt t 0 = x := ⟨_, rfl⟩
   have hbt : ((t[0]'hpos).toNat : Int) = x := (bt_at t 0 hpos).trans hx
   rw [hx]
   clear h0 hx
   by_cases h2 : x = 48
   ·subst h2
    rw [if_pos rfl]
    by_cases h3 : t.toList = ([48] : List UInt8)
    ·have b3 : (t.toList == ([48] : List UInt8)) = true := beq_iff_eq.mpr h3
     rw [if_pos h3]
     go_enter Tryz.func64, Tryz.ntmps64
     go_wp2_with (first | (go_at_call 86; refine hP'.mono ?_; rintro e w' ⟨rfl, rfl⟩) | (go_at_call 55; refine (hA _).mono ?_; rintro e w' ⟨rfl, q, rfl⟩))
     go_ret
     exact ⟨by first | rfl | simp, pw_below_drewN (bytesWorld_below _ _ _) _⟩
    ·have b3 : (t.toList == ([48] : List UInt8)) = false := beq_eq_false_iff_ne.mpr h3
     rw [if_neg h3]
     go_enter Tryz.func64, Tryz.ntmps64
     go_wp2_with (first | (go_at_call 86; refine hP'.mono ?_; rintro e w' ⟨rfl, rfl⟩) | (go_at_call 55; refine (hA _).mono ?_; rintro e w' ⟨rfl, q, rfl⟩))
     go_ret
     exact ⟨by first | rfl | simp, pw_below_drewN (bytesWorld_below _ _ _) _⟩
   ·have b2 : (x != 48) = true := bne_iff_ne.mpr h2
    have b4 : (x == 48) = false := beq_eq_false_iff_ne.mpr h2
    rw [if_neg h2]
    go_enter Tryz.func64, Tryz.ntmps64
    go_wp2_with (first | (go_at_call 86; refine hP'.mono ?_; rintro e w' ⟨rfl, rfl⟩) | (go_at_call 55; refine (hA _).mono ?_; rintro e w' ⟨rfl, q, rfl⟩))
    go_ret
    exact ⟨by first | rfl | simp [h2], pw_below_drewN (bytesWorld_below _ _ _) _⟩
theorem atoi_ok (s : ByteArray) (hs : s.size ≤ 281474976710656) (v : Int) (h : Lib.atoiAll s.data.toList = .ok v) (w : World) : Calls Tryz.prog 65 #[.string s] w fun e w' => e = .returned (.tuple #[.int .i64 v, .nilIface]) ∧ Below w.heap.size w w' := by
 refine (Tryz.strconv_Atoi_ok s (by omega) v h w).mono ?_
 rintro e w' ⟨rfl, hw⟩
 refine ⟨rfl, ?_⟩
 rcases hw with rfl | ⟨t, rfl⟩
 ·exact Below.refl _ _
 ·exact Lib.bytesWorld_below _ _ _
theorem atoi_bad (s : ByteArray) (hs : s.size ≤ 281474976710656) (h : ∀ v, Lib.atoiAll s.data.toList ≠ .ok v) : ∃ (v : Int) (te : TypeId), ∀ w : World, GL w → Calls Tryz.prog 65 #[.string s] w fun e w' => ∃ pe, e = .returned (.tuple #[.int .i64 v, .iface te pe]) ∧ Below w.heap.size w w' := by
 rcases hh : Lib.atoiAll s.data.toList with v | _ | _
 ·exact absurd hh (h v)
 ·apply Exists.intro; apply Exists.intro; intro w hG
  obtain ⟨te, pe, hv⟩ := hG.syn
  refine (Tryz.strconv_Atoi_syntax s hs hh _ w hv (.inr ⟨te, pe, rfl⟩)).mono ?_
  rintro e w' ⟨N, rfl, _, _, hb⟩
  exact ⟨_, rfl, hb⟩
 ·apply Exists.intro; apply Exists.intro; intro w hG
  obtain ⟨te, pe, hv⟩ := hG.rng
  refine (Tryz.strconv_Atoi_range s hs hh _ w hv (.inr ⟨te, pe, rfl⟩)).mono ?_
  rintro e w' ⟨N, rfl, _, _, hb⟩
  exact ⟨_, rfl, hb⟩
/-- What Int answers. -/
def intOf (s : ByteArray) (lo hi : Int) : Int × Option Int :=
 if s.toList = ([] : List UInt8) then (0, some 13)
 else if digOf (bare s) (minusOf s) = false then (0, some 3)
 else if 19 < s.size then (0, some 3)
 else match Lib.atoiAll s.data.toList with
  | .ok v => if v < lo then (0, some 5) else if v > hi then (0, some 5) else (v, none)
  | _ => (0, some 5)
def vInt.f (a0 : ByteArray) (a1 a2 : Int) : Option (Int × Option Int) := if a0.size ≤ 140737488355328 then some (intOf a0 a1 a2) else none
set_option maxRecDepth 100000 in
set_option maxHeartbeats 4000000 in
theorem int_walk (a0 : ByteArray) (hs : a0.size ≤ 140737488355328) (a1 a2 : Int) (w : World) (hG : GL w) :
  Calls Tryz.prog 39 #[.string a0, .int .i64 a1, .int .i64 a2] w fun e w' => e = .returned (.tuple #[.int .i64 (intOf a0 a1 a2).1, errW (intOf a0 a1 a2).2]) ∧ Below w.heap.size w w' := by
 have hD := digits_walk a0 hs w
 have hbad := atoi_bad a0 (by omega)
 have hok := atoi_ok a0 (by omega)
 unfold intOf
 generalize digOf (bare a0) (minusOf a0) = dg at hD ⊢
 by_cases h0 : a0.toList = ([] : List UInt8)
 ·have b0 : (a0.toList == ([] : List UInt8)) = true := beq_iff_eq.mpr h0
  rw [if_pos h0]
  clear hG hbad hok
  go_enter Tryz.func39, Tryz.ntmps39
  go_wp2
  first | go_ret2 | go_ret
  exact ⟨rfl, Below.refl _ _⟩
 ·have b0 : (a0.toList == ([] : List UInt8)) = false := beq_eq_false_iff_ne.mpr h0
  rw [if_neg h0]
  clear h0
  by_cases h1 : dg = false
  ·subst h1
   rw [if_pos rfl]
   clear hG hbad hok
   go_enter Tryz.func39, Tryz.ntmps39
   go_wp2_with (go_at_call 64; refine hD.mono ?_; rintro e w' ⟨rfl, hb⟩)
   first | go_ret2 | go_ret
   exact ⟨rfl, hb⟩
  ·have h1' : dg = true := by simpa using h1
   subst h1'
   rw [if_neg (by decide)]
   clear h1
   by_cases h2 : 19 < a0.size
   ·have d1 : decide ((19 : Int) < (a0.size : Int)) = true := decide_eq_true (by omega)
    have d2 : decide (19 < a0.size) = true := decide_eq_true h2
    rw [if_pos h2]
    clear hG hbad hok hs
    go_enter Tryz.func39, Tryz.ntmps39
    go_wp2_with (go_at_call 64; refine hD.mono ?_; rintro e w' ⟨rfl, hb⟩)
    first | go_ret2 | go_ret
    exact ⟨rfl, hb⟩
   ·have d1 : decide ((19 : Int) < (a0.size : Int)) = false := decide_eq_false (by omega)
    have d2 : decide (19 < a0.size) = false := decide_eq_false h2
    rw [if_neg h2]
    clear hs h2
    rcases hh : Lib.atoiAll a0.data.toList with v | _ | _
    ·have hA := hok v hh
     clear hbad hok hG hh
     simp only
     by_cases h3 : v < a1
     ·have d3 : decide (v < a1) = true := decide_eq_true h3
      rw [if_pos h3]
      go_enter Tryz.func39, Tryz.ntmps39
      go_wp2_with (first | (go_at_call 64; refine hD.mono ?_; rintro e w' ⟨rfl, hb⟩) | (go_at_call 65; refine (hA _).mono ?_; rintro e w2 ⟨rfl, hb2⟩))
      first | go_ret2 | go_ret
      exact ⟨rfl, below_step hb hb2⟩
     ·have d3 : decide (v < a1) = false := decide_eq_false h3
      rw [if_neg h3]
      by_cases h4 : v > a2
      ·have d4 : decide (a2 < v) = true := decide_eq_true h4
       rw [if_pos h4]
       go_enter Tryz.func39, Tryz.ntmps39
       go_wp2_with (first | (go_at_call 64; refine hD.mono ?_; rintro e w' ⟨rfl, hb⟩) | (go_at_call 65; refine (hA _).mono ?_; rintro e w2 ⟨rfl, hb2⟩))
       first | go_ret2 | go_ret
       exact ⟨rfl, below_step hb hb2⟩
      ·have d4 : decide (a2 < v) = false := decide_eq_false h4
       rw [if_neg h4]
       go_enter Tryz.func39, Tryz.ntmps39
       go_wp2_with (first | (go_at_call 64; refine hD.mono ?_; rintro e w' ⟨rfl, hb⟩) | (go_at_call 65; refine (hA _).mono ?_; rintro e w2 ⟨rfl, hb2⟩))
       first | go_ret2 | go_ret
       exact ⟨rfl, below_step hb hb2⟩
    all_goals
     obtain ⟨v, te, hB⟩ := hbad (fun v hv => by rw [hh] at hv; cases hv)
     have hA : ∀ W, Below w.heap.size w W → _ := fun W hb => hB W (hG.below hb)
     clear hbad hok hh hB
     simp only
     go_enter Tryz.func39, Tryz.ntmps39
     go_wp2_with (first | (go_at_call 64; refine hD.mono ?_; rintro e w' ⟨rfl, hb⟩) | (go_at_call 65; refine (hA _ hb).mono ?_; rintro e w2 ⟨pe, rfl, hb2⟩))
     first | go_ret2 | go_ret
     exact ⟨rfl, below_step hb hb2⟩
theorem vInt.calls (a0 : ByteArray) (a1 a2 : Int) (r1 : Int) (r2 : Option Int) (w : World) (h : vInt.f a0 a1 a2 = some (r1, r2)) (hG : GL w) :
  Calls Tryz.prog 39 #[.string a0, .int .i64 a1, .int .i64 a2] w fun e w' => e = .returned (.tuple #[.int .i64 r1, errW r2]) ∧ Below w.heap.size w w' := by
 unfold vInt.f at h
 split at h
 case isFalse => cases h
 case isTrue hs =>
  have e := Option.some.inj h
  have e1 : r1 = (intOf a0 a1 a2).1 := by rw [e]
  have e2 : r2 = (intOf a0 a1 a2).2 := by rw [e]
  rw [e1, e2]
  exact int_walk a0 hs a1 a2 w hG
end Go.Proofs.YtdakfmldbddokaaGreatDoor.P
