-- written by myprint.py (this claim's own program, after the kit's print)
import Derived.Test.YtpagbmkdphdjoaaGreatDoorPx0
import Derived.Test.YtpagbmkdphdjoaaGreatDoorPack
namespace Go.Proofs.YtpagbmkdphdjoaaGreatDoor.P
open Go.RowKit Go.Proofs.YtpagbmkdphdjoaaGreatDoorW.PrintWords Go.Proofs.YtpagbmkdphdjoaaGreatDoorW.PrintLast Go.Proofs.YtpagbmkdphdjoaaGreatDoorW.PrintMore
attribute [local go_sem] max2_int min2_int max_two min_two max_three min_three max_four min_four   -- for this text's walks alone
set_option linter.unusedVariables false
set_option linter.unusedSimpArgs false

/-! ### rule_among: function 26 -/
def rule_among.f (a0 : Int) (a1 : Int) : Option (Bool) := if a0 = 0 then (some false) else (if a0 ≥ (wrap64 (-a1)) then (some (decide (a0 ≤ a1))) else (some false))
set_option maxHeartbeats 2000000 in
set_option maxRecDepth 100000 in
theorem rule_among.calls (a0 : Int) (a1 : Int) (r : Bool) (w : World) (h : rule_among.f a0 a1 = some r) :
  Calls Tryz.prog 26 #[.int .i64 a0, .int .i64 a1] w fun e w' => e = .returned (.bool r) ∧ Drawn0 w w' := by
 have H : (if a0 = 0 then (some false) else (if a0 ≥ (wrap64 (-a1)) then (some (decide (a0 ≤ a1))) else (some false))) = some r := h;clear h
 by_cases c3 : a0 = 0
 ·rw [if_pos c3] at H;have c3b0 : (a0 == 0) = true := beq_iff_eq.mpr c3;have c3b1 : (a0 != 0) = false := bne_eq_false_iff_eq.mpr c3;clear c3;obtain rfl := Option.some.inj H
  go_enter Tryz.func26, Tryz.ntmps26
  go_wp2
  go_ret
  exact ⟨by first | rfl | (simp; done) | (simp [*]; done) | (simp; unfold wrap64; omega), by repeat (first | exact Drawn0.refl _ | apply Drawn0.step)⟩
 ·rw [if_neg c3] at H;have c3b0 : (a0 == 0) = false := beq_eq_false_iff_ne.mpr c3;have c3b1 : (a0 != 0) = true := bne_iff_ne.mpr c3
  by_cases c4 : a0 ≥ (wrap64 (-a1))
  ·rw [if_pos c4] at H;have c4b0 : decide ((wrap64 (-a1)) ≤ a0) = true := dY c4;clear c4;obtain rfl := Option.some.inj H
   go_enter Tryz.func26, Tryz.ntmps26
   go_wp2
   go_ret
   exact ⟨by first | rfl | (simp; done) | (simp [*]; done) | (simp; unfold wrap64; omega), by repeat (first | exact Drawn0.refl _ | apply Drawn0.step)⟩
  ·rw [if_neg c4] at H;have c4b0 : decide ((wrap64 (-a1)) ≤ a0) = false := dN c4;clear c4;obtain rfl := Option.some.inj H
   go_enter Tryz.func26, Tryz.ntmps26
   go_wp2
   go_ret
   exact ⟨by first | rfl | (simp; done) | (simp [*]; done) | (simp; unfold wrap64; omega), by repeat (first | exact Drawn0.refl _ | apply Drawn0.step)⟩

/-! ### civil_Leap: function 40 -/
def civil_Leap.f (a0 : Int) : Option (Bool) := if (Int.tmod a0 4) = 0 then (if (Int.tmod a0 100) = 0 then (some ((Int.tmod a0 400) == 0)) else (some true)) else (some false)
set_option maxHeartbeats 2000000 in
set_option maxRecDepth 100000 in
theorem civil_Leap.calls (a0 : Int) (r : Bool) (w : World) (h : civil_Leap.f a0 = some r) :
  Calls Tryz.prog 40 #[.int .i64 a0] w fun e w' => e = .returned (.bool r) ∧ Drawn0 w w' := by
 have H : (if (Int.tmod a0 4) = 0 then (if (Int.tmod a0 100) = 0 then (some ((Int.tmod a0 400) == 0)) else (some true)) else (some false)) = some r := h;clear h
 by_cases c2 : (Int.tmod a0 4) = 0
 ·rw [if_pos c2] at H;have c2b0 : ((Int.tmod a0 4) == 0) = true := beq_iff_eq.mpr c2;have c2b1 : ((Int.tmod a0 4) != 0) = false := bne_eq_false_iff_eq.mpr c2;clear c2
  by_cases c3 : (Int.tmod a0 100) = 0
  ·rw [if_pos c3] at H;have c3b0 : ((Int.tmod a0 100) == 0) = true := beq_iff_eq.mpr c3;have c3b1 : ((Int.tmod a0 100) != 0) = false := bne_eq_false_iff_eq.mpr c3;clear c3;obtain rfl := Option.some.inj H
   go_enter Tryz.func40, Tryz.ntmps40
   go_wp2
   go_ret
   exact ⟨by first | rfl | (simp; done) | (simp [*]; done) | (simp; unfold wrap64; omega), by repeat (first | exact Drawn0.refl _ | apply Drawn0.step)⟩
  ·rw [if_neg c3] at H;have c3b0 : ((Int.tmod a0 100) == 0) = false := beq_eq_false_iff_ne.mpr c3;have c3b1 : ((Int.tmod a0 100) != 0) = true := bne_iff_ne.mpr c3;obtain rfl := Option.some.inj H
   go_enter Tryz.func40, Tryz.ntmps40
   go_wp2
   go_ret
   exact ⟨by first | rfl | (simp; done) | (simp [*]; done) | (simp; unfold wrap64; omega), by repeat (first | exact Drawn0.refl _ | apply Drawn0.step)⟩
 ·rw [if_neg c2] at H;have c2b0 : ((Int.tmod a0 4) == 0) = false := beq_eq_false_iff_ne.mpr c2;have c2b1 : ((Int.tmod a0 4) != 0) = true := bne_iff_ne.mpr c2;obtain rfl := Option.some.inj H
  go_enter Tryz.func40, Tryz.ntmps40
  go_wp2
  go_ret
  exact ⟨by first | rfl | (simp; done) | (simp [*]; done) | (simp; unfold wrap64; omega), by repeat (first | exact Drawn0.refl _ | apply Drawn0.step)⟩

/-! ### civil_Length: function 18 -/
mutual
def civil_Length.j0 : Nat → Int → Int → Bool → Option (Int × Option Int)
 | 0, _, _, _ => none
 | k + 1, x0, x1, x19 => if x19 = true then (some (0, some 1)) else (if x1 = 2 then ((civil_Leap.f x0).bind fun t126 => (civil_Length.j1 k x1 t126)) else (civil_Length.j1 k x1 false))
def civil_Length.j1 : Nat → Int → Bool → Option (Int × Option Int)
 | 0, _, _ => none
 | k + 1, x1, x21 => if x21 = true then (some (29, none)) else (if x1 = 2 then (some (28, none)) else (if x1 = 4 then (civil_Length.j2 k true) else (if x1 = 6 then (civil_Length.j2 k true) else (if x1 = 9 then (civil_Length.j2 k true) else (civil_Length.j2 k (x1 == 11))))))
def civil_Length.j2 : Nat → Bool → Option (Int × Option Int)
 | 0, _ => none
 | k + 1, x31 => if x31 = true then (some (30, none)) else (some (31, none))
end
def civil_Length.f (k : Nat) (a0 : Int) (a1 : Int) : Option (Int × Option Int) := if a1 < 1 then (civil_Length.j0 k a0 a1 true) else (if a1 > 12 then (civil_Length.j0 k a0 a1 true) else (if a0 < (-274877906944) then (civil_Length.j0 k a0 a1 true) else (civil_Length.j0 k a0 a1 (decide (a0 > 274877906944)))))
theorem civil_Length.mono_l : ∀ k, (∀ y0 y1 y2, LeO (civil_Length.j0 k y0 y1 y2) (civil_Length.j0 (k + 1) y0 y1 y2)) ∧ (∀ y0 y1, LeO (civil_Length.j1 k y0 y1) (civil_Length.j1 (k + 1) y0 y1)) ∧ (∀ y0, LeO (civil_Length.j2 k y0) (civil_Length.j2 (k + 1) y0))
 | 0 => ⟨fun _ _ _ r h => by simp [civil_Length.j0] at h, fun _ _ r h => by simp [civil_Length.j1] at h, fun _ r h => by simp [civil_Length.j2] at h⟩
 | k + 1 => by
  obtain ⟨ih0, ih1, ih2⟩ := civil_Length.mono_l k;refine ⟨?_, ?_, ?_⟩
  ·intro y0 y1 y2;unfold civil_Length.j0
   repeat' first
   | (with_reducible exact ih0 _ _ _)
   | (with_reducible exact ih1 _ _)
   | (with_reducible exact ih2 _)
   | (with_reducible exact LeO.refl _)
   | (with_reducible exact LeO.none _)
   | (with_reducible refine LeO.ite ?_ ?_)
   | (with_reducible refine LeO.bind ?_ (fun _ => ?_))
   | exact ih0 _ _ _
   | exact ih1 _ _
   | exact ih2 _
   | exact LeO.none _
   | refine LeO.ite ?_ ?_
   | refine LeO.bind ?_ (fun _ => ?_)
  ·intro y0 y1;unfold civil_Length.j1
   repeat' first
   | (with_reducible exact ih0 _ _ _)
   | (with_reducible exact ih1 _ _)
   | (with_reducible exact ih2 _)
   | (with_reducible exact LeO.refl _)
   | (with_reducible exact LeO.none _)
   | (with_reducible refine LeO.ite ?_ ?_)
   | (with_reducible refine LeO.bind ?_ (fun _ => ?_))
   | exact ih0 _ _ _
   | exact ih1 _ _
   | exact ih2 _
   | exact LeO.none _
   | refine LeO.ite ?_ ?_
   | refine LeO.bind ?_ (fun _ => ?_)
  ·intro y0;unfold civil_Length.j2
   repeat' first
   | (with_reducible exact ih0 _ _ _)
   | (with_reducible exact ih1 _ _)
   | (with_reducible exact ih2 _)
   | (with_reducible exact LeO.refl _)
   | (with_reducible exact LeO.none _)
   | (with_reducible refine LeO.ite ?_ ?_)
   | (with_reducible refine LeO.bind ?_ (fun _ => ?_))
   | exact ih0 _ _ _
   | exact ih1 _ _
   | exact ih2 _
   | exact LeO.none _
   | refine LeO.ite ?_ ?_
   | refine LeO.bind ?_ (fun _ => ?_)
theorem civil_Length.mono : ∀ a0 a1 k, LeO (civil_Length.f k a0 a1) (civil_Length.f (k + 1) a0 a1) := by
 intro a0 a1 k;obtain ⟨ih0, ih1, ih2⟩ := civil_Length.mono_l k;unfold civil_Length.f
 repeat' first
   | (with_reducible exact ih0 _ _ _)
   | (with_reducible exact ih1 _ _)
   | (with_reducible exact ih2 _)
   | (with_reducible exact LeO.refl _)
   | (with_reducible exact LeO.none _)
   | (with_reducible refine LeO.ite ?_ ?_)
   | (with_reducible refine LeO.bind ?_ (fun _ => ?_))
   | exact ih0 _ _ _
   | exact ih1 _ _
   | exact ih2 _
   | exact LeO.none _
   | refine LeO.ite ?_ ?_
   | refine LeO.bind ?_ (fun _ => ?_)
set_option maxHeartbeats 2000000 in
set_option maxRecDepth 100000 in
theorem civil_Length.calls (k : Nat) (a0 : Int) (a1 : Int) (r1 : Int) (r2 : Option Int) (w : World) (h : civil_Length.f k a0 a1 = some (r1, r2)) :
  Calls Tryz.prog 18 #[.int .i64 a0, .int .i64 a1] w fun e w' => e = .returned (.tuple #[.int .i64 r1, errW r2]) ∧ Drawn0 w w' := by
 have hu27 := Tryz.underlying27;have hu49 := Tryz.underlying49;have H : (if a1 < 1 then (civil_Length.j0 k a0 a1 true) else (if a1 > 12 then (civil_Length.j0 k a0 a1 true) else (if a0 < (-274877906944) then (civil_Length.j0 k a0 a1 true) else (civil_Length.j0 k a0 a1 (decide (a0 > 274877906944)))))) = some (r1, r2) := h;clear h;have HC3 := As H;clear H
 go_enter Tryz.func18, Tryz.ntmps18
 go_upto_region 1 with (fail)
 go_cut [19] (fun v19 wc => ∃ (kq : Nat) (x19_2 : Bool), v19 = .bool x19_2 ∧ Aside0 (civil_Length.j0 kq a0 a1 x19_2 = some (r1, r2)) ∧ Aside0 (kq ≤ k) ∧ Drawn0 w wc)
 case first =>
  have H := HC3.out;clear HC3
  by_cases c4 : a1 < 1
  rw [if_pos c4] at H;have c4b0 : decide (a1 < 1) = true := dY c4;clear c4
  (first | rw [c4b0] | (simp only [i64_w, i32_w]; rw [c4b0]) | skip)
  have H' := As H;clear H
  have m3_ := trivial
  rotate_left
  focus
   rw [if_neg c4] at H;have c4b0 : decide (a1 < 1) = false := dN c4;clear c4
   (first | rw [c4b0] | (simp only [i64_w, i32_w]; rw [c4b0]) | skip)
   by_cases c5 : a1 > 12
   rw [if_pos c5] at H;have c5b0 : decide (12 < a1) = true := dY c5;clear c5;have H' := As H;clear H
   have m2_ := trivial
   rotate_left
   focus
    rw [if_neg c5] at H;have c5b0 : decide (12 < a1) = false := dN c5;clear c5
    by_cases c6 : a0 < (-274877906944)
    rw [if_pos c6] at H;have c6b0 : decide (a0 < (-274877906944)) = true := dY c6;clear c6;have H' := As H;clear H
    have m1_ := trivial
    rotate_left
    rw [if_neg c6] at H;have c6b0 : decide (a0 < (-274877906944)) = false := dN c6;clear c6;have H' := As H;clear H
  all_goals
   go_wp2
   go_meet
  all_goals try
   first | (clear m1_; have m1_ := trivial) | (clear m2_; have m2_ := trivial) | (clear m3_; have m3_ := trivial)
   case rel => exact ⟨_, (true), sw, H', ⟨by first | omega | exact Nat.le_refl _⟩, by repeat (first | exact Drawn0.refl _ | apply Drawn0.step)⟩
  ·case rel => exact ⟨_, (decide (a0 > 274877906944)), sw, H', ⟨by first | omega | exact Nat.le_refl _⟩, by repeat (first | exact Drawn0.refl _ | apply Drawn0.step)⟩
 case rest =>
  clear HC3
  try clear c1
  try clear p2
  try clear c4
  try clear c4b0
  try clear c5
  try clear c5b0
  try clear c6
  try clear c6b0
  try clear p6
  obtain ⟨kq, x19_2, rfl, HA, HJ2, ⟨mc2, rfl⟩⟩ := hcut
  cases kq with
  | zero => exact absurd HA.out (by simp [civil_Length.j0])
  | succ kj2 =>
   have H := HA.out;clear HA;simp only [civil_Length.j0] at H
   by_cases c7 : x19_2 = true
   ·subst c7
    have H1 : (some (0, some 1)) = some (r1, r2) := by rw [if_pos rfl] at H; exact H
    clear H;have H := H1;clear H1;simp only [Option.some.injEq, Prod.mk.injEq] at H;obtain ⟨rfl, rfl⟩ := H
    go_wp2
    go_ret2
    exact ⟨by first | rfl | (simp; done) | (simp [*]; done) | (simp; unfold wrap64; omega), by repeat (first | exact Drawn0.refl _ | apply Drawn0.step)⟩
   ·replace c7 := Bool.eq_false_iff.mpr c7;subst c7
    have H1 : (if a1 = 2 then ((civil_Leap.f a0).bind fun t126 => (civil_Length.j1 kj2 a1 t126)) else (civil_Length.j1 kj2 a1 false)) = some (r1, r2) := by rw [if_neg (show ¬ (false = true) by decide)] at H; exact H
    clear H;have H := H1;clear H1;have HC8 := As H;clear H
    go_upto_region 3 with (fail)
    go_cut [21] (fun v21 wc => ∃ (kq : Nat) (x21_7 : Bool), v21 = .bool x21_7 ∧ Aside0 (civil_Length.j1 kq a1 x21_7 = some (r1, r2)) ∧ Aside0 (kq ≤ kj2) ∧ Drawn0 w wc)
    case first =>
     have H := HC8.out;clear HC8
     by_cases c9 : a1 = 2
     ·rw [if_pos c9] at H;have c9b0 : (a1 == 2) = true := beq_iff_eq.mpr c9;have c9b1 : (a1 != 2) = false := bne_eq_false_iff_eq.mpr c9;clear c9
      (first | rw [c9b0] | (simp only [i64_w, i32_w]; rw [c9b0]) | skip)
      replace H := bE H;obtain ⟨t126, A100, H⟩ := H;replace H : (civil_Length.j1 kj2 a1 t126) = some (r1, r2) := H;have A10 := As A100;clear A100;have H' := As H;clear H
      go_wp2_with (first | (go_at_call 40; (with_reducible refine (civil_Leap.calls a0 _ _ A10.out).mono ?_); rintro e w' ⟨rfl, ⟨nd, rfl⟩⟩))
      go_meet
      case rel => exact ⟨_, (t126), sw, H', ⟨by have := HJ2.out; first | omega | exact Nat.le_refl _⟩, by repeat (first | exact Drawn0.refl _ | apply Drawn0.step)⟩
     ·rw [if_neg c9] at H;have c9b0 : (a1 == 2) = false := beq_eq_false_iff_ne.mpr c9;have c9b1 : (a1 != 2) = true := bne_iff_ne.mpr c9
      (first | rw [c9b0] | (simp only [i64_w, i32_w]; rw [c9b0]) | skip)
      have H' := As H;clear H
      go_wp2
      go_meet
      case rel => exact ⟨_, (false), sw, H', ⟨by have := HJ2.out; first | omega | exact Nat.le_refl _⟩, by repeat (first | exact Drawn0.refl _ | apply Drawn0.step)⟩
    case rest =>
     clear HC8
     try clear c1
     try clear c2
     try clear p2
     try clear c4
     try clear c4b0
     try clear c5
     try clear c5b0
     try clear c6
     try clear c6b0
     try clear p6
     try clear c7
     try clear c9
     try clear c9b0
     try clear c9b1
     try clear p2
     try clear p6
     obtain ⟨kq, x21_7, rfl, HA, HJ7, ⟨mc7, rfl⟩⟩ := hcut
     cases kq with
     | zero => exact absurd HA.out (by simp [civil_Length.j1])
     | succ kj7 =>
      have H := HA.out;clear HA;simp only [civil_Length.j1] at H
      by_cases c11 : x21_7 = true
      ·subst c11
       have H1 : (some (29, none)) = some (r1, r2) := by rw [if_pos rfl] at H; exact H
       clear H;have H := H1;clear H1;simp only [Option.some.injEq, Prod.mk.injEq] at H;obtain ⟨rfl, rfl⟩ := H
       go_wp2
       go_ret2
       exact ⟨by first | rfl | (simp; done) | (simp [*]; done) | (simp; unfold wrap64; omega), by repeat (first | exact Drawn0.refl _ | apply Drawn0.step)⟩
      ·replace c11 := Bool.eq_false_iff.mpr c11;subst c11
       have H1 : (if a1 = 2 then (some (28, none)) else (if a1 = 4 then (civil_Length.j2 kj7 true) else (if a1 = 6 then (civil_Length.j2 kj7 true) else (if a1 = 9 then (civil_Length.j2 kj7 true) else (civil_Length.j2 kj7 (a1 == 11)))))) = some (r1, r2) := by rw [if_neg (show ¬ (false = true) by decide)] at H; exact H
       clear H;have H := H1;clear H1
       by_cases c12 : a1 = 2
       ·rw [if_pos c12] at H;have c12b0 : (a1 == 2) = true := beq_iff_eq.mpr c12;have c12b1 : (a1 != 2) = false := bne_eq_false_iff_eq.mpr c12;clear c12;simp only [Option.some.injEq, Prod.mk.injEq] at H;obtain ⟨rfl, rfl⟩ := H
        go_wp2
        go_ret2
        exact ⟨by first | rfl | (simp; done) | (simp [*]; done) | (simp; unfold wrap64; omega), by repeat (first | exact Drawn0.refl _ | apply Drawn0.step)⟩
       ·rw [if_neg c12] at H;have c12b0 : (a1 == 2) = false := beq_eq_false_iff_ne.mpr c12;have c12b1 : (a1 != 2) = true := bne_iff_ne.mpr c12;have HC13 := As H;clear H
        go_upto_region 7 with (fail)
        go_cut [31] (fun v31 wc => ∃ (kq : Nat) (x31_12 : Bool), v31 = .bool x31_12 ∧ Aside0 (civil_Length.j2 kq x31_12 = some (r1, r2)) ∧ Aside0 (kq ≤ kj7) ∧ Drawn0 w wc)
        case first =>
         have H := HC13.out;clear HC13
         by_cases c14 : a1 = 4
         rw [if_pos c14] at H;have c14b0 : (a1 == 4) = true := beq_iff_eq.mpr c14;have c14b1 : (a1 != 4) = false := bne_eq_false_iff_eq.mpr c14;clear c14
         (first | rw [c14b0] | (simp only [i64_w, i32_w]; rw [c14b0]) | skip)
         have H' := As H;clear H
         have m6_ := trivial
         rotate_left
         focus
          rw [if_neg c14] at H;have c14b0 : (a1 == 4) = false := beq_eq_false_iff_ne.mpr c14;have c14b1 : (a1 != 4) = true := bne_iff_ne.mpr c14
          (first | rw [c14b0] | (simp only [i64_w, i32_w]; rw [c14b0]) | skip)
          by_cases c15 : a1 = 6
          rw [if_pos c15] at H;have c15b0 : (a1 == 6) = true := beq_iff_eq.mpr c15;have c15b1 : (a1 != 6) = false := bne_eq_false_iff_eq.mpr c15;clear c15;have H' := As H;clear H
          have m5_ := trivial
          rotate_left
          focus
           rw [if_neg c15] at H;have c15b0 : (a1 == 6) = false := beq_eq_false_iff_ne.mpr c15;have c15b1 : (a1 != 6) = true := bne_iff_ne.mpr c15
           by_cases c16 : a1 = 9
           rw [if_pos c16] at H;have c16b0 : (a1 == 9) = true := beq_iff_eq.mpr c16;have c16b1 : (a1 != 9) = false := bne_eq_false_iff_eq.mpr c16;clear c16;have H' := As H;clear H
           have m4_ := trivial
           rotate_left
           rw [if_neg c16] at H;have c16b0 : (a1 == 9) = false := beq_eq_false_iff_ne.mpr c16;have c16b1 : (a1 != 9) = true := bne_iff_ne.mpr c16;have H' := As H;clear H
         all_goals
          go_wp2
          go_meet
         all_goals try
          first | (clear m4_; have m4_ := trivial) | (clear m5_; have m5_ := trivial) | (clear m6_; have m6_ := trivial)
          case rel => exact ⟨_, (true), sw, H', ⟨by have := HJ2.out; have := HJ7.out; first | omega | exact Nat.le_refl _⟩, by repeat (first | exact Drawn0.refl _ | apply Drawn0.step)⟩
         ·case rel => exact ⟨_, ((a1 == 11)), sw, H', ⟨by have := HJ2.out; have := HJ7.out; first | omega | exact Nat.le_refl _⟩, by repeat (first | exact Drawn0.refl _ | apply Drawn0.step)⟩
        case rest =>
         clear HC13
         try clear c1
         try clear c2
         try clear p2
         try clear c4
         try clear c4b0
         try clear c5
         try clear c5b0
         try clear c6
         try clear c6b0
         try clear p6
         try clear c7
         try clear c9
         try clear c9b0
         try clear c9b1
         try clear c11
         try clear c12
         try clear c12b0
         try clear c12b1
         try clear c14
         try clear c14b0
         try clear c14b1
         try clear c15
         try clear c15b0
         try clear c15b1
         try clear c16
         try clear c16b0
         try clear c16b1
         try clear p2
         try clear p6
         obtain ⟨kq, x31_12, rfl, HA, HJ12, ⟨mc12, rfl⟩⟩ := hcut
         cases kq with
         | zero => exact absurd HA.out (by simp [civil_Length.j2])
         | succ kj12 =>
          have H := HA.out;clear HA;simp only [civil_Length.j2] at H
          by_cases c17 : x31_12 = true
          ·subst c17
           have H1 : (some (30, none)) = some (r1, r2) := by rw [if_pos rfl] at H; exact H
           clear H;have H := H1;clear H1;simp only [Option.some.injEq, Prod.mk.injEq] at H;obtain ⟨rfl, rfl⟩ := H
           go_wp2
           go_ret2
           exact ⟨by first | rfl | (simp; done) | (simp [*]; done) | (simp; unfold wrap64; omega), by repeat (first | exact Drawn0.refl _ | apply Drawn0.step)⟩
          ·replace c17 := Bool.eq_false_iff.mpr c17;subst c17
           have H1 : (some (31, none)) = some (r1, r2) := by rw [if_neg (show ¬ (false = true) by decide)] at H; exact H
           clear H;have H := H1;clear H1;simp only [Option.some.injEq, Prod.mk.injEq] at H;obtain ⟨rfl, rfl⟩ := H
           go_wp2
           go_ret2
           exact ⟨by first | rfl | (simp; done) | (simp [*]; done) | (simp; unfold wrap64; omega), by repeat (first | exact Drawn0.refl _ | apply Drawn0.step)⟩

/-! ### civil_mod: function 39 -/
def civil_mod.f (a0 : Int) (a1 : Int) : Option (Int) := if a1 = 0 then (none) else (some (Int.tmod (wrap64 ((Int.tmod a0 a1) + a1)) a1))
set_option maxHeartbeats 2000000 in
set_option maxRecDepth 100000 in
theorem civil_mod.calls (a0 : Int) (a1 : Int) (r : Int) (w : World) (h : civil_mod.f a0 a1 = some r) :
  Calls Tryz.prog 39 #[.int .i64 a0, .int .i64 a1] w fun e w' => e = .returned (.int .i64 r) ∧ Drawn0 w w' := by
 have H : (if a1 = 0 then (none) else (some (Int.tmod (wrap64 ((Int.tmod a0 a1) + a1)) a1))) = some r := h;clear h
 by_cases c3 : a1 = 0
 ·rw [if_pos c3] at H;exact absurd H (by simp)
 ·rw [if_neg c3] at H;have c3b0 : (a1 == 0) = false := beq_eq_false_iff_ne.mpr c3;have c3b1 : (a1 != 0) = true := bne_iff_ne.mpr c3;obtain rfl := Option.some.inj H
  go_enter Tryz.func39, Tryz.ntmps39
  go_wp2
  go_ret
  exact ⟨by first | rfl | (simp; done) | (simp [*]; done) | (simp; unfold wrap64; omega), by repeat (first | exact Drawn0.refl _ | apply Drawn0.step)⟩

/-! ### civil_Days: function 21 -/
def civil_Days.j0 : Nat → Bool → Int → Int → Int → Option (Int × Option Int)
 | 0, _, _, _, _ => none
 | k + 1, x30, x128000, x128001, x128002 => if x30 = true then (some (0, some 1)) else (if (wrap64 (x128001 - 3)) < 0 then ((civil_mod.f (wrap64 (x128000 - 1)) 400).bind fun t131 => (some (wrap64 ((wrap64 ((wrap64 ((wrap64 ((wrap64 ((wrap64 ((wrap64 (Int.tdiv (wrap64 ((wrap64 (x128000 - 1)) - t131)) 400)) * 146097)) + (wrap64 (t131 * 365)))) + (wrap64 (Int.tdiv t131 4)))) - (wrap64 (Int.tdiv t131 100)))) + (wrap64 ((wrap64 ((wrap64 (Int.tdiv (wrap64 ((wrap64 (153 * (wrap64 ((wrap64 (x128001 - 3)) + 12)))) + 2)) 5)) + x128002)) - 1)))) - 719468), none))) else ((civil_mod.f x128000 400).bind fun t132 => (some (wrap64 ((wrap64 ((wrap64 ((wrap64 ((wrap64 ((wrap64 ((wrap64 (Int.tdiv (wrap64 (x128000 - t132)) 400)) * 146097)) + (wrap64 (t132 * 365)))) + (wrap64 (Int.tdiv t132 4)))) - (wrap64 (Int.tdiv t132 100)))) + (wrap64 ((wrap64 ((wrap64 (Int.tdiv (wrap64 ((wrap64 (153 * (wrap64 (x128001 - 3)))) + 2)) 5)) + x128002)) - 1)))) - 719468), none))))
def civil_Days.f (k : Nat) (a0_0 : Int) (a0_1 : Int) (a0_2 : Int) : Option (Int × Option Int) := (civil_Length.f k a0_0 a0_1).bind fun bt128 => (if bt128.2.isNone = true then (if a0_2 < 1 then (civil_Days.j0 k true a0_0 a0_1 a0_2) else (civil_Days.j0 k (decide (a0_2 > bt128.1)) a0_0 a0_1 a0_2)) else (civil_Days.j0 k true a0_0 a0_1 a0_2))
theorem civil_Days.mono_l : ∀ k, (∀ y0 y1 y2 y3, LeO (civil_Days.j0 k y0 y1 y2 y3) (civil_Days.j0 (k + 1) y0 y1 y2 y3))
 | 0 => fun _ _ _ _ r h => by simp [civil_Days.j0] at h
 | k + 1 => by
  have ih0 := civil_Days.mono_l k
  ·intro y0 y1 y2 y3;unfold civil_Days.j0
   repeat' first
   | (with_reducible exact ih0 _ _ _ _)
   | (with_reducible exact civil_Length.mono _ _ _)
   | (with_reducible exact LeO.refl _)
   | (with_reducible exact LeO.none _)
   | (with_reducible refine LeO.ite ?_ ?_)
   | (with_reducible refine LeO.bind ?_ (fun _ => ?_))
   | exact ih0 _ _ _ _
   | exact civil_Length.mono _ _ _
   | exact LeO.none _
   | refine LeO.ite ?_ ?_
   | refine LeO.bind ?_ (fun _ => ?_)
theorem civil_Days.mono : ∀ a0 a1 a2 k, LeO (civil_Days.f k a0 a1 a2) (civil_Days.f (k + 1) a0 a1 a2) := by
 intro a0 a1 a2 k;have ih0 := civil_Days.mono_l k;unfold civil_Days.f
 repeat' first
   | (with_reducible exact ih0 _ _ _ _)
   | (with_reducible exact civil_Length.mono _ _ _)
   | (with_reducible exact LeO.refl _)
   | (with_reducible exact LeO.none _)
   | (with_reducible refine LeO.ite ?_ ?_)
   | (with_reducible refine LeO.bind ?_ (fun _ => ?_))
   | exact ih0 _ _ _ _
   | exact civil_Length.mono _ _ _
   | exact LeO.none _
   | refine LeO.ite ?_ ?_
   | refine LeO.bind ?_ (fun _ => ?_)
set_option maxHeartbeats 2000000 in
set_option maxRecDepth 100000 in
theorem civil_Days.calls (k : Nat) (a0_0 : Int) (a0_1 : Int) (a0_2 : Int) (r1 : Int) (r2 : Option Int) (w : World) (h : civil_Days.f k a0_0 a0_1 a0_2 = some (r1, r2)) :
  Calls Tryz.prog 21 #[.agg #[.int .i64 a0_0, .int .i64 a0_1, .int .i64 a0_2]] w fun e w' => e = .returned (.tuple #[.int .i64 r1, errW r2]) ∧ Below w.heap.size w w' := by
 have hu30 := Tryz.underlying30;have hu27 := Tryz.underlying27;have hu49 := Tryz.underlying49;have HB := As (Below.refl w.heap.size w);have H : ((civil_Length.f k a0_0 a0_1).bind fun bt128 => (if bt128.2.isNone = true then (if a0_2 < 1 then (civil_Days.j0 k true a0_0 a0_1 a0_2) else (civil_Days.j0 k (decide (a0_2 > bt128.1)) a0_0 a0_1 a0_2)) else (civil_Days.j0 k true a0_0 a0_1 a0_2))) = some (r1, r2) := h;clear h;replace H := bE H;obtain ⟨⟨t128, t129⟩, A20, H⟩ := H;replace H : (if t129.isNone = true then (if a0_2 < 1 then (civil_Days.j0 k true a0_0 a0_1 a0_2) else (civil_Days.j0 k (decide (a0_2 > t128)) a0_0 a0_1 a0_2)) else (civil_Days.j0 k true a0_0 a0_1 a0_2)) = some (r1, r2) := H;have A2 := As A20;clear A20;have HC3 := As H;clear H
 go_enter Tryz.func21, Tryz.ntmps21
 go_upto_region 2 with (first | ((with_reducible refine gate_dst (N := 1) rfl ?_); refine box_event ?hg (N := 1) ?hd (cs := #[.int .i64 a0_0, .int .i64 a0_1, .int .i64 a0_2]) (t := 30) ?hr ?_; (case hd => rfl); (case hg => rfl); (case hr => first | (go_simp; done) | (go_simp; rfl)); intro gb127 hg w4 hbox hb; have BK127 := As (hbox); have GW127 := As ((gz hg (be HB.out) : w.heap.size ≤ gb127)); have GE127 := As ((gz hg (be HB.out) : w.heap.size ≤ gb127)); replace HB := As (XT (be HB.out) hb); clear hb hbox hg; obtain ⟨hcz5_0, hcz5_1, hcz5_2, hfz5_0, hfz5_1, hfz5_2⟩ := cz3 BK127.out) | (go_at_call 18; (with_reducible refine (civil_Length.calls k a0_0 a0_1 _ _ _ A2.out).mono ?_); rintro e w' ⟨rfl, ⟨nd, rfl⟩⟩; (try simp only [errW_none, errW_some]); (try first | exact ⟨rfl, _, World.drewN_drewN _ _ _⟩ | exact ⟨rfl, _, Eq.trans (World.drewN_drewN _ _ _) (congrArg (World.drewN _) (Nat.add_assoc _ _ _))⟩)))
 repeat (go_quiet (first | ((with_reducible refine gate_dst (N := 1) rfl ?_); refine box_event ?hg (N := 1) ?hd (cs := #[.int .i64 a0_0, .int .i64 a0_1, .int .i64 a0_2]) (t := 30) ?hr ?_; (case hd => rfl); (case hg => rfl); (case hr => first | (go_simp; done) | (go_simp; rfl)); intro gb127 hg w4 hbox hb; have BK127 := As (hbox); have GW127 := As ((gz hg (be HB.out) : w.heap.size ≤ gb127)); have GE127 := As ((gz hg (be HB.out) : w.heap.size ≤ gb127)); replace HB := As (XT (be HB.out) hb); clear hb hbox hg; obtain ⟨hcz5_0, hcz5_1, hcz5_2, hfz5_0, hfz5_1, hfz5_2⟩ := cz3 BK127.out) | (go_at_call 18; (with_reducible refine (civil_Length.calls k a0_0 a0_1 _ _ _ A2.out).mono ?_); rintro e w' ⟨rfl, ⟨nd, rfl⟩⟩; (try simp only [errW_none, errW_some]); (try first | exact ⟨rfl, _, World.drewN_drewN _ _ _⟩ | exact ⟨rfl, _, Eq.trans (World.drewN_drewN _ _ _) (congrArg (World.drewN _) (Nat.add_assoc _ _ _))⟩))); go_upto_region 2 with (first | ((with_reducible refine gate_dst (N := 1) rfl ?_); refine box_event ?hg (N := 1) ?hd (cs := #[.int .i64 a0_0, .int .i64 a0_1, .int .i64 a0_2]) (t := 30) ?hr ?_; (case hd => rfl); (case hg => rfl); (case hr => first | (go_simp; done) | (go_simp; rfl)); intro gb127 hg w4 hbox hb; have BK127 := As (hbox); have GW127 := As ((gz hg (be HB.out) : w.heap.size ≤ gb127)); have GE127 := As ((gz hg (be HB.out) : w.heap.size ≤ gb127)); replace HB := As (XT (be HB.out) hb); clear hb hbox hg; obtain ⟨hcz5_0, hcz5_1, hcz5_2, hfz5_0, hfz5_1, hfz5_2⟩ := cz3 BK127.out) | (go_at_call 18; (with_reducible refine (civil_Length.calls k a0_0 a0_1 _ _ _ A2.out).mono ?_); rintro e w' ⟨rfl, ⟨nd, rfl⟩⟩; (try simp only [errW_none, errW_some]); (try first | exact ⟨rfl, _, World.drewN_drewN _ _ _⟩ | exact ⟨rfl, _, Eq.trans (World.drewN_drewN _ _ _) (congrArg (World.drewN _) (Nat.add_assoc _ _ _))⟩))))
 (try simp only [Act.put, List.setIfInBounds_toArray, List.set_cons_zero, List.set_cons_succ])
 go_cut [30] (fun v30 wc => ∃ (kq : Nat) (x30_2 : Bool), v30 = .bool x30_2 ∧ Aside0 (civil_Days.j0 kq x30_2 a0_0 a0_1 a0_2 = some (r1, r2)) ∧ Aside0 (kq ≤ k) ∧ Aside0 (wc.heap[gb127]? = some (.cells #[.int .i64 a0_0, .int .i64 a0_1, .int .i64 a0_2] 30 (0, 0))) ∧ Aside0 (Below w.heap.size w wc))
 case first =>
  have H := HC3.out;clear HC3
  rcases t129 with _ | q130
  focus
   have H1 : (if a0_2 < 1 then (civil_Days.j0 k true a0_0 a0_1 a0_2) else (civil_Days.j0 k (decide (a0_2 > t128)) a0_0 a0_1 a0_2)) = some (r1, r2) := by rw [if_pos no0] at H; exact H
   clear H;have H := H1;clear H1
   try simp only [errW_none, errW_some]
   by_cases c6 : a0_2 < 1
   rw [if_pos c6] at H;have c6b0 : decide (a0_2 < 1) = true := dY c6;clear c6
   (first | rw [c6b0] | (simp only [i64_w, i32_w]; rw [c6b0]) | skip)
   have H' := As H;clear H;obtain ⟨hcz7_0, hcz7_1, hcz7_2, hfz7_0, hfz7_1, hfz7_2⟩ := cz3 BK127.out
   have m2_ := trivial
   rotate_left
   rw [if_neg c6] at H;have c6b0 : decide (a0_2 < 1) = false := dN c6;clear c6
   (first | rw [c6b0] | (simp only [i64_w, i32_w]; rw [c6b0]) | skip)
   have H' := As H;clear H;obtain ⟨hcz8_0, hcz8_1, hcz8_2, hfz8_0, hfz8_1, hfz8_2⟩ := cz3 BK127.out
  rotate_left 2
  have H1 : (civil_Days.j0 k true a0_0 a0_1 a0_2) = some (r1, r2) := by rw [if_neg (show ¬ (some q130).isNone = true by simp)] at H; exact H
  clear H;have H := H1;clear H1
  try simp only [errW_none, errW_some]
  have H' := As H;clear H
  have m1_ := trivial
  all_goals
   go_wp2
   repeat (go_quiet (fail); try go_wp2)
   go_meet
  all_goals try
   first | (clear m1_; have m1_ := trivial) | (clear m2_; have m2_ := trivial)
   case rel => exact ⟨_, (true), sw, H', ⟨by first | omega | exact Nat.le_refl _⟩, ⟨by (with_reducible repeat (first | refine YN ?_ _ | refine YD ?_ | refine YA ?_ _)); exact BK127.out⟩, ⟨by repeat (first | (with_reducible first | exact HB.out | apply XA | apply XN | apply XD | refine XS ?_ GE127.out) | exact HB.out)⟩⟩
  ·case rel => exact ⟨_, (decide (a0_2 > t128)), sw, H', ⟨by first | omega | exact Nat.le_refl _⟩, ⟨by (with_reducible repeat (first | refine YN ?_ _ | refine YD ?_ | refine YA ?_ _)); exact BK127.out⟩, ⟨by repeat (first | (with_reducible first | exact HB.out | apply XA | apply XN | apply XD | refine XS ?_ GE127.out) | exact HB.out)⟩⟩
 case rest =>
  clear HC3
  try clear q1
  try clear c2
  try clear p2
  try clear c6
  try clear c6b0
  try clear p6
  try clear hcz5_0 hcz5_1 hcz5_2
  try clear hcz7_0 hcz7_1 hcz7_2
  try clear hcz8_0 hcz8_1 hcz8_2
  try clear hfz5_0 hfz5_1 hfz5_2
  try clear hfz7_0 hfz7_1 hfz7_2
  try clear hfz8_0 hfz8_1 hfz8_2
  try clear q130
  obtain ⟨kq, x30_2, rfl, HA, HJ2, BK127, HB⟩ := hcut
  cases kq with
  | zero => exact absurd HA.out (by simp [civil_Days.j0])
  | succ kj2 =>
   have H := HA.out;clear HA;simp only [civil_Days.j0] at H
   by_cases c9 : x30_2 = true
   ·subst c9
    have H1 : (some (0, some 1)) = some (r1, r2) := by rw [if_pos rfl] at H; exact H
    clear H;have H := H1;clear H1;simp only [Option.some.injEq, Prod.mk.injEq] at H;obtain ⟨rfl, rfl⟩ := H
    go_wp2
    repeat (go_quiet (fail); try go_wp2)
    go_ret2
    exact ⟨by first | rfl | (simp [errW_none, errW_some] <;> rfl) | (simp [*, errW_none, errW_some] <;> rfl), by repeat (first | (with_reducible first | exact HB.out | apply XA | apply XN | apply XD | refine XS ?_ GE127.out) | exact HB.out)⟩
   ·replace c9 := Bool.eq_false_iff.mpr c9;subst c9
    have H1 : (if (wrap64 (a0_1 - 3)) < 0 then ((civil_mod.f (wrap64 (a0_0 - 1)) 400).bind fun t131 => (some (wrap64 ((wrap64 ((wrap64 ((wrap64 ((wrap64 ((wrap64 ((wrap64 (Int.tdiv (wrap64 ((wrap64 (a0_0 - 1)) - t131)) 400)) * 146097)) + (wrap64 (t131 * 365)))) + (wrap64 (Int.tdiv t131 4)))) - (wrap64 (Int.tdiv t131 100)))) + (wrap64 ((wrap64 ((wrap64 (Int.tdiv (wrap64 ((wrap64 (153 * (wrap64 ((wrap64 (a0_1 - 3)) + 12)))) + 2)) 5)) + a0_2)) - 1)))) - 719468), none))) else ((civil_mod.f a0_0 400).bind fun t132 => (some (wrap64 ((wrap64 ((wrap64 ((wrap64 ((wrap64 ((wrap64 ((wrap64 (Int.tdiv (wrap64 (a0_0 - t132)) 400)) * 146097)) + (wrap64 (t132 * 365)))) + (wrap64 (Int.tdiv t132 4)))) - (wrap64 (Int.tdiv t132 100)))) + (wrap64 ((wrap64 ((wrap64 (Int.tdiv (wrap64 ((wrap64 (153 * (wrap64 (a0_1 - 3)))) + 2)) 5)) + a0_2)) - 1)))) - 719468), none)))) = some (r1, r2) := by rw [if_neg (show ¬ (false = true) by decide)] at H; exact H
    clear H;have H := H1;clear H1
    by_cases c10 : (wrap64 (a0_1 - 3)) < 0
    ·rw [if_pos c10] at H;have c10b0 : decide ((wrap64 (a0_1 - 3)) < 0) = true := dY c10;clear c10;replace H := bE H;obtain ⟨t131, A110, H⟩ := H;replace H : (some (wrap64 ((wrap64 ((wrap64 ((wrap64 ((wrap64 ((wrap64 ((wrap64 (Int.tdiv (wrap64 ((wrap64 (a0_0 - 1)) - t131)) 400)) * 146097)) + (wrap64 (t131 * 365)))) + (wrap64 (Int.tdiv t131 4)))) - (wrap64 (Int.tdiv t131 100)))) + (wrap64 ((wrap64 ((wrap64 (Int.tdiv (wrap64 ((wrap64 (153 * (wrap64 ((wrap64 (a0_1 - 3)) + 12)))) + 2)) 5)) + a0_2)) - 1)))) - 719468), none)) = some (r1, r2) := H;have A11 := As A110;clear A110;simp only [Option.some.injEq, Prod.mk.injEq] at H;obtain ⟨rfl, rfl⟩ := H;obtain ⟨hcz12_0, hcz12_1, hcz12_2, hfz12_0, hfz12_1, hfz12_2⟩ := cz3 BK127.out
     repeat ((fail_if_success (clear stop_)); go_wp2_with (first | (go_at_call 39; (with_reducible refine (civil_mod.calls (wrap64 (a0_0 - 1)) 400 _ _ A11.out).mono ?_); rintro e w' ⟨rfl, ⟨nd, rfl⟩⟩; (try first | exact ⟨rfl, _, World.drewN_drewN _ _ _⟩ | exact ⟨rfl, _, Eq.trans (World.drewN_drewN _ _ _) (congrArg (World.drewN _) (Nat.add_assoc _ _ _))⟩))); first | go_quiet (first | (go_at_call 39; (with_reducible refine (civil_mod.calls (wrap64 (a0_0 - 1)) 400 _ _ A11.out).mono ?_); rintro e w' ⟨rfl, ⟨nd, rfl⟩⟩; (try first | exact ⟨rfl, _, World.drewN_drewN _ _ _⟩ | exact ⟨rfl, _, Eq.trans (World.drewN_drewN _ _ _) (congrArg (World.drewN _) (Nat.add_assoc _ _ _))⟩))) | have stop_ := trivial)
     clear stop_
     go_ret2
     exact ⟨by first | rfl | (simp [errW_none, errW_some] <;> rfl) | (simp [*, errW_none, errW_some] <;> rfl), by repeat (first | (with_reducible first | exact HB.out | apply XA | apply XN | apply XD | refine XS ?_ GE127.out) | exact HB.out)⟩
    ·rw [if_neg c10] at H;have c10b0 : decide ((wrap64 (a0_1 - 3)) < 0) = false := dN c10;clear c10;replace H := bE H;obtain ⟨t132, A130, H⟩ := H;replace H : (some (wrap64 ((wrap64 ((wrap64 ((wrap64 ((wrap64 ((wrap64 ((wrap64 (Int.tdiv (wrap64 (a0_0 - t132)) 400)) * 146097)) + (wrap64 (t132 * 365)))) + (wrap64 (Int.tdiv t132 4)))) - (wrap64 (Int.tdiv t132 100)))) + (wrap64 ((wrap64 ((wrap64 (Int.tdiv (wrap64 ((wrap64 (153 * (wrap64 (a0_1 - 3)))) + 2)) 5)) + a0_2)) - 1)))) - 719468), none)) = some (r1, r2) := H;have A13 := As A130;clear A130;simp only [Option.some.injEq, Prod.mk.injEq] at H;obtain ⟨rfl, rfl⟩ := H;obtain ⟨hcz14_0, hcz14_1, hcz14_2, hfz14_0, hfz14_1, hfz14_2⟩ := cz3 BK127.out
     repeat ((fail_if_success (clear stop_)); go_wp2_with (first | (go_at_call 39; (with_reducible refine (civil_mod.calls a0_0 400 _ _ A13.out).mono ?_); rintro e w' ⟨rfl, ⟨nd, rfl⟩⟩; (try first | exact ⟨rfl, _, World.drewN_drewN _ _ _⟩ | exact ⟨rfl, _, Eq.trans (World.drewN_drewN _ _ _) (congrArg (World.drewN _) (Nat.add_assoc _ _ _))⟩))); first | go_quiet (first | (go_at_call 39; (with_reducible refine (civil_mod.calls a0_0 400 _ _ A13.out).mono ?_); rintro e w' ⟨rfl, ⟨nd, rfl⟩⟩; (try first | exact ⟨rfl, _, World.drewN_drewN _ _ _⟩ | exact ⟨rfl, _, Eq.trans (World.drewN_drewN _ _ _) (congrArg (World.drewN _) (Nat.add_assoc _ _ _))⟩))) | have stop_ := trivial)
     clear stop_
     go_ret2
     exact ⟨by first | rfl | (simp [errW_none, errW_some] <;> rfl) | (simp [*, errW_none, errW_some] <;> rfl), by repeat (first | (with_reducible first | exact HB.out | apply XA | apply XN | apply XD | refine XS ?_ GE127.out) | exact HB.out)⟩

/-! ### rule_ordered: function 27 -/
def rule_ordered.f (k : Nat) (a0_0 : Int) (a0_1 : Int) (a0_2 : Int) (a1_0 : Int) (a1_1 : Int) (a1_2 : Int) : Option (Bool) := (civil_Days.f k a0_0 a0_1 a0_2).bind fun bt135 => ((civil_Days.f k a1_0 a1_1 a1_2).bind fun bt137 => (if bt135.2.isNone = true then (if bt137.2.isNone = true then (if a0_0 ≥ 0 then (if a1_0 ≤ 9999 then (some (decide (bt135.1 ≤ bt137.1))) else (some false)) else (some false)) else (some false)) else (some false)))
theorem rule_ordered.mono : ∀ a0 a1 a2 a3 a4 a5 k, LeO (rule_ordered.f k a0 a1 a2 a3 a4 a5) (rule_ordered.f (k + 1) a0 a1 a2 a3 a4 a5) := by
 intro a0 a1 a2 a3 a4 a5 k;unfold rule_ordered.f
 repeat' first
   | (with_reducible exact civil_Days.mono _ _ _ _)
   | (with_reducible exact LeO.refl _)
   | (with_reducible exact LeO.none _)
   | (with_reducible refine LeO.ite ?_ ?_)
   | (with_reducible refine LeO.bind ?_ (fun _ => ?_))
   | exact civil_Days.mono _ _ _ _
   | exact LeO.none _
   | refine LeO.ite ?_ ?_
   | refine LeO.bind ?_ (fun _ => ?_)
set_option maxHeartbeats 2000000 in
set_option maxRecDepth 100000 in
theorem rule_ordered.calls (k : Nat) (a0_0 : Int) (a0_1 : Int) (a0_2 : Int) (a1_0 : Int) (a1_1 : Int) (a1_2 : Int) (r : Bool) (w : World) (h : rule_ordered.f k a0_0 a0_1 a0_2 a1_0 a1_1 a1_2 = some r) :
  Calls Tryz.prog 27 #[.agg #[.int .i64 a0_0, .int .i64 a0_1, .int .i64 a0_2], .agg #[.int .i64 a1_0, .int .i64 a1_1, .int .i64 a1_2]] w fun e w' => e = .returned (.bool r) ∧ Below w.heap.size w w' := by
 have hu30 := Tryz.underlying30;have hu27 := Tryz.underlying27;have hu49 := Tryz.underlying49;have HB := As (Below.refl w.heap.size w);have H : ((civil_Days.f k a0_0 a0_1 a0_2).bind fun bt135 => ((civil_Days.f k a1_0 a1_1 a1_2).bind fun bt137 => (if bt135.2.isNone = true then (if bt137.2.isNone = true then (if a0_0 ≥ 0 then (if a1_0 ≤ 9999 then (some (decide (bt135.1 ≤ bt137.1))) else (some false)) else (some false)) else (some false)) else (some false)))) = some r := h;clear h;replace H := bE H;obtain ⟨⟨t135, t136⟩, A30, H⟩ := H;replace H : ((civil_Days.f k a1_0 a1_1 a1_2).bind fun bt137 => (if t136.isNone = true then (if bt137.2.isNone = true then (if a0_0 ≥ 0 then (if a1_0 ≤ 9999 then (some (decide (t135 ≤ bt137.1))) else (some false)) else (some false)) else (some false)) else (some false))) = some r := H;have A3 := As A30;clear A30;replace H := bE H;obtain ⟨⟨t137, t138⟩, A40, H⟩ := H;replace H : (if t136.isNone = true then (if t138.isNone = true then (if a0_0 ≥ 0 then (if a1_0 ≤ 9999 then (some (decide (t135 ≤ t137))) else (some false)) else (some false)) else (some false)) else (some false)) = some r := H;have A4 := As A40;clear A40
 rcases t136 with _ | q139
 focus
  have H1 : (if t138.isNone = true then (if a0_0 ≥ 0 then (if a1_0 ≤ 9999 then (some (decide (t135 ≤ t137))) else (some false)) else (some false)) else (some false)) = some r := by rw [if_pos no0] at H; exact H
  clear H;have H := H1;clear H1
  try simp only [errW_none, errW_some]
  rcases t138 with _ | q140
  focus
   have H1 : (if a0_0 ≥ 0 then (if a1_0 ≤ 9999 then (some (decide (t135 ≤ t137))) else (some false)) else (some false)) = some r := by rw [if_pos no0] at H; exact H
   clear H;have H := H1;clear H1
   try simp only [errW_none, errW_some]
   by_cases c5 : a0_0 ≥ 0
   focus
    rw [if_pos c5] at H;have c5b0 : decide (0 ≤ a0_0) = true := dY c5;clear c5
    by_cases c6 : a1_0 ≤ 9999
    rw [if_pos c6] at H;have c6b0 : decide (a1_0 ≤ 9999) = true := dY c6;clear c6;obtain rfl := Option.some.inj H
    have m2_ := trivial
    rotate_left
    rw [if_neg c6] at H;have c6b0 : decide (a1_0 ≤ 9999) = false := dN c6;clear c6;obtain rfl := Option.some.inj H
    have m1_ := trivial
   rotate_left 2
   rw [if_neg c5] at H;have c5b0 : decide (0 ≤ a0_0) = false := dN c5;clear c5;obtain rfl := Option.some.inj H
  rotate_left 3
  have H1 : (some false) = some r := by rw [if_neg (show ¬ (some q140).isNone = true by simp)] at H; exact H
  clear H;have H := H1;clear H1
  try simp only [errW_none, errW_some]
  obtain rfl := Option.some.inj H
  have m4_ := trivial
 rotate_left 4
 have H1 : (some false) = some r := by rw [if_neg (show ¬ (some q139).isNone = true by simp)] at H; exact H
 clear H;have H := H1;clear H1
 try simp only [errW_none, errW_some]
 obtain rfl := Option.some.inj H
 have m3_ := trivial
 all_goals go_enter Tryz.func27, Tryz.ntmps27
 all_goals try
  first | (clear m1_; have m1_ := trivial) | (clear m2_; have m2_ := trivial)
  go_wp2_with (first | ((with_reducible refine gate_dst (N := 2) rfl ?_); refine box_event ?hg (N := 2) ?hd (cs := #[.int .i64 a0_0, .int .i64 a0_1, .int .i64 a0_2]) (t := 30) ?hr ?_; (case hd => rfl); (case hg => rfl); (case hr => first | (go_simp; done) | (go_simp; rfl)); intro gb133 hg w16 hbox hb; have BK133 := As (hbox); have GW133 := As ((gz hg (be HB.out) : w.heap.size ≤ gb133)); have GE133 := As ((gz hg (be HB.out) : w.heap.size ≤ gb133)); replace HB := As (XT (be HB.out) hb); clear hb hbox hg) | ((with_reducible refine gate_dst (N := 3) rfl ?_); refine box_event ?hg (N := 3) ?hd (cs := #[.int .i64 a1_0, .int .i64 a1_1, .int .i64 a1_2]) (t := 30) ?hr ?_; (case hd => rfl); (case hg => rfl); (case hr => first | (go_simp; done) | (go_simp; rfl)); intro gb134 hg w17 hbox hb; have BK134 := As (hbox); have GW134 := As ((gz hg (be HB.out) : w.heap.size ≤ gb134)); have GE134 := As ((gz hg (be HB.out) : w.heap.size ≤ gb134)); replace HB := As (XT (be HB.out) hb); have NB133_134 := As ((nl hg (bk BK133.out) : gb133 ≠ gb134)); have NB134_133 := As ((ng hg (bk BK133.out) : gb134 ≠ gb133)); replace BK133 := As (YB (g := gb133) (o := .cells #[.int .i64 a0_0, .int .i64 a0_1, .int .i64 a0_2] 30 (0, 0)) (bk BK133.out) hb); clear hb hbox hg; have hnb18 := NB133_134.out; have hnc18 := NB134_133.out; obtain ⟨hcz19_0, hcz19_1, hcz19_2, hfz19_0, hfz19_1, hfz19_2⟩ := cz3 BK133.out) | ((with_reducible refine gate_callee (f := 21) rfl ?_); refine goesL_ (some 11) rfl rfl Tryz.func21 kr rfl #[.agg #[.int .i64 a0_0, .int .i64 a0_1, .int .i64 a0_2]] rfl sa ?_; (with_reducible refine (civil_Days.calls k a0_0 a0_1 a0_2 _ _ _ A3.out).mono ?_); rintro e w20 ⟨rfl, hb⟩; refine ⟨_, rfl, ?_⟩; replace BK133 := As (YB (g := gb133) (o := .cells #[.int .i64 a0_0, .int .i64 a0_1, .int .i64 a0_2] 30 (0, 0)) (bk BK133.out) hb); replace BK134 := As (YB (g := gb134) (o := .cells #[.int .i64 a1_0, .int .i64 a1_1, .int .i64 a1_2] 30 (0, 0)) (bk BK134.out) hb); replace HB := As (XT (be HB.out) hb); (try clear hb); (try clear hb2); (try clear hk); (try clear hi); (try simp only [errW_none, errW_some]); obtain ⟨hcz21_0, hcz21_1, hcz21_2, hfz21_0, hfz21_1, hfz21_2⟩ := cz3 BK134.out) | ((with_reducible refine gate_callee (f := 21) rfl ?_); refine goesL_ (some 16) rfl rfl Tryz.func21 kr rfl #[.agg #[.int .i64 a1_0, .int .i64 a1_1, .int .i64 a1_2]] rfl sa ?_; (with_reducible refine (civil_Days.calls k a1_0 a1_1 a1_2 _ _ _ A4.out).mono ?_); rintro e w22 ⟨rfl, hb⟩; refine ⟨_, rfl, ?_⟩; replace BK133 := As (YB (g := gb133) (o := .cells #[.int .i64 a0_0, .int .i64 a0_1, .int .i64 a0_2] 30 (0, 0)) (bk BK133.out) hb); replace BK134 := As (YB (g := gb134) (o := .cells #[.int .i64 a1_0, .int .i64 a1_1, .int .i64 a1_2] 30 (0, 0)) (bk BK134.out) hb); replace HB := As (XT (be HB.out) hb); (try clear hb); (try clear hb2); (try clear hk); (try clear hi); (try simp only [errW_none, errW_some]); obtain ⟨hcz23_0, hcz23_1, hcz23_2, hfz23_0, hfz23_1, hfz23_2⟩ := cz3 BK133.out; obtain ⟨hcz24_0, hcz24_1, hcz24_2, hfz24_0, hfz24_1, hfz24_2⟩ := cz3 BK134.out))
  go_ret
  exact ⟨by first | rfl | (simp [errW_none, errW_some] <;> rfl) | (simp [*, errW_none, errW_some] <;> rfl), by repeat (first | (with_reducible first | exact HB.out | apply XA | apply XN | apply XD | refine XS ?_ GE133.out | refine XS ?_ GE134.out) | exact HB.out)⟩
 all_goals try
  first | (clear m3_; have m3_ := trivial) | (clear m4_; have m4_ := trivial)
  go_wp2_with (first | ((with_reducible refine gate_dst (N := 2) rfl ?_); refine box_event ?hg (N := 2) ?hd (cs := #[.int .i64 a0_0, .int .i64 a0_1, .int .i64 a0_2]) (t := 30) ?hr ?_; (case hd => rfl); (case hg => rfl); (case hr => first | (go_simp; done) | (go_simp; rfl)); intro gb133 hg w40 hbox hb; have BK133 := As (hbox); have GW133 := As ((gz hg (be HB.out) : w.heap.size ≤ gb133)); have GE133 := As ((gz hg (be HB.out) : w.heap.size ≤ gb133)); replace HB := As (XT (be HB.out) hb); clear hb hbox hg) | ((with_reducible refine gate_dst (N := 3) rfl ?_); refine box_event ?hg (N := 3) ?hd (cs := #[.int .i64 a1_0, .int .i64 a1_1, .int .i64 a1_2]) (t := 30) ?hr ?_; (case hd => rfl); (case hg => rfl); (case hr => first | (go_simp; done) | (go_simp; rfl)); intro gb134 hg w41 hbox hb; have BK134 := As (hbox); have GW134 := As ((gz hg (be HB.out) : w.heap.size ≤ gb134)); have GE134 := As ((gz hg (be HB.out) : w.heap.size ≤ gb134)); replace HB := As (XT (be HB.out) hb); have NB133_134 := As ((nl hg (bk BK133.out) : gb133 ≠ gb134)); have NB134_133 := As ((ng hg (bk BK133.out) : gb134 ≠ gb133)); replace BK133 := As (YB (g := gb133) (o := .cells #[.int .i64 a0_0, .int .i64 a0_1, .int .i64 a0_2] 30 (0, 0)) (bk BK133.out) hb); clear hb hbox hg; have hnb42 := NB133_134.out; have hnc42 := NB134_133.out; obtain ⟨hcz43_0, hcz43_1, hcz43_2, hfz43_0, hfz43_1, hfz43_2⟩ := cz3 BK133.out) | ((with_reducible refine gate_callee (f := 21) rfl ?_); refine goesL_ (some 11) rfl rfl Tryz.func21 kr rfl #[.agg #[.int .i64 a0_0, .int .i64 a0_1, .int .i64 a0_2]] rfl sa ?_; (with_reducible refine (civil_Days.calls k a0_0 a0_1 a0_2 _ _ _ A3.out).mono ?_); rintro e w44 ⟨rfl, hb⟩; refine ⟨_, rfl, ?_⟩; replace BK133 := As (YB (g := gb133) (o := .cells #[.int .i64 a0_0, .int .i64 a0_1, .int .i64 a0_2] 30 (0, 0)) (bk BK133.out) hb); replace BK134 := As (YB (g := gb134) (o := .cells #[.int .i64 a1_0, .int .i64 a1_1, .int .i64 a1_2] 30 (0, 0)) (bk BK134.out) hb); replace HB := As (XT (be HB.out) hb); (try clear hb); (try clear hb2); (try clear hk); (try clear hi); (try simp only [errW_none, errW_some]); obtain ⟨hcz45_0, hcz45_1, hcz45_2, hfz45_0, hfz45_1, hfz45_2⟩ := cz3 BK134.out) | ((with_reducible refine gate_callee (f := 21) rfl ?_); refine goesL_ (some 16) rfl rfl Tryz.func21 kr rfl #[.agg #[.int .i64 a1_0, .int .i64 a1_1, .int .i64 a1_2]] rfl sa ?_; (with_reducible refine (civil_Days.calls k a1_0 a1_1 a1_2 _ _ _ A4.out).mono ?_); rintro e w46 ⟨rfl, hb⟩; refine ⟨_, rfl, ?_⟩; replace BK133 := As (YB (g := gb133) (o := .cells #[.int .i64 a0_0, .int .i64 a0_1, .int .i64 a0_2] 30 (0, 0)) (bk BK133.out) hb); replace BK134 := As (YB (g := gb134) (o := .cells #[.int .i64 a1_0, .int .i64 a1_1, .int .i64 a1_2] 30 (0, 0)) (bk BK134.out) hb); replace HB := As (XT (be HB.out) hb); (try clear hb); (try clear hb2); (try clear hk); (try clear hi); (try simp only [errW_none, errW_some])))
  go_ret
  exact ⟨by first | rfl | (simp [errW_none, errW_some] <;> rfl) | (simp [*, errW_none, errW_some] <;> rfl), by repeat (first | (with_reducible first | exact HB.out | apply XA | apply XN | apply XD | refine XS ?_ GE133.out | refine XS ?_ GE134.out) | exact HB.out)⟩
 ·go_wp2_with (first | ((with_reducible refine gate_dst (N := 2) rfl ?_); refine box_event ?hg (N := 2) ?hd (cs := #[.int .i64 a0_0, .int .i64 a0_1, .int .i64 a0_2]) (t := 30) ?hr ?_; (case hd => rfl); (case hg => rfl); (case hr => first | (go_simp; done) | (go_simp; rfl)); intro gb133 hg w25 hbox hb; have BK133 := As (hbox); have GW133 := As ((gz hg (be HB.out) : w.heap.size ≤ gb133)); have GE133 := As ((gz hg (be HB.out) : w.heap.size ≤ gb133)); replace HB := As (XT (be HB.out) hb); clear hb hbox hg) | ((with_reducible refine gate_dst (N := 3) rfl ?_); refine box_event ?hg (N := 3) ?hd (cs := #[.int .i64 a1_0, .int .i64 a1_1, .int .i64 a1_2]) (t := 30) ?hr ?_; (case hd => rfl); (case hg => rfl); (case hr => first | (go_simp; done) | (go_simp; rfl)); intro gb134 hg w26 hbox hb; have BK134 := As (hbox); have GW134 := As ((gz hg (be HB.out) : w.heap.size ≤ gb134)); have GE134 := As ((gz hg (be HB.out) : w.heap.size ≤ gb134)); replace HB := As (XT (be HB.out) hb); have NB133_134 := As ((nl hg (bk BK133.out) : gb133 ≠ gb134)); have NB134_133 := As ((ng hg (bk BK133.out) : gb134 ≠ gb133)); replace BK133 := As (YB (g := gb133) (o := .cells #[.int .i64 a0_0, .int .i64 a0_1, .int .i64 a0_2] 30 (0, 0)) (bk BK133.out) hb); clear hb hbox hg; have hnb27 := NB133_134.out; have hnc27 := NB134_133.out; obtain ⟨hcz28_0, hcz28_1, hcz28_2, hfz28_0, hfz28_1, hfz28_2⟩ := cz3 BK133.out) | ((with_reducible refine gate_callee (f := 21) rfl ?_); refine goesL_ (some 11) rfl rfl Tryz.func21 kr rfl #[.agg #[.int .i64 a0_0, .int .i64 a0_1, .int .i64 a0_2]] rfl sa ?_; (with_reducible refine (civil_Days.calls k a0_0 a0_1 a0_2 _ _ _ A3.out).mono ?_); rintro e w29 ⟨rfl, hb⟩; refine ⟨_, rfl, ?_⟩; replace BK133 := As (YB (g := gb133) (o := .cells #[.int .i64 a0_0, .int .i64 a0_1, .int .i64 a0_2] 30 (0, 0)) (bk BK133.out) hb); replace BK134 := As (YB (g := gb134) (o := .cells #[.int .i64 a1_0, .int .i64 a1_1, .int .i64 a1_2] 30 (0, 0)) (bk BK134.out) hb); replace HB := As (XT (be HB.out) hb); (try clear hb); (try clear hb2); (try clear hk); (try clear hi); (try simp only [errW_none, errW_some]); obtain ⟨hcz30_0, hcz30_1, hcz30_2, hfz30_0, hfz30_1, hfz30_2⟩ := cz3 BK134.out) | ((with_reducible refine gate_callee (f := 21) rfl ?_); refine goesL_ (some 16) rfl rfl Tryz.func21 kr rfl #[.agg #[.int .i64 a1_0, .int .i64 a1_1, .int .i64 a1_2]] rfl sa ?_; (with_reducible refine (civil_Days.calls k a1_0 a1_1 a1_2 _ _ _ A4.out).mono ?_); rintro e w31 ⟨rfl, hb⟩; refine ⟨_, rfl, ?_⟩; replace BK133 := As (YB (g := gb133) (o := .cells #[.int .i64 a0_0, .int .i64 a0_1, .int .i64 a0_2] 30 (0, 0)) (bk BK133.out) hb); replace BK134 := As (YB (g := gb134) (o := .cells #[.int .i64 a1_0, .int .i64 a1_1, .int .i64 a1_2] 30 (0, 0)) (bk BK134.out) hb); replace HB := As (XT (be HB.out) hb); (try clear hb); (try clear hb2); (try clear hk); (try clear hi); (try simp only [errW_none, errW_some]); obtain ⟨hcz32_0, hcz32_1, hcz32_2, hfz32_0, hfz32_1, hfz32_2⟩ := cz3 BK133.out))
  go_ret
  exact ⟨by first | rfl | (simp [errW_none, errW_some] <;> rfl) | (simp [*, errW_none, errW_some] <;> rfl), by repeat (first | (with_reducible first | exact HB.out | apply XA | apply XN | apply XD | refine XS ?_ GE133.out | refine XS ?_ GE134.out) | exact HB.out)⟩

end Go.Proofs.YtpagbmkdphdjoaaGreatDoor.P
-- SHRUNK
-- PACKED
-- PACKED2
