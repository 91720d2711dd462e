-- written by myprint.py (this claim's own program, after the kit's print)
import Derived.Test.YtpagbmkdphdjoaaGreatDoorPx0
import Derived.Test.YtpagbmkdphdjoaaGreatDoorPx19
import Derived.Test.YtpagbmkdphdjoaaGreatDoorPack
namespace Go.Proofs.YtpagbmkdphdjoaaGreatDoor.P
open Go.RowKit Go.Proofs.YtpagbmkdphdjoaaGreatDoorW.PrintWords Go.Proofs.YtpagbmkdphdjoaaGreatDoorW.PrintLast Go.Proofs.YtpagbmkdphdjoaaGreatDoorW.PrintMore
attribute [local go_sem] max2_int min2_int max_two min_two max_three min_three max_four min_four   -- for this text's walks alone
set_option linter.unusedVariables false
set_option linter.unusedSimpArgs false

/-! ### r6_number: function 36 -/
mutual
def r6_number.j0 : Nat → ByteArray → Bool → Option (Int × Bool)
 | 0, _, _ => none
 | k + 1, x0, x4 => if x4 = true then (if 1 ≤ (x0.size : Int) then (r6_number.j1 k (x0.extract 1 x0.size) x4) else (none)) else (r6_number.j1 k x0 x4)
def r6_number.j1 : Nat → ByteArray → Bool → Option (Int × Bool)
 | 0, _, _ => none
 | k + 1, x0, x4 => if x0.toList = ([] : List UInt8) then (r6_number.j2 k x0 x4 true) else (if (x0.size : Int) > 9 then (r6_number.j2 k x0 x4 true) else (if (x0.size : Int) > 1 then (if 0 < (x0.size : Int) then (if (bt x0 0) = 48 then (r6_number.j2 k x0 x4 true) else (if x4 = true then (r6_number.j2 k x0 x4 (x0.toList == ([48] : List UInt8))) else (r6_number.j2 k x0 x4 false))) else (none)) else (if x4 = true then (r6_number.j2 k x0 x4 (x0.toList == ([48] : List UInt8))) else (r6_number.j2 k x0 x4 false))))
def r6_number.j2 : Nat → ByteArray → Bool → Bool → Option (Int × Bool)
 | 0, _, _, _ => none
 | k + 1, x0, x4, x41 => if x41 = true then (some (0, false)) else (r6_number.l0 k x0 x4 0 0)
def r6_number.l0 : Nat → ByteArray → Bool → Int → Int → Option (Int × Bool)
 | 0, _, _, _, _ => none
 | k + 1, x0, x4, x5, x6 => if x6 < (x0.size : Int) then (if 0 ≤ x6 then (if (bt x0 x6) < 48 then (some (0, false)) else (if (bt x0 x6) > 57 then (some (0, false)) else (r6_number.l0 k x0 x4 (wrap64 ((wrap64 (10 * x5)) + (((bt x0 x6) - 48) % 256))) (wrap64 (x6 + 1))))) else (none)) else (if x4 = true then (some (wrap64 (-x5), true)) else (some (x5, true)))
end
def r6_number.f (k : Nat) (a0 : ByteArray) : Option (Int × Bool) := if (a0.size : Int) > 0 then (if 0 < (a0.size : Int) then (r6_number.j0 k a0 ((bt a0 0) == 45)) else (none)) else (r6_number.j0 k a0 false)
theorem r6_number.mono_l : ∀ k, (∀ y0 y1, LeO (r6_number.j0 k y0 y1) (r6_number.j0 (k + 1) y0 y1)) ∧ (∀ y0 y1, LeO (r6_number.j1 k y0 y1) (r6_number.j1 (k + 1) y0 y1)) ∧ (∀ y0 y1 y2, LeO (r6_number.j2 k y0 y1 y2) (r6_number.j2 (k + 1) y0 y1 y2)) ∧ (∀ y0 y1 y2 y3, LeO (r6_number.l0 k y0 y1 y2 y3) (r6_number.l0 (k + 1) y0 y1 y2 y3))
 | 0 => ⟨fun _ _ r h => by simp [r6_number.j0] at h, fun _ _ r h => by simp [r6_number.j1] at h, fun _ _ _ r h => by simp [r6_number.j2] at h, fun _ _ _ _ r h => by simp [r6_number.l0] at h⟩
 | k + 1 => by
  obtain ⟨ih0, ih1, ih2, ih3⟩ := r6_number.mono_l k;refine ⟨?_, ?_, ?_, ?_⟩
  ·intro y0 y1;unfold r6_number.j0
   repeat' first
   | (with_reducible exact ih0 _ _)
   | (with_reducible exact ih1 _ _)
   | (with_reducible exact ih2 _ _ _)
   | (with_reducible exact ih3 _ _ _ _)
   | (with_reducible exact LeO.refl _)
   | (with_reducible exact LeO.none _)
   | (with_reducible refine LeO.ite ?_ ?_)
   | (with_reducible refine LeO.bind ?_ (fun _ => ?_))
   | exact ih0 _ _
   | exact ih1 _ _
   | exact ih2 _ _ _
   | exact ih3 _ _ _ _
   | exact LeO.none _
   | refine LeO.ite ?_ ?_
   | refine LeO.bind ?_ (fun _ => ?_)
  ·intro y0 y1;unfold r6_number.j1
   repeat' first
   | (with_reducible exact ih0 _ _)
   | (with_reducible exact ih1 _ _)
   | (with_reducible exact ih2 _ _ _)
   | (with_reducible exact ih3 _ _ _ _)
   | (with_reducible exact LeO.refl _)
   | (with_reducible exact LeO.none _)
   | (with_reducible refine LeO.ite ?_ ?_)
   | (with_reducible refine LeO.bind ?_ (fun _ => ?_))
   | exact ih0 _ _
   | exact ih1 _ _
   | exact ih2 _ _ _
   | exact ih3 _ _ _ _
   | exact LeO.none _
   | refine LeO.ite ?_ ?_
   | refine LeO.bind ?_ (fun _ => ?_)
  ·intro y0 y1 y2;unfold r6_number.j2
   repeat' first
   | (with_reducible exact ih0 _ _)
   | (with_reducible exact ih1 _ _)
   | (with_reducible exact ih2 _ _ _)
   | (with_reducible exact ih3 _ _ _ _)
   | (with_reducible exact LeO.refl _)
   | (with_reducible exact LeO.none _)
   | (with_reducible refine LeO.ite ?_ ?_)
   | (with_reducible refine LeO.bind ?_ (fun _ => ?_))
   | exact ih0 _ _
   | exact ih1 _ _
   | exact ih2 _ _ _
   | exact ih3 _ _ _ _
   | exact LeO.none _
   | refine LeO.ite ?_ ?_
   | refine LeO.bind ?_ (fun _ => ?_)
  ·intro y0 y1 y2 y3;unfold r6_number.l0
   repeat' first
   | (with_reducible exact ih0 _ _)
   | (with_reducible exact ih1 _ _)
   | (with_reducible exact ih2 _ _ _)
   | (with_reducible exact ih3 _ _ _ _)
   | (with_reducible exact LeO.refl _)
   | (with_reducible exact LeO.none _)
   | (with_reducible refine LeO.ite ?_ ?_)
   | (with_reducible refine LeO.bind ?_ (fun _ => ?_))
   | exact ih0 _ _
   | exact ih1 _ _
   | exact ih2 _ _ _
   | exact ih3 _ _ _ _
   | exact LeO.none _
   | refine LeO.ite ?_ ?_
   | refine LeO.bind ?_ (fun _ => ?_)
theorem r6_number.mono : ∀ a0 k, LeO (r6_number.f k a0) (r6_number.f (k + 1) a0) := by
 intro a0 k;obtain ⟨ih0, ih1, ih2, ih3⟩ := r6_number.mono_l k;unfold r6_number.f
 repeat' first
   | (with_reducible exact ih0 _ _)
   | (with_reducible exact ih1 _ _)
   | (with_reducible exact ih2 _ _ _)
   | (with_reducible exact ih3 _ _ _ _)
   | (with_reducible exact LeO.refl _)
   | (with_reducible exact LeO.none _)
   | (with_reducible refine LeO.ite ?_ ?_)
   | (with_reducible refine LeO.bind ?_ (fun _ => ?_))
   | exact ih0 _ _
   | exact ih1 _ _
   | exact ih2 _ _ _
   | exact ih3 _ _ _ _
   | exact LeO.none _
   | refine LeO.ite ?_ ?_
   | refine LeO.bind ?_ (fun _ => ?_)
set_option maxHeartbeats 2000000 in
set_option maxRecDepth 100000 in
theorem r6_number.calls (k : Nat) (a0 : ByteArray) (r1 : Int) (r2 : Bool) (w : World) (h : r6_number.f k a0 = some (r1, r2)) :
  Calls Tryz.prog 36 #[.string a0] w fun e w' => e = .returned (.tuple #[.int .i64 r1, .bool r2]) ∧ Drawn0 w w' := by
 have H : (if (a0.size : Int) > 0 then (if 0 < (a0.size : Int) then (r6_number.j0 k a0 ((bt a0 0) == 45)) else (none)) else (r6_number.j0 k a0 false)) = some (r1, r2) := h;clear h;have HC2 := As H;clear H
 go_enter Tryz.func36, Tryz.ntmps36
 go_upto_region 1 with (fail)
 go_cut [4] (fun v4 wc => ∃ (kq : Nat) (x4_1 : Bool), v4 = .bool x4_1 ∧ Aside0 (r6_number.j0 kq a0 x4_1 = some (r1, r2)) ∧ Aside0 (kq ≤ k) ∧ Drawn0 w wc)
 case first =>
  have H := HC2.out;clear HC2
  by_cases c3 : (a0.size : Int) > 0
  ·rw [if_pos c3] at H;have c3b0 : decide (0 < (a0.size : Int)) = true := dY c3;have c3b1 : decide (0 < a0.size) = true := dY (by omega);clear c3
   (first | rw [c3b0] | (simp only [i64_w, i32_w]; rw [c3b0]) | skip)
   by_cases c4 : 0 < (a0.size : Int)
   ·rw [if_pos c4] at H;have c4b0 : decide (0 < (a0.size : Int)) = true := dY c4;have c4b1 : decide (0 < a0.size) = true := dY (by omega);clear c4;have H' := As H;clear H
    have p5 : 0 ≤ (0 : Int) := (by omega)
    have q5 : 0 < a0.size := (by have : (0 : Int) < (a0.size : Int) := dT hy; omega)
    have hx5 : ∀ h : 0 < a0.size, ((a0[0]'h).toNat : Int) = bt a0 0 := bt_at a0 0;clear p5;have qi5 : (0 < (a0.size : Int)) = True := eq_true (dT hy);replace q5 := eq_true q5
    go_wp2
    go_meet
    case rel => exact ⟨_, (((bt a0 0) == 45)), sw, H', ⟨by first | omega | exact Nat.le_refl _⟩, by repeat (first | exact Drawn0.refl _ | apply Drawn0.step)⟩
   ·rw [if_neg c4] at H;exact absurd H (by simp)
  ·rw [if_neg c3] at H;have c3b0 : decide (0 < (a0.size : Int)) = false := dN c3;have c3b1 : decide (0 < a0.size) = false := dN (by omega);clear c3
   (first | rw [c3b0] | (simp only [i64_w, i32_w]; rw [c3b0]) | skip)
   have H' := As H;clear H
   go_wp2
   go_meet
   case rel => exact ⟨_, (false), sw, H', ⟨by first | omega | exact Nat.le_refl _⟩, by repeat (first | exact Drawn0.refl _ | apply Drawn0.step)⟩
 case rest =>
  clear HC2
  try clear p2
  try clear c3
  try clear c3b0
  try clear c3b1
  try clear c4
  try clear c4b0
  try clear c4b1
  try clear p5
  try clear q5
  try clear hx5
  try clear qi5
  try clear p5
  try clear q5
  obtain ⟨kq, x4_1, rfl, HA, HJ1, ⟨mc1, rfl⟩⟩ := hcut
  cases kq with
  | zero => exact absurd HA.out (by simp [r6_number.j0])
  | succ kj1 =>
   have H := HA.out;clear HA;simp only [r6_number.j0] at H;have HC6 := As H;clear H
   go_upto_if 15 with (fail)
   go_cut [0] (fun v0 wc => ∃ (kq : Nat) (x0_5 : ByteArray), v0 = .string x0_5 ∧ Aside0 (r6_number.j1 kq x0_5 x4_1 = some (r1, r2)) ∧ Aside0 (kq ≤ kj1) ∧ Drawn0 w wc)
   case first =>
    have H := HC6.out;clear HC6
    by_cases c7 : x4_1 = true
    ·subst c7
     have H1 : (if 1 ≤ (a0.size : Int) then (r6_number.j1 kj1 (a0.extract 1 a0.size) true) else (none)) = some (r1, r2) := by rw [if_pos rfl] at H; exact H
     clear H;have H := H1;clear H1
     by_cases c8 : 1 ≤ (a0.size : Int)
     ·rw [if_pos c8] at H;have c8b0 := eq_true c8;have c8b1 : decide (1 ≤ (a0.size : Int)) = true := dY c8;clear c8;have H' := As H;clear H
      go_wp2
      go_meet
      case rel => exact ⟨_, (a0.extract 1 a0.size), sw, H', ⟨by have := HJ1.out; first | omega | exact Nat.le_refl _⟩, by repeat (first | exact Drawn0.refl _ | apply Drawn0.step)⟩
     ·rw [if_neg c8] at H;exact absurd H (by simp)
    ·replace c7 := Bool.eq_false_iff.mpr c7;subst c7
     have H1 : (r6_number.j1 kj1 a0 false) = some (r1, r2) := by rw [if_neg (show ¬ (false = true) by decide)] at H; exact H
     clear H;have H := H1;clear H1;have H' := As H;clear H
     go_wp2
     go_meet
     case rel => exact ⟨_, (a0), sw, H', ⟨by have := HJ1.out; first | omega | exact Nat.le_refl _⟩, by repeat (first | exact Drawn0.refl _ | apply Drawn0.step)⟩
   case rest =>
    clear HC6
    try clear c1
    try clear p2
    try clear c3
    try clear c3b0
    try clear c3b1
    try clear c4
    try clear c4b0
    try clear c4b1
    try clear p5
    try clear q5
    try clear hx5
    try clear qi5
    try clear p6
    try clear c7
    try clear c8
    try clear c8b0
    try clear c8b1
    try clear p2
    try clear p5
    try clear q5
    obtain ⟨kq, x0_5, rfl, HA, HJ5, ⟨mc5, rfl⟩⟩ := hcut
    cases kq with
    | zero => exact absurd HA.out (by simp [r6_number.j1])
    | succ kj5 =>
     have H := HA.out;clear HA;simp only [r6_number.j1] at H;have HC9 := As H;clear H
     go_upto_region 4 with (fail)
     go_cut [41] (fun v41 wc => ∃ (kq : Nat) (x41_8 : Bool), v41 = .bool x41_8 ∧ Aside0 (r6_number.j2 kq x0_5 x4_1 x41_8 = some (r1, r2)) ∧ Aside0 (kq ≤ kj5) ∧ Drawn0 w wc)
     case first =>
      have H := HC9.out;clear HC9
      by_cases c10 : x0_5.toList = ([] : List UInt8)
      rw [if_pos c10] at H;have c10b0 : (x0_5.toList == ([] : List UInt8)) = true := beq_iff_eq.mpr c10;have c10b1 : (x0_5.toList != ([] : List UInt8)) = false := bne_eq_false_iff_eq.mpr c10;clear c10
      (first | rw [c10b0] | (simp only [i64_w, i32_w]; rw [c10b0]) | skip)
      have H' := As H;clear H
      have m7_ := trivial
      rotate_left
      focus
       rw [if_neg c10] at H;have c10b0 : (x0_5.toList == ([] : List UInt8)) = false := beq_eq_false_iff_ne.mpr c10;have c10b1 : (x0_5.toList != ([] : List UInt8)) = true := bne_iff_ne.mpr c10
       (first | rw [c10b0] | (simp only [i64_w, i32_w]; rw [c10b0]) | skip)
       by_cases c11 : (x0_5.size : Int) > 9
       rw [if_pos c11] at H;have c11b0 : decide (9 < (x0_5.size : Int)) = true := dY c11;have c11b1 : decide (9 < x0_5.size) = true := dY (by omega);clear c11;have H' := As H;clear H
       have m6_ := trivial
       rotate_left
       focus
        rw [if_neg c11] at H;have c11b0 : decide (9 < (x0_5.size : Int)) = false := dN c11;have c11b1 : decide (9 < x0_5.size) = false := dN (by omega);clear c11
        by_cases c12 : (x0_5.size : Int) > 1
        focus
         rw [if_pos c12] at H;have c12b0 : decide (1 < (x0_5.size : Int)) = true := dY c12;have c12b1 : decide (1 < x0_5.size) = true := dY (by omega);clear c12
         by_cases c13 : 0 < (x0_5.size : Int)
         rotate_left
         ·rw [if_neg c13] at H;exact absurd H (by simp)
         rw [if_pos c13] at H;have c13b0 : decide (0 < (x0_5.size : Int)) = true := dY c13;have c13b1 : decide (0 < x0_5.size) = true := dY (by omega);clear c13
         by_cases c15 : (bt x0_5 0) = 48
         rw [if_pos c15] at H;have c15b0 : ((bt x0_5 0) == 48) = true := beq_iff_eq.mpr c15;have c15b1 : ((bt x0_5 0) != 48) = false := bne_eq_false_iff_eq.mpr c15;clear c15;have H' := As H;clear H
         have p14 : 0 ≤ (0 : Int) := (by omega)
         have q14 : 0 < x0_5.size := (by have : (0 : Int) < (x0_5.size : Int) := dT hy; omega)
         have hx14 : ∀ h : 0 < x0_5.size, ((x0_5[0]'h).toNat : Int) = bt x0_5 0 := bt_at x0_5 0;clear p14;have qi14 : (0 < (x0_5.size : Int)) = True := eq_true (dT hy);replace q14 := eq_true q14
         have m5_ := trivial
         rotate_left
         focus
          rw [if_neg c15] at H;have c15b0 : ((bt x0_5 0) == 48) = false := beq_eq_false_iff_ne.mpr c15;have c15b1 : ((bt x0_5 0) != 48) = true := bne_iff_ne.mpr c15
          by_cases c16 : x4_1 = true
          subst c16
          have H1 : (r6_number.j2 kj5 x0_5 true (x0_5.toList == ([48] : List UInt8))) = some (r1, r2) := by rw [if_pos rfl] at H; exact H
          clear H;have H := H1;clear H1;have H' := As H;clear H
          have p14 : 0 ≤ (0 : Int) := (by omega)
          have q14 : 0 < x0_5.size := (by have : (0 : Int) < (x0_5.size : Int) := dT hy; omega)
          have hx14 : ∀ h : 0 < x0_5.size, ((x0_5[0]'h).toNat : Int) = bt x0_5 0 := bt_at x0_5 0;clear p14;have qi14 : (0 < (x0_5.size : Int)) = True := eq_true (dT hy);replace q14 := eq_true q14
          have m2_ := trivial
          rotate_left
          replace c16 := Bool.eq_false_iff.mpr c16;subst c16
          have H1 : (r6_number.j2 kj5 x0_5 false false) = some (r1, r2) := by rw [if_neg (show ¬ (false = true) by decide)] at H; exact H
          clear H;have H := H1;clear H1;have H' := As H;clear H
          have p14 : 0 ≤ (0 : Int) := (by omega)
          have q14 : 0 < x0_5.size := (by have : (0 : Int) < (x0_5.size : Int) := dT hy; omega)
          have hx14 : ∀ h : 0 < x0_5.size, ((x0_5[0]'h).toNat : Int) = bt x0_5 0 := bt_at x0_5 0;clear p14;have qi14 : (0 < (x0_5.size : Int)) = True := eq_true (dT hy);replace q14 := eq_true q14
          have m4_ := trivial
        rotate_left 3
        focus
         rw [if_neg c12] at H;have c12b0 : decide (1 < (x0_5.size : Int)) = false := dN c12;have c12b1 : decide (1 < x0_5.size) = false := dN (by omega);clear c12
         by_cases c17 : x4_1 = true
         subst c17
         have H1 : (r6_number.j2 kj5 x0_5 true (x0_5.toList == ([48] : List UInt8))) = some (r1, r2) := by rw [if_pos rfl] at H; exact H
         clear H;have H := H1;clear H1;have H' := As H;clear H
         have m1_ := trivial
         rotate_left
         replace c17 := Bool.eq_false_iff.mpr c17;subst c17
         have H1 : (r6_number.j2 kj5 x0_5 false false) = some (r1, r2) := by rw [if_neg (show ¬ (false = true) by decide)] at H; exact H
         clear H;have H := H1;clear H1;have H' := As H;clear H
         have m3_ := trivial
      all_goals
       go_wp2
       go_meet
      all_goals try
       first | (clear m1_; have m1_ := trivial) | (clear m2_; have m2_ := trivial)
       case rel => exact ⟨_, ((x0_5.toList == ([48] : List UInt8))), sw, H', ⟨by have := HJ1.out; have := HJ5.out; first | omega | exact Nat.le_refl _⟩, by repeat (first | exact Drawn0.refl _ | apply Drawn0.step)⟩
      all_goals try
       first | (clear m3_; have m3_ := trivial) | (clear m4_; have m4_ := trivial)
       case rel => exact ⟨_, (false), sw, H', ⟨by have := HJ1.out; have := HJ5.out; first | omega | exact Nat.le_refl _⟩, by repeat (first | exact Drawn0.refl _ | apply Drawn0.step)⟩
      all_goals case rel => exact ⟨_, (true), sw, H', ⟨by have := HJ1.out; have := HJ5.out; first | omega | exact Nat.le_refl _⟩, by repeat (first | exact Drawn0.refl _ | apply Drawn0.step)⟩
     case rest =>
      clear HC9
      try clear c1
      try clear p1
      try clear q1
      try clear hx1
      try clear qi1
      try clear p2
      try clear c3
      try clear c3b0
      try clear c3b1
      try clear c4
      try clear c4b0
      try clear c4b1
      try clear c5
      try clear p5
      try clear q5
      try clear hx5
      try clear qi5
      try clear p6
      try clear c7
      try clear c8
      try clear c8b0
      try clear c8b1
      try clear c10
      try clear c10b0
      try clear c10b1
      try clear c11
      try clear c11b0
      try clear c11b1
      try clear c12
      try clear c12b0
      try clear c12b1
      try clear c13
      try clear c13b0
      try clear c13b1
      try clear p14
      try clear q14
      try clear hx14
      try clear qi14
      try clear c15
      try clear c15b0
      try clear c15b1
      try clear c16
      try clear c17
      try clear p14
      try clear p2
      try clear p5
      try clear p6
      try clear q14
      try clear q5
      obtain ⟨kq, x41_8, rfl, HA, HJ8, ⟨mc8, rfl⟩⟩ := hcut
      cases kq with
      | zero => exact absurd HA.out (by simp [r6_number.j2])
      | succ kj8 =>
       have H := HA.out;clear HA;simp only [r6_number.j2] at H
       by_cases c18 : x41_8 = true
       ·subst c18
        have H1 : (some (0, false)) = some (r1, r2) := by rw [if_pos rfl] at H; exact H
        clear H;have H := H1;clear H1;simp only [Option.some.injEq, Prod.mk.injEq] at H;obtain ⟨rfl, rfl⟩ := H
        go_wp2
        go_ret2
        exact ⟨by first | rfl | (simp; done) | (simp [*]; done) | (simp; unfold wrap64; omega), by repeat (first | exact Drawn0.refl _ | apply Drawn0.step)⟩
       ·replace c18 := Bool.eq_false_iff.mpr c18;subst c18
        have H1 : (r6_number.l0 kj8 x0_5 x4_1 0 0) = some (r1, r2) := by rw [if_neg (show ¬ (false = true) by decide)] at H; exact H
        clear H;have H := H1;clear H1;have H' := As H;clear H
        go_wp2
        go_loopg [5, 6] kj8 (fun kq v5 v6 w' => ∃ (x5_4 : Int) (x6_4 : Int), v5 = .int .i64 x5_4 ∧ v6 = .int .i64 x6_4 ∧ Aside0 (r6_number.l0 kq x0_5 x4_1 x5_4 x6_4 = some (r1, r2)) ∧ Aside0 (kq ≤ kj8) ∧ Drawn0 w w')
        case atStart => exact ⟨(0), (0), sw, sw, H', ⟨Nat.le_refl _⟩, by repeat (first | exact Drawn0.refl _ | apply Drawn0.step)⟩
        case round =>
         clear H'
         try clear c1
         try clear p1
         try clear q1
         try clear hx1
         try clear qi1
         try clear p2
         try clear c3
         try clear c3b0
         try clear c3b1
         try clear c4
         try clear c4b0
         try clear c4b1
         try clear c5
         try clear p5
         try clear q5
         try clear hx5
         try clear qi5
         try clear p6
         try clear c7
         try clear c8
         try clear c8b0
         try clear c8b1
         try clear c10
         try clear c10b0
         try clear c10b1
         try clear c11
         try clear c11b0
         try clear c11b1
         try clear c12
         try clear c12b0
         try clear c12b1
         try clear c13
         try clear c13b0
         try clear c13b1
         try clear p14
         try clear q14
         try clear hx14
         try clear qi14
         try clear c15
         try clear c15b0
         try clear c15b1
         try clear c16
         try clear c17
         try clear c18
         try clear p1
         try clear p14
         try clear p2
         try clear p5
         try clear p6
         try clear q1
         try clear q14
         try clear q5
         obtain ⟨x5_4, x6_4, rfl, rfl, HA, HK4, ⟨m4, rfl⟩⟩ := hrel
         cases gk with
         | zero => exact absurd HA.out (by simp [r6_number.l0])
         | succ k4 =>
          have H := HA.out;clear HA;simp only [r6_number.l0] at H
          by_cases c19 : x6_4 < (x0_5.size : Int)
          focus
           rw [if_pos c19] at H;have c19b0 : decide (x6_4 < (x0_5.size : Int)) = true := dY c19;clear c19
           by_cases c20 : 0 ≤ x6_4
           rotate_left
           ·rw [if_neg c20] at H;exact absurd H (by simp)
           rw [if_pos c20] at H;have c20b0 : decide (0 ≤ x6_4) = true := dY c20;clear c20
           by_cases c22 : (bt x0_5 x6_4) < 48
           rw [if_pos c22] at H;have c22b0 : decide ((bt x0_5 x6_4) < 48) = true := dY c22;clear c22;simp only [Option.some.injEq, Prod.mk.injEq] at H;obtain ⟨rfl, rfl⟩ := H;have p21 : 0 ≤ (x6_4 : Int) := dT hy;have q21 : x6_4 < (x0_5.size : Int) := dT hy;have hx21 := bt_at x0_5 x6_4;replace p21 := eq_true p21;replace q21 := eq_true q21
           have m11_ := trivial
           rotate_left
           focus
            rw [if_neg c22] at H;have c22b0 : decide ((bt x0_5 x6_4) < 48) = false := dN c22;clear c22
            by_cases c24 : (bt x0_5 x6_4) > 57
            rw [if_pos c24] at H;have c24b0 : decide (57 < (bt x0_5 x6_4)) = true := dY c24;clear c24;simp only [Option.some.injEq, Prod.mk.injEq] at H;obtain ⟨rfl, rfl⟩ := H;have p21 : 0 ≤ (x6_4 : Int) := dT hy;have q21 : x6_4 < (x0_5.size : Int) := dT hy;have hx21 := bt_at x0_5 x6_4;replace p21 := eq_true p21;replace q21 := eq_true q21;have p23 : 0 ≤ (x6_4 : Int) := dT hy;have q23 : x6_4 < (x0_5.size : Int) := dT hy;have hx23 := bt_at x0_5 x6_4;replace p23 := eq_true p23;replace q23 := eq_true q23
            have m10_ := trivial
            rotate_left
            rw [if_neg c24] at H;have c24b0 : decide (57 < (bt x0_5 x6_4)) = false := dN c24;clear c24;have H' := As H;clear H;have p21 : 0 ≤ (x6_4 : Int) := dT hy;have q21 : x6_4 < (x0_5.size : Int) := dT hy;have hx21 := bt_at x0_5 x6_4;replace p21 := eq_true p21;replace q21 := eq_true q21;have p23 : 0 ≤ (x6_4 : Int) := dT hy;have q23 : x6_4 < (x0_5.size : Int) := dT hy;have hx23 := bt_at x0_5 x6_4;replace p23 := eq_true p23;replace q23 := eq_true q23;have p25 : 0 ≤ (x6_4 : Int) := dT hy;have q25 : x6_4 < (x0_5.size : Int) := dT hy;have hx25 := bt_at x0_5 x6_4;replace p25 := eq_true p25;replace q25 := eq_true q25
          rotate_left 3
          focus
           rw [if_neg c19] at H;have c19b0 : decide (x6_4 < (x0_5.size : Int)) = false := dN c19;clear c19
           by_cases c26 : x4_1 = true
           subst c26
           have H1 : (some (wrap64 (-x5_4), true)) = some (r1, r2) := by rw [if_pos rfl] at H; exact H
           clear H;have H := H1;clear H1;simp only [Option.some.injEq, Prod.mk.injEq] at H;obtain ⟨rfl, rfl⟩ := H
           have m9_ := trivial
           rotate_left
           replace c26 := Bool.eq_false_iff.mpr c26;subst c26
           have H1 : (some (x5_4, true)) = some (r1, r2) := by rw [if_neg (show ¬ (false = true) by decide)] at H; exact H
           clear H;have H := H1;clear H1;simp only [Option.some.injEq, Prod.mk.injEq] at H;obtain ⟨rfl, rfl⟩ := H
           have m8_ := trivial
          all_goals go_wp2
          all_goals try
           first | (clear m8_; have m8_ := trivial) | (clear m9_; have m9_ := trivial) | (clear m10_; have m10_ := trivial) | (clear m11_; have m11_ := trivial)
           go_ret2
           exact ⟨by first | rfl | (simp; done) | (simp [*]; done) | (simp; unfold wrap64; omega), by repeat (first | exact Drawn0.refl _ | apply Drawn0.step)⟩
          ·go_roundg k4
           case measure => have := HJ1.out; have := HJ5.out; have := HJ8.out; have := HK4.out; omega
           case rel => exact ⟨(wrap64 ((wrap64 (10 * x5_4)) + (((bt x0_5 x6_4) - 48) % 256))), (wrap64 (x6_4 + 1)), sw, sw, H', ⟨by have := HJ1.out; have := HJ5.out; have := HJ8.out; have := HK4.out; omega⟩, by repeat (first | exact Drawn0.refl _ | apply Drawn0.step)⟩

/-! ### r6_dates: function 35 -/
def r6_dates.f (k : Nat) (a0 : ByteArray) : Option (Int × Int × Int × Bool) := (r6_cut.f k a0 45).bind fun t268 => (if (t268.length : Int) = 3 then (if 0 < (t268.length : Int) then ((r6_number.f k (rdOf ByteArray.empty t268 0)).bind fun bt272 => (if 1 < (t268.length : Int) then ((r6_number.f k (rdOf ByteArray.empty t268 1)).bind fun bt275 => (if 2 < (t268.length : Int) then ((r6_number.f k (rdOf ByteArray.empty t268 2)).bind fun bt278 => (if bt272.2 = true then (if bt275.2 = true then (some (bt272.1, bt275.1, bt278.1, bt278.2)) else (some (bt272.1, bt275.1, bt278.1, false))) else (some (bt272.1, bt275.1, bt278.1, false)))) else (none))) else (none))) else (none)) else (some (0, 0, 0, false)))
theorem r6_dates.mono : ∀ a0 k, LeO (r6_dates.f k a0) (r6_dates.f (k + 1) a0) := by
 intro a0 k;unfold r6_dates.f
 repeat' first
   | (with_reducible exact r6_cut.mono _ _ _)
   | (with_reducible exact r6_number.mono _ _)
   | (with_reducible exact LeO.refl _)
   | (with_reducible exact LeO.none _)
   | (with_reducible refine LeO.ite ?_ ?_)
   | (with_reducible refine LeO.bind ?_ (fun _ => ?_))
   | exact r6_cut.mono _ _ _
   | exact r6_number.mono _ _
   | exact LeO.none _
   | refine LeO.ite ?_ ?_
   | refine LeO.bind ?_ (fun _ => ?_)
set_option maxHeartbeats 2000000 in
set_option maxRecDepth 100000 in
theorem r6_dates.calls (k : Nat) (a0 : ByteArray) (r1 : Int) (r2 : Int) (r3 : Int) (r4 : Bool) (w : World) (h : r6_dates.f k a0 = some (r1, r2, r3, r4)) :
  Calls Tryz.prog 35 #[.string a0] w fun e w' => e = .returned (.tuple #[.agg #[.int .i64 r1, .int .i64 r2, .int .i64 r3], .bool r4]) ∧ Below w.heap.size w w' := by
 have hu23 := Tryz.underlying23;have HB := As (Below.refl w.heap.size w);have H : ((r6_cut.f k a0 45).bind fun t268 => (if (t268.length : Int) = 3 then (if 0 < (t268.length : Int) then ((r6_number.f k (rdOf ByteArray.empty t268 0)).bind fun bt272 => (if 1 < (t268.length : Int) then ((r6_number.f k (rdOf ByteArray.empty t268 1)).bind fun bt275 => (if 2 < (t268.length : Int) then ((r6_number.f k (rdOf ByteArray.empty t268 2)).bind fun bt278 => (if bt272.2 = true then (if bt275.2 = true then (some (bt272.1, bt275.1, bt278.1, bt278.2)) else (some (bt272.1, bt275.1, bt278.1, false))) else (some (bt272.1, bt275.1, bt278.1, false)))) else (none))) else (none))) else (none)) else (some (0, 0, 0, false)))) = some (r1, r2, r3, r4) := h;clear h;replace H := bE H;obtain ⟨t268, A20, H⟩ := H;replace H : (if (t268.length : Int) = 3 then (if 0 < (t268.length : Int) then ((r6_number.f k (rdOf ByteArray.empty t268 0)).bind fun bt272 => (if 1 < (t268.length : Int) then ((r6_number.f k (rdOf ByteArray.empty t268 1)).bind fun bt275 => (if 2 < (t268.length : Int) then ((r6_number.f k (rdOf ByteArray.empty t268 2)).bind fun bt278 => (if bt272.2 = true then (if bt275.2 = true then (some (bt272.1, bt275.1, bt278.1, bt278.2)) else (some (bt272.1, bt275.1, bt278.1, false))) else (some (bt272.1, bt275.1, bt278.1, false)))) else (none))) else (none))) else (none)) else (some (0, 0, 0, false))) = some (r1, r2, r3, r4) := H;have A2 := As A20;clear A20
 by_cases c3 : (t268.length : Int) = 3
 focus
  rw [if_pos c3] at H;have c3b0 : ((t268.length : Int) == 3) = true := beq_iff_eq.mpr c3;have c3b1 : ((t268.length : Int) != 3) = false := bne_eq_false_iff_eq.mpr c3;clear c3
  by_cases c4 : 0 < (t268.length : Int)
  rotate_left
  ·rw [if_neg c4] at H;exact absurd H (by simp)
  rw [if_pos c4] at H;have c4b0 : decide (0 < (t268.length : Int)) = true := dY c4;have c4b1 : decide (0 < t268.length) = true := dY (by omega);clear c4;replace H := bE H;obtain ⟨⟨t272, t273⟩, A50, H⟩ := H;replace H : (if 1 < (t268.length : Int) then ((r6_number.f k (rdOf ByteArray.empty t268 1)).bind fun bt275 => (if 2 < (t268.length : Int) then ((r6_number.f k (rdOf ByteArray.empty t268 2)).bind fun bt278 => (if t273 = true then (if bt275.2 = true then (some (t272, bt275.1, bt278.1, bt278.2)) else (some (t272, bt275.1, bt278.1, false))) else (some (t272, bt275.1, bt278.1, false)))) else (none))) else (none)) = some (r1, r2, r3, r4) := H;have A5 := As A50;clear A50
  by_cases c6 : 1 < (t268.length : Int)
  rotate_left
  ·rw [if_neg c6] at H;exact absurd H (by simp)
  rw [if_pos c6] at H;have c6b0 : decide (1 < (t268.length : Int)) = true := dY c6;have c6b1 : decide (1 < t268.length) = true := dY (by omega);clear c6;replace H := bE H;obtain ⟨⟨t275, t276⟩, A70, H⟩ := H;replace H : (if 2 < (t268.length : Int) then ((r6_number.f k (rdOf ByteArray.empty t268 2)).bind fun bt278 => (if t273 = true then (if t276 = true then (some (t272, t275, bt278.1, bt278.2)) else (some (t272, t275, bt278.1, false))) else (some (t272, t275, bt278.1, false)))) else (none)) = some (r1, r2, r3, r4) := H;have A7 := As A70;clear A70
  by_cases c8 : 2 < (t268.length : Int)
  rotate_left
  ·rw [if_neg c8] at H;exact absurd H (by simp)
  rw [if_pos c8] at H;have c8b0 : decide (2 < (t268.length : Int)) = true := dY c8;have c8b1 : decide (2 < t268.length) = true := dY (by omega);clear c8;replace H := bE H;obtain ⟨⟨t278, t279⟩, A90, H⟩ := H;replace H : (if t273 = true then (if t276 = true then (some (t272, t275, t278, t279)) else (some (t272, t275, t278, false))) else (some (t272, t275, t278, false))) = some (r1, r2, r3, r4) := H;have A9 := As A90;clear A90
  by_cases c10 : t273 = true
  focus
   subst c10
   have H1 : (if t276 = true then (some (t272, t275, t278, t279)) else (some (t272, t275, t278, false))) = some (r1, r2, r3, r4) := by rw [if_pos rfl] at H; exact H
   clear H;have H := H1;clear H1
   by_cases c11 : t276 = true
   subst c11
   have H1 : (some (t272, t275, t278, t279)) = some (r1, r2, r3, r4) := by rw [if_pos rfl] at H; exact H
   clear H;have H := H1;clear H1;simp only [Option.some.injEq, Prod.mk.injEq] at H;obtain ⟨rfl, rfl, rfl, rfl⟩ := H
   have m3_ := trivial
   rotate_left
   replace c11 := Bool.eq_false_iff.mpr c11;subst c11
   have H1 : (some (t272, t275, t278, false)) = some (r1, r2, r3, r4) := by rw [if_neg (show ¬ (false = true) by decide)] at H; exact H
   clear H;have H := H1;clear H1;simp only [Option.some.injEq, Prod.mk.injEq] at H;obtain ⟨rfl, rfl, rfl, rfl⟩ := H
   have m2_ := trivial
  rotate_left 2
  replace c10 := Bool.eq_false_iff.mpr c10;subst c10
  have H1 : (some (t272, t275, t278, false)) = some (r1, r2, r3, r4) := by rw [if_neg (show ¬ (false = true) by decide)] at H; exact H
  clear H;have H := H1;clear H1;simp only [Option.some.injEq, Prod.mk.injEq] at H;obtain ⟨rfl, rfl, rfl, rfl⟩ := H
  have m1_ := trivial
 rotate_left 3
 rw [if_neg c3] at H;have c3b0 : ((t268.length : Int) == 3) = false := beq_eq_false_iff_ne.mpr c3;have c3b1 : ((t268.length : Int) != 3) = true := bne_iff_ne.mpr c3;simp only [Option.some.injEq, Prod.mk.injEq] at H;obtain ⟨rfl, rfl, rfl, rfl⟩ := H
 all_goals go_enter Tryz.func35, Tryz.ntmps35
 all_goals try
  first | (clear m1_; have m1_ := trivial) | (clear m2_; have m2_ := trivial) | (clear m3_; have m3_ := trivial)
  go_wp2_with (first | ((with_reducible refine gate_dst (N := 2) rfl ?_); refine box_event ?hg (N := 2) ?hd (cs := #[.int .i64 0, .int .i64 0, .int .i64 0]) (t := 23) ?hr ?_; (case hd => rfl); (case hg => rfl); (case hr => first | (go_simp; done) | (go_simp; rfl)); intro gb267 hg w20 hbox hb; have BK267 := As (hbox); have GW267 := As ((gz hg (be HB.out) : w.heap.size ≤ gb267)); have GE267 := As ((gz hg (be HB.out) : w.heap.size ≤ gb267)); replace HB := As (XT (be HB.out) hb); clear hb hbox hg) | ((with_reducible refine gate_callee (f := 34) rfl ?_); refine goesL_ (some 12) rfl rfl Tryz.func34 kr rfl #[.string a0, .int .u8 45] rfl sa ?_; (with_reducible refine (r6_cut.calls k a0 45 _ _ A2.out).mono ?_); rintro e w21 ⟨v269, rfl, ho0, hb⟩; refine ⟨_, rfl, ?_⟩; have HO270 := As (Kd.R_lower ho0 (XZ (be HB.out))); replace BK267 := As (YB (g := gb267) (o := .cells #[.int .i64 0, .int .i64 0, .int .i64 0] 23 (0, 0)) (bk BK267.out) hb); replace HB := As (XT (be HB.out) hb); (try clear hb); (try clear hb2); (try clear hk); (try clear hi); (try clear ho0); obtain ⟨Ao22, co22, eo22⟩ := Kd.R_slice HO270.out; subst eo22; have p271 : 0 ≤ (0 : Int) := (by omega); have q271 : 0 < (t268.length : Int) := dT hy; obtain ⟨ad271, e271, hx271_0⟩ := Kd.at_string (RR HO270.out).2.2 0 p271 q271; cases e271; have qi271 : (0 < t268.length) = True := eq_true (by omega); (try rw [show ((0 : Int)).toNat = 0 from rfl] at hx271_0); (try rw [Addr.add_zero'] at hx271_0); replace p271 := eq_true p271; replace q271 := eq_true q271) | ((with_reducible refine gate_callee (f := 36) rfl ?_); refine goesL_ (some 21) rfl rfl Tryz.func36 kr rfl #[.string (rdOf ByteArray.empty t268 0)] rfl sa ?_; (with_reducible refine (r6_number.calls k (rdOf ByteArray.empty t268 0) _ _ _ A5.out).mono ?_); rintro e w' ⟨rfl, ⟨nd, rfl⟩⟩; refine ⟨_, rfl, ?_⟩; (try (rw [drewN_self w21]; generalize hq_ : World.drewN w21 _ = w21; have n0_ : Aside0 (Kd.R Kd.string 9 w21 w.heap.size (fun _ => True) (.slice (some ad271) t268.length co22) t268) := ⟨by rw [← hq_]; exact (ro HO270.out)⟩; have n1_ : Aside0 (w21.heap[gb267]? = some (.cells #[.int .i64 0, .int .i64 0, .int .i64 0] 23 (0, 0))) := ⟨by rw [← hq_]; exact (bk BK267.out)⟩; have n2_ : Aside0 (Below w.heap.size w w21) := ⟨by rw [← hq_]; exact (be HB.out)⟩; clear HO270 BK267 HB hq_; have HO270 := n0_; have BK267 := n1_; have HB := n2_; clear n0_ n1_ n2_)); have p274 : 0 ≤ (1 : Int) := (by omega); have q274 : 1 < (t268.length : Int) := dT hy; obtain ⟨ad274, e274, hx274_0⟩ := Kd.at_string (RR HO270.out).2.2 1 p274 q274; obtain rfl : ad271 = ad274 := (by injection e274); (try simp only [show (1 : Int).toNat = 1 from rfl, Nat.reduceMul, Nat.reduceEqDiff, Go.Addr.add, ↓reduceIte] at hx274_0); have qi274 : (1 < t268.length) = True := eq_true (by omega); (try rw [show ((1 : Int)).toNat = 1 from rfl] at hx274_0); replace p274 := eq_true p274; replace q274 := eq_true q274) | ((with_reducible refine gate_callee (f := 36) rfl ?_); refine goesL_ (some 28) rfl rfl Tryz.func36 kr rfl #[.string (rdOf ByteArray.empty t268 1)] rfl sa ?_; (with_reducible refine (r6_number.calls k (rdOf ByteArray.empty t268 1) _ _ _ A7.out).mono ?_); rintro e w' ⟨rfl, ⟨nd, rfl⟩⟩; refine ⟨_, rfl, ?_⟩; (try (rw [drewN_self w21]; generalize hq_ : World.drewN w21 _ = w21; have n0_ : Aside0 (Kd.R Kd.string 9 w21 w.heap.size (fun _ => True) (.slice (some ad271) t268.length co22) t268) := ⟨by rw [← hq_]; exact (ro HO270.out)⟩; have n1_ : Aside0 (w21.heap[gb267]? = some (.cells #[.int .i64 0, .int .i64 0, .int .i64 0] 23 (0, 0))) := ⟨by rw [← hq_]; exact (bk BK267.out)⟩; have n2_ : Aside0 (Below w.heap.size w w21) := ⟨by rw [← hq_]; exact (be HB.out)⟩; clear HO270 BK267 HB hq_; have HO270 := n0_; have BK267 := n1_; have HB := n2_; clear n0_ n1_ n2_)); have p277 : 0 ≤ (2 : Int) := (by omega); have q277 : 2 < (t268.length : Int) := dT hy; obtain ⟨ad277, e277, hx277_0⟩ := Kd.at_string (RR HO270.out).2.2 2 p277 q277; obtain rfl : ad271 = ad277 := (by injection e277); (try simp only [show (2 : Int).toNat = 2 from rfl, Nat.reduceMul, Nat.reduceEqDiff, Go.Addr.add, ↓reduceIte] at hx277_0); have qi277 : (2 < t268.length) = True := eq_true (by omega); (try rw [show ((2 : Int)).toNat = 2 from rfl] at hx277_0); replace p277 := eq_true p277; replace q277 := eq_true q277) | ((with_reducible refine gate_callee (f := 36) rfl ?_); refine goesL_ (some 35) rfl rfl Tryz.func36 kr rfl #[.string (rdOf ByteArray.empty t268 2)] rfl sa ?_; (with_reducible refine (r6_number.calls k (rdOf ByteArray.empty t268 2) _ _ _ A9.out).mono ?_); rintro e w' ⟨rfl, ⟨nd, rfl⟩⟩; refine ⟨_, rfl, ?_⟩; (try (rw [drewN_self w21]; generalize hq_ : World.drewN w21 _ = w21; have n0_ : Aside0 (Kd.R Kd.string 9 w21 w.heap.size (fun _ => True) (.slice (some ad271) t268.length co22) t268) := ⟨by rw [← hq_]; exact (ro HO270.out)⟩; have n1_ : Aside0 (w21.heap[gb267]? = some (.cells #[.int .i64 0, .int .i64 0, .int .i64 0] 23 (0, 0))) := ⟨by rw [← hq_]; exact (bk BK267.out)⟩; have n2_ : Aside0 (Below w.heap.size w w21) := ⟨by rw [← hq_]; exact (be HB.out)⟩; clear HO270 BK267 HB hq_; have HO270 := n0_; have BK267 := n1_; have HB := n2_; clear n0_ n1_ n2_)); obtain ⟨hcz23_0, hcz23_1, hcz23_2, hfz23_0, hfz23_1, hfz23_2⟩ := cz3 BK267.out))
  refine bodyPost_ret (results_ct rfl _ _ gb267 23 #[.int .i64 t272, .int .i64 t275, .int .i64 t278] (0, 0) _ rfl (by apply blk_to; (iterate 3 ((with_reducible repeat (first | refine YN ?_ _ | refine YD ?_ | refine YA ?_ _)); apply blk_set)); (with_reducible repeat (first | refine YN ?_ _ | refine YD ?_ | refine YA ?_ _)); exact BK267.out; simp only [z0,z1,z2]) Tryz.underlying23 rfl kr) rfl ?_;exact ⟨by first | rfl | (simp [errW_none, errW_some] <;> rfl) | (simp [*, errW_none, errW_some] <;> rfl), by repeat (first | (with_reducible first | exact HB.out | apply XA | apply XN | apply XD | refine XS ?_ GE267.out) | exact HB.out)⟩
 ·go_wp2_with (first | ((with_reducible refine gate_dst (N := 2) rfl ?_); refine box_event ?hg (N := 2) ?hd (cs := #[.int .i64 0, .int .i64 0, .int .i64 0]) (t := 23) ?hr ?_; (case hd => rfl); (case hg => rfl); (case hr => first | (go_simp; done) | (go_simp; rfl)); intro gb267 hg w24 hbox hb; have BK267 := As (hbox); have GW267 := As ((gz hg (be HB.out) : w.heap.size ≤ gb267)); have GE267 := As ((gz hg (be HB.out) : w.heap.size ≤ gb267)); replace HB := As (XT (be HB.out) hb); clear hb hbox hg) | ((with_reducible refine gate_callee (f := 34) rfl ?_); refine goesL_ (some 12) rfl rfl Tryz.func34 kr rfl #[.string a0, .int .u8 45] rfl sa ?_; (with_reducible refine (r6_cut.calls k a0 45 _ _ A2.out).mono ?_); rintro e w25 ⟨v269, rfl, ho0, hb⟩; refine ⟨_, rfl, ?_⟩; have HO270 := As (Kd.R_lower ho0 (XZ (be HB.out))); replace BK267 := As (YB (g := gb267) (o := .cells #[.int .i64 0, .int .i64 0, .int .i64 0] 23 (0, 0)) (bk BK267.out) hb); replace HB := As (XT (be HB.out) hb); (try clear hb); (try clear hb2); (try clear hk); (try clear hi); (try clear ho0); obtain ⟨Ao26, co26, eo26⟩ := Kd.R_slice HO270.out; subst eo26; obtain ⟨hcz27_0, hcz27_1, hcz27_2, hfz27_0, hfz27_1, hfz27_2⟩ := cz3 BK267.out))
  refine bodyPost_ret (results_ct rfl _ _ gb267 23 #[.int .i64 0, .int .i64 0, .int .i64 0] (0, 0) _ rfl (by apply blk_to; (iterate 3 ((with_reducible repeat (first | refine YN ?_ _ | refine YD ?_ | refine YA ?_ _)); apply blk_set)); (with_reducible repeat (first | refine YN ?_ _ | refine YD ?_ | refine YA ?_ _)); exact BK267.out; simp only [z0,z1,z2]) Tryz.underlying23 rfl kr) rfl ?_;exact ⟨by first | rfl | (simp [errW_none, errW_some] <;> rfl) | (simp [*, errW_none, errW_some] <;> rfl), by repeat (first | (with_reducible first | exact HB.out | apply XA | apply XN | apply XD | refine XS ?_ GE267.out) | exact HB.out)⟩

end Go.Proofs.YtpagbmkdphdjoaaGreatDoor.P
-- SHRUNK
-- PACKED
-- PACKED2
