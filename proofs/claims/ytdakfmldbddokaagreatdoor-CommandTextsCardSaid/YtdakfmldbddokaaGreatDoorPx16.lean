-- written by myprint.py (this claim's own program, after the kit's print)
import Derived.Test.YtdakfmldbddokaaGreatDoorPx0
import Derived.Test.YtdakfmldbddokaaGreatDoorPack
namespace Go.Proofs.YtdakfmldbddokaaGreatDoor.P
open Go.RowKit Go.Proofs.YtdakfmldbddokaaGreatDoorW.PrintWords Go.Proofs.YtdakfmldbddokaaGreatDoorW.PrintLast Go.Proofs.YtdakfmldbddokaaGreatDoorW.PrintMore
attribute [local go_sem] max2_int min2_int max_two min_two max_three min_three max_four min_four   -- for this text's walks alone
set_option linter.unusedVariables false
set_option linter.unusedSimpArgs false

/-! ### vI: function 41 -/
mutual
def vI.j0 : Nat → ByteArray → Int → Int → Bool → ByteArray → Option (Int × Int)
 | 0, _, _, _, _, _ => none
 | k + 1, x0, x1, x2, x8, x9 => if x9.toList = ([] : List UInt8) then (vI.j1 k x1 x2 x8 x9 true) else (if (x0.size : Int) > 19 then (vI.j1 k x1 x2 x8 x9 true) else (if 0 < (x9.size : Int) then (if (bt x9 0) = 48 then (if (x9.size : Int) > 1 then (vI.j1 k x1 x2 x8 x9 true) else (vI.j1 k x1 x2 x8 x9 x8)) else (vI.j1 k x1 x2 x8 x9 false)) else (none)))
def vI.j1 : Nat → Int → Int → Bool → ByteArray → Bool → Option (Int × Int)
 | 0, _, _, _, _, _ => none
 | k + 1, x1, x2, x8, x9, x42 => if x42 = true then (some (0, 3)) else (vI.l0 k x1 x2 x8 x9 0)
def vI.l0 : Nat → Int → Int → Bool → ByteArray → Int → Option (Int × Int)
 | 0, _, _, _, _, _ => none
 | k + 1, x1, x2, x8, x9, x10 => if x10 < (x9.size : Int) then (if 0 ≤ x10 then (if (bt x9 x10) < 48 then (some (0, 3)) else (if (bt x9 x10) > 57 then (some (0, 3)) else (vI.l0 k x1 x2 x8 x9 (wrap64 (x10 + 1))))) else (none)) else (vI.l1 k x1 x2 x8 x9 0 0)
def vI.l1 : Nat → Int → Int → Bool → ByteArray → Int → Int → Option (Int × Int)
 | 0, _, _, _, _, _, _ => none
 | k + 1, x1, x2, x8, x9, x11, x12 => if x12 < (x9.size : Int) then (if 0 ≤ x12 then (vI.l1 k x1 x2 x8 x9 (IntKind.u64.wrap ((IntKind.u64.wrap (10 * x11)) + (((bt x9 x12) - 48) % 256))) (wrap64 (x12 + 1))) else (none)) else (if x11 > 9223372036854775807 then (some (0, 5)) else (if x8 = true then (if (wrap64 (-(wrap64 (x11)))) < x1 then (some (0, 5)) else (if (wrap64 (-(wrap64 (x11)))) > x2 then (some (0, 5)) else (some (wrap64 (-(wrap64 (x11))), 0)))) else (if (wrap64 (x11)) < x1 then (some (0, 5)) else (if (wrap64 (x11)) > x2 then (some (0, 5)) else (some (wrap64 (x11), 0))))))
end
def vI.f (k : Nat) (a0 : ByteArray) (a1 : Int) (a2 : Int) : Option (Int × Int) := if a0.toList = ([] : List UInt8) then (some (0, 13)) else (if 0 < (a0.size : Int) then (if (bt a0 0) = 45 then (if 1 ≤ (a0.size : Int) then (vI.j0 k a0 a1 a2 ((bt a0 0) == 45) (a0.extract 1 a0.size)) else (none)) else (vI.j0 k a0 a1 a2 ((bt a0 0) == 45) a0)) else (none))
theorem vI.mono_l : ∀ k, (∀ y0 y1 y2 y3 y4, LeO (vI.j0 k y0 y1 y2 y3 y4) (vI.j0 (k + 1) y0 y1 y2 y3 y4)) ∧ (∀ y0 y1 y2 y3 y4, LeO (vI.j1 k y0 y1 y2 y3 y4) (vI.j1 (k + 1) y0 y1 y2 y3 y4)) ∧ (∀ y0 y1 y2 y3 y4, LeO (vI.l0 k y0 y1 y2 y3 y4) (vI.l0 (k + 1) y0 y1 y2 y3 y4)) ∧ (∀ y0 y1 y2 y3 y4 y5, LeO (vI.l1 k y0 y1 y2 y3 y4 y5) (vI.l1 (k + 1) y0 y1 y2 y3 y4 y5))
 | 0 => ⟨fun _ _ _ _ _ r h => by simp [vI.j0] at h, fun _ _ _ _ _ r h => by simp [vI.j1] at h, fun _ _ _ _ _ r h => by simp [vI.l0] at h, fun _ _ _ _ _ _ r h => by simp [vI.l1] at h⟩
 | k + 1 => by
  obtain ⟨ih0, ih1, ih2, ih3⟩ := vI.mono_l k;refine ⟨?_, ?_, ?_, ?_⟩
  ·intro y0 y1 y2 y3 y4;unfold vI.j0
   repeat' (with_reducible first|apply ih0|apply ih1|apply ih2|apply ih3|apply LeO.refl|apply LeO.none|refine LeO.ite ?_ ?_|refine LeO.bind ?_ (fun _=>?_))
  ·intro y0 y1 y2 y3 y4;unfold vI.j1
   repeat' (with_reducible first|apply ih0|apply ih1|apply ih2|apply ih3|apply LeO.refl|apply LeO.none|refine LeO.ite ?_ ?_|refine LeO.bind ?_ (fun _=>?_))
  ·intro y0 y1 y2 y3 y4;unfold vI.l0
   repeat' (with_reducible first|apply ih0|apply ih1|apply ih2|apply ih3|apply LeO.refl|apply LeO.none|refine LeO.ite ?_ ?_|refine LeO.bind ?_ (fun _=>?_))
  ·intro y0 y1 y2 y3 y4 y5;unfold vI.l1
   repeat' (with_reducible first|apply ih0|apply ih1|apply ih2|apply ih3|apply LeO.refl|apply LeO.none|refine LeO.ite ?_ ?_|refine LeO.bind ?_ (fun _=>?_))
theorem vI.mono : ∀ a0 a1 a2 k, LeO (vI.f k a0 a1 a2) (vI.f (k + 1) a0 a1 a2) := by
 intro a0 a1 a2 k;obtain ⟨ih0, ih1, ih2, ih3⟩ := vI.mono_l k;unfold vI.f
 repeat' (with_reducible first|apply ih0|apply ih1|apply ih2|apply ih3|apply LeO.refl|apply LeO.none|refine LeO.ite ?_ ?_|refine LeO.bind ?_ (fun _=>?_))
set_option maxHeartbeats 8000000 in
set_option maxRecDepth 100000 in
theorem vI.calls (k : Nat) (a0 : ByteArray) (a1 : Int) (a2 : Int) (r1 : Int) (r2 : Int) (w : World) (h : vI.f k a0 a1 a2 = some (r1, r2)) :
  Calls Tryz.prog 41 #[.string a0, .int .i64 a1, .int .i64 a2] w fun e w' => e = .returned (.tuple #[.int .i64 r1, .int .i64 r2]) ∧ Drawn0 w w' := by
 have H : (if a0.toList = ([] : List UInt8) then (some (0, 13)) else (if 0 < (a0.size : Int) then (if (bt a0 0) = 45 then (if 1 ≤ (a0.size : Int) then (vI.j0 k a0 a1 a2 ((bt a0 0) == 45) (a0.extract 1 a0.size)) else (none)) else (vI.j0 k a0 a1 a2 ((bt a0 0) == 45) a0)) else (none))) = some (r1, r2) := h;clear h
 by_cases c4 : a0.toList = ([] : List UInt8)
 ·rw [if_pos c4] at H;have c4b0 : (a0.toList == ([] : List UInt8)) = true := beq_iff_eq.mpr c4;have c4b1 : (a0.toList != ([] : List UInt8)) = false := bne_eq_false_iff_eq.mpr c4;clear c4;simp only [Option.some.injEq, Prod.mk.injEq] at H;obtain ⟨rfl, rfl⟩ := H
  go_enter Tryz.func41, Tryz.ntmps41
  go_wp2
  go_ret2
  exact ⟨by first | rfl | (simp; done) | (simp [*]; done) | (simp; unfold wrap64; omega), by repeat (first | exact Drawn0.refl _ | apply Drawn0.step)⟩
 ·rw [if_neg c4] at H;have c4b0 : (a0.toList == ([] : List UInt8)) = false := beq_eq_false_iff_ne.mpr c4;have c4b1 : (a0.toList != ([] : List UInt8)) = true := bne_iff_ne.mpr c4
  by_cases c5 : 0 < (a0.size : Int)
  ·rw [if_pos c5] at H;have c5b0 : decide (0 < (a0.size : Int)) = true := dY c5;have c5b1 : decide (0 < a0.size) = true := dY (by omega);clear c5;have HC7 := As H;clear H
   have p6 : 0 ≤ (0 : Int) := (by omega)
   have q6 : 0 < a0.size := (by have : (0 : Int) < (a0.size : Int) := dT hy; omega)
   have hx6 : ∀ h : 0 < a0.size, ((a0[0]'h).toNat : Int) = bt a0 0 := bt_at a0 0;clear p6;have qi6 : (0 < (a0.size : Int)) = True := eq_true (dT hy);replace q6 := eq_true q6
   obtain ⟨mb, hm⟩ : ∃ mb, ((bt a0 0) == 45) = mb := ⟨_, rfl⟩
   rw [hm] at HC7
   go_enter Tryz.func41, Tryz.ntmps41
   go_upto_if 20 with (fail)
   go_cut [9] (fun v9 wc => ∃ (kq : Nat) (x9_6 : ByteArray), v9 = .string x9_6 ∧ Aside0 (vI.j0 kq a0 a1 a2 mb x9_6 = some (r1, r2)) ∧ Aside0 (kq ≤ k) ∧ Drawn0 w wc)
   case first =>
    have H := HC7.out;clear HC7
    by_cases c8 : (bt a0 0) = 45
    ·rw [if_pos c8] at H;have c8b0 : mb = true := hm.symm.trans (beq_iff_eq.mpr c8);subst c8b0;have c8b1 : ((bt a0 0) != 45) = false := bne_eq_false_iff_eq.mpr c8;clear c8
     (first | rw [hm] | (simp only [i64_w, i32_w]; rw [hm]) | skip)
     by_cases c9 : 1 ≤ (a0.size : Int)
     ·rw [if_pos c9] at H;have c9b0 := eq_true c9;have c9b1 : decide (1 ≤ (a0.size : Int)) = true := dY c9;clear c9;have H' := As H;clear H
      go_wp2
      go_meet
      case rel => exact ⟨_, (a0.extract 1 a0.size), sw, H', ⟨by first | omega | exact Nat.le_refl _⟩, by repeat (first | exact Drawn0.refl _ | apply Drawn0.step)⟩
     ·rw [if_neg c9] at H;exact absurd H (by simp)
    ·rw [if_neg c8] at H;have c8b0 : mb = false := hm.symm.trans (beq_eq_false_iff_ne.mpr c8);subst c8b0;have c8b1 : ((bt a0 0) != 45) = true := bne_iff_ne.mpr c8
     (first | rw [hm] | (simp only [i64_w, i32_w]; rw [hm]) | skip)
     have H' := As H;clear H
     go_wp2
     go_meet
     case rel => exact ⟨_, (a0), sw, H', ⟨by first | omega | exact Nat.le_refl _⟩, by repeat (first | exact Drawn0.refl _ | apply Drawn0.step)⟩
   case rest =>
    clear HC7
    try clear p2
    try clear c4
    try clear c4b0
    try clear c4b1
    try clear c5
    try clear c5b0
    try clear c5b1
    try clear p6
    try clear q6
    try clear hx6
    try clear qi6
    try clear c8
    try clear c8b0
    try clear c8b1
    try clear c9
    try clear c9b0
    try clear c9b1
    try clear p6
    try clear q6
    obtain ⟨kq, x9_6, rfl, HA, HJ6, ⟨mc6, rfl⟩⟩ := hcut
    cases kq with
    | zero => exact absurd HA.out (by simp [vI.j0])
    | succ kj6 =>
     have H := HA.out;clear HA;simp only [vI.j0] at H;have HC10 := As H;clear H
     go_upto_region 7 with (fail)
     go_cut [42] (fun v42 wc => ∃ (kq : Nat) (x42_9 : Bool), v42 = .bool x42_9 ∧ Aside0 (vI.j1 kq a1 a2 mb x9_6 x42_9 = some (r1, r2)) ∧ Aside0 (kq ≤ kj6) ∧ Drawn0 w wc)
     case first =>
      have H := HC10.out;clear HC10
      by_cases c11 : x9_6.toList = ([] : List UInt8)
      rw [if_pos c11] at H;have c11b0 : (x9_6.toList == ([] : List UInt8)) = true := beq_iff_eq.mpr c11;have c11b1 : (x9_6.toList != ([] : List UInt8)) = false := bne_eq_false_iff_eq.mpr c11;clear c11
      (first | rw [c11b0] | (simp only [i64_w, i32_w]; rw [c11b0]) | skip)
      have H' := As H;clear H
      have m3_ := trivial
      rotate_left
      focus
       rw [if_neg c11] at H;have c11b0 : (x9_6.toList == ([] : List UInt8)) = false := beq_eq_false_iff_ne.mpr c11;have c11b1 : (x9_6.toList != ([] : List UInt8)) = true := bne_iff_ne.mpr c11
       (first | rw [c11b0] | (simp only [i64_w, i32_w]; rw [c11b0]) | skip)
       by_cases c12 : (a0.size : Int) > 19
       rw [if_pos c12] at H;have c12b0 : decide (19 < (a0.size : Int)) = true := dY c12;have c12b1 : decide (19 < a0.size) = true := dY (by omega);clear c12;have H' := As H;clear H
       have m2_ := trivial
       rotate_left
       focus
        rw [if_neg c12] at H;have c12b0 : decide (19 < (a0.size : Int)) = false := dN c12;have c12b1 : decide (19 < a0.size) = false := dN (by omega);clear c12
        by_cases c13 : 0 < (x9_6.size : Int)
        rotate_left
        ·rw [if_neg c13] at H;exact absurd H (by simp)
        rw [if_pos c13] at H;have c13b0 : decide (0 < (x9_6.size : Int)) = true := dY c13;have c13b1 : decide (0 < x9_6.size) = true := dY (by omega);clear c13
        by_cases c15 : (bt x9_6 0) = 48
        focus
         rw [if_pos c15] at H;have c15b0 : ((bt x9_6 0) == 48) = true := beq_iff_eq.mpr c15;have c15b1 : ((bt x9_6 0) != 48) = false := bne_eq_false_iff_eq.mpr c15;clear c15
         by_cases c16 : (x9_6.size : Int) > 1
         rw [if_pos c16] at H;have c16b0 : decide (1 < (x9_6.size : Int)) = true := dY c16;have c16b1 : decide (1 < x9_6.size) = true := dY (by omega);clear c16;have H' := As H;clear H
         have p14 : 0 ≤ (0 : Int) := (by omega)
         have q14 : 0 < x9_6.size := (by have : (0 : Int) < (x9_6.size : Int) := dT hy; omega)
         have hx14 : ∀ h : 0 < x9_6.size, ((x9_6[0]'h).toNat : Int) = bt x9_6 0 := bt_at x9_6 0;clear p14;have qi14 : (0 < (x9_6.size : Int)) = True := eq_true (dT hy);replace q14 := eq_true q14
         have m1_ := trivial
         rotate_left
         rw [if_neg c16] at H;have c16b0 : decide (1 < (x9_6.size : Int)) = false := dN c16;have c16b1 : decide (1 < x9_6.size) = false := dN (by omega);clear c16;have H' := As H;clear H
         have p14 : 0 ≤ (0 : Int) := (by omega)
         have q14 : 0 < x9_6.size := (by have : (0 : Int) < (x9_6.size : Int) := dT hy; omega)
         have hx14 : ∀ h : 0 < x9_6.size, ((x9_6[0]'h).toNat : Int) = bt x9_6 0 := bt_at x9_6 0;clear p14;have qi14 : (0 < (x9_6.size : Int)) = True := eq_true (dT hy);replace q14 := eq_true q14
        rotate_left 2
        rw [if_neg c15] at H;have c15b0 : ((bt x9_6 0) == 48) = false := beq_eq_false_iff_ne.mpr c15;have c15b1 : ((bt x9_6 0) != 48) = true := bne_iff_ne.mpr c15;have H' := As H;clear H
        have p14 : 0 ≤ (0 : Int) := (by omega)
        have q14 : 0 < x9_6.size := (by have : (0 : Int) < (x9_6.size : Int) := dT hy; omega)
        have hx14 : ∀ h : 0 < x9_6.size, ((x9_6[0]'h).toNat : Int) = bt x9_6 0 := bt_at x9_6 0;clear p14;have qi14 : (0 < (x9_6.size : Int)) = True := eq_true (dT hy);replace q14 := eq_true q14
      all_goals
       go_wp2
       go_meet
      all_goals try
       first | (clear m1_; have m1_ := trivial) | (clear m2_; have m2_ := trivial) | (clear m3_; have m3_ := trivial)
       case rel => exact ⟨_, (true), sw, H', ⟨by have := HJ6.out; first | omega | exact Nat.le_refl _⟩, by repeat (first | exact Drawn0.refl _ | apply Drawn0.step)⟩
      ·case rel => exact ⟨_, (false), sw, H', ⟨by have := HJ6.out; first | omega | exact Nat.le_refl _⟩, by repeat (first | exact Drawn0.refl _ | apply Drawn0.step)⟩
      ·case rel => exact ⟨_, (mb), sw, H', ⟨by have := HJ6.out; first | omega | exact Nat.le_refl _⟩, by repeat (first | exact Drawn0.refl _ | apply Drawn0.step)⟩
     case rest =>
      clear HC10
      try clear c1
      try clear p1
      try clear q1
      try clear hx1
      try clear qi1
      try clear p2
      try clear c4
      try clear c4b0
      try clear c4b1
      try clear c5
      try clear c5b0
      try clear c5b1
      try clear c6
      try clear p6
      try clear q6
      try clear hx6
      try clear qi6
      try clear c8
      try clear c8b0
      try clear c8b1
      try clear c9
      try clear c9b0
      try clear c9b1
      try clear c11
      try clear c11b0
      try clear c11b1
      try clear c12
      try clear c12b0
      try clear c12b1
      try clear c13
      try clear c13b0
      try clear c13b1
      try clear p14
      try clear q14
      try clear hx14
      try clear qi14
      try clear c15
      try clear c15b0
      try clear c15b1
      try clear c16
      try clear c16b0
      try clear c16b1
      try clear p14
      try clear p2
      try clear p6
      try clear q14
      try clear q6
      obtain ⟨kq, x42_9, rfl, HA, HJ9, ⟨mc9, rfl⟩⟩ := hcut
      cases kq with
      | zero => exact absurd HA.out (by simp [vI.j1])
      | succ kj9 =>
       have H := HA.out;clear HA;simp only [vI.j1] at H
       by_cases c17 : x42_9 = true
       ·subst c17
        have H1 : (some (0, 3)) = some (r1, r2) := by rw [if_pos rfl] at H; exact H
        clear H;have H := H1;clear H1;simp only [Option.some.injEq, Prod.mk.injEq] at H;obtain ⟨rfl, rfl⟩ := H
        go_wp2
        go_ret2
        exact ⟨by first | rfl | (simp; done) | (simp [*]; done) | (simp; unfold wrap64; omega), by repeat (first | exact Drawn0.refl _ | apply Drawn0.step)⟩
       ·replace c17 := Bool.eq_false_iff.mpr c17;subst c17
        have H1 : (vI.l0 kj9 a1 a2 mb x9_6 0) = some (r1, r2) := by rw [if_neg (show ¬ (false = true) by decide)] at H; exact H
        clear H;have H := H1;clear H1;have H' := As H;clear H
        go_wp2
        go_loopg [10] kj9 (fun kq v10 w' => ∃ (x10_3 : Int), v10 = .int .i64 x10_3 ∧ Aside0 (vI.l0 kq a1 a2 mb x9_6 x10_3 = some (r1, r2)) ∧ Aside0 (kq ≤ kj9) ∧ Drawn0 w w')
        case atStart => exact ⟨(0), sw, H', ⟨Nat.le_refl _⟩, by repeat (first | exact Drawn0.refl _ | apply Drawn0.step)⟩
        case round =>
         clear H'
         try clear c1
         try clear p1
         try clear q1
         try clear hx1
         try clear qi1
         try clear p2
         try clear c4
         try clear c4b0
         try clear c4b1
         try clear c5
         try clear c5b0
         try clear c5b1
         try clear c6
         try clear p6
         try clear q6
         try clear hx6
         try clear qi6
         try clear c8
         try clear c8b0
         try clear c8b1
         try clear c9
         try clear c9b0
         try clear c9b1
         try clear c11
         try clear c11b0
         try clear c11b1
         try clear c12
         try clear c12b0
         try clear c12b1
         try clear c13
         try clear c13b0
         try clear c13b1
         try clear p14
         try clear q14
         try clear hx14
         try clear qi14
         try clear c15
         try clear c15b0
         try clear c15b1
         try clear c16
         try clear c16b0
         try clear c16b1
         try clear c17
         try clear p1
         try clear p14
         try clear p2
         try clear p6
         try clear q1
         try clear q14
         try clear q6
         obtain ⟨x10_3, rfl, HA, HK3, ⟨m3, rfl⟩⟩ := hrel
         cases gk with
         | zero => exact absurd HA.out (by simp [vI.l0])
         | succ k3 =>
          have H := HA.out;clear HA;simp only [vI.l0] at H
          by_cases c18 : x10_3 < (x9_6.size : Int)
          ·rw [if_pos c18] at H;have c18b0 : decide (x10_3 < (x9_6.size : Int)) = true := dY c18;clear c18
           by_cases c19 : 0 ≤ x10_3
           ·rw [if_pos c19] at H;have c19b0 : decide (0 ≤ x10_3) = true := dY c19;clear c19
            by_cases c21 : (bt x9_6 x10_3) < 48
            ·rw [if_pos c21] at H;have c21b0 : decide ((bt x9_6 x10_3) < 48) = true := dY c21;clear c21;simp only [Option.some.injEq, Prod.mk.injEq] at H;obtain ⟨rfl, rfl⟩ := H;have p20 : 0 ≤ (x10_3 : Int) := dT hy;have q20 : x10_3 < (x9_6.size : Int) := dT hy;have hx20 := bt_at x9_6 x10_3;replace p20 := eq_true p20;replace q20 := eq_true q20
             go_wp2
             go_ret2
             exact ⟨by first | rfl | (simp; done) | (simp [*]; done) | (simp; unfold wrap64; omega), by repeat (first | exact Drawn0.refl _ | apply Drawn0.step)⟩
            ·rw [if_neg c21] at H;have c21b0 : decide ((bt x9_6 x10_3) < 48) = false := dN c21;clear c21
             by_cases c23 : (bt x9_6 x10_3) > 57
             ·rw [if_pos c23] at H;have c23b0 : decide (57 < (bt x9_6 x10_3)) = true := dY c23;clear c23;simp only [Option.some.injEq, Prod.mk.injEq] at H;obtain ⟨rfl, rfl⟩ := H;have p20 : 0 ≤ (x10_3 : Int) := dT hy;have q20 : x10_3 < (x9_6.size : Int) := dT hy;have hx20 := bt_at x9_6 x10_3;replace p20 := eq_true p20;replace q20 := eq_true q20;have p22 : 0 ≤ (x10_3 : Int) := dT hy;have q22 : x10_3 < (x9_6.size : Int) := dT hy;have hx22 := bt_at x9_6 x10_3;replace p22 := eq_true p22;replace q22 := eq_true q22
              go_wp2
              go_ret2
              exact ⟨by first | rfl | (simp; done) | (simp [*]; done) | (simp; unfold wrap64; omega), by repeat (first | exact Drawn0.refl _ | apply Drawn0.step)⟩
             ·rw [if_neg c23] at H;have c23b0 : decide (57 < (bt x9_6 x10_3)) = false := dN c23;clear c23;have H' := As H;clear H;have p20 : 0 ≤ (x10_3 : Int) := dT hy;have q20 : x10_3 < (x9_6.size : Int) := dT hy;have hx20 := bt_at x9_6 x10_3;replace p20 := eq_true p20;replace q20 := eq_true q20;have p22 : 0 ≤ (x10_3 : Int) := dT hy;have q22 : x10_3 < (x9_6.size : Int) := dT hy;have hx22 := bt_at x9_6 x10_3;replace p22 := eq_true p22;replace q22 := eq_true q22
              go_wp2
              go_roundg k3
              case measure => have := HJ6.out; have := HJ9.out; have := HK3.out; omega
              case rel => exact ⟨(wrap64 (x10_3 + 1)), sw, H', ⟨by have := HJ6.out; have := HJ9.out; have := HK3.out; omega⟩, by repeat (first | exact Drawn0.refl _ | apply Drawn0.step)⟩
           ·rw [if_neg c19] at H;exact absurd H (by simp)
          ·rw [if_neg c18] at H;have c18b0 : decide (x10_3 < (x9_6.size : Int)) = false := dN c18;clear c18;have H' := As H;clear H
           go_wp2
           go_loopg [11, 12] k3 (fun kq v11 v12 w' => ∃ (x11_4 : Int) (x12_4 : Int), v11 = .int .u64 x11_4 ∧ v12 = .int .i64 x12_4 ∧ Aside0 (vI.l1 kq a1 a2 mb x9_6 x11_4 x12_4 = some (r1, r2)) ∧ Aside0 (kq ≤ k3) ∧ Drawn0 w w')
           case atStart => exact ⟨(0), (0), sw, sw, H', ⟨Nat.le_refl _⟩, by repeat (first | exact Drawn0.refl _ | apply Drawn0.step)⟩
           case round =>
            clear H'
            try clear c1
            try clear p1
            try clear q1
            try clear hx1
            try clear qi1
            try clear c2
            try clear p2
            try clear q2
            try clear hx2
            try clear c4
            try clear c4b0
            try clear c4b1
            try clear c5
            try clear c5b0
            try clear c5b1
            try clear c6
            try clear p6
            try clear q6
            try clear hx6
            try clear qi6
            try clear c8
            try clear c8b0
            try clear c8b1
            try clear c9
            try clear c9b0
            try clear c9b1
            try clear c11
            try clear c11b0
            try clear c11b1
            try clear c12
            try clear c12b0
            try clear c12b1
            try clear c13
            try clear c13b0
            try clear c13b1
            try clear p14
            try clear q14
            try clear hx14
            try clear qi14
            try clear c15
            try clear c15b0
            try clear c15b1
            try clear c16
            try clear c16b0
            try clear c16b1
            try clear c17
            try clear c18
            try clear c18b0
            try clear c19
            try clear c19b0
            try clear p20
            try clear q20
            try clear hx20
            try clear c21
            try clear c21b0
            try clear p22
            try clear q22
            try clear hx22
            try clear c23
            try clear c23b0
            try clear p1
            try clear p14
            try clear p2
            try clear p20
            try clear p22
            try clear p6
            try clear q1
            try clear q14
            try clear q20
            try clear q22
            try clear q6
            obtain ⟨x11_4, x12_4, rfl, rfl, HA, HK4, ⟨m4, rfl⟩⟩ := hrel
            cases gk with
            | zero => exact absurd HA.out (by simp [vI.l1])
            | succ k4 =>
             have H := HA.out;clear HA;simp only [vI.l1] at H
             by_cases c24 : x12_4 < (x9_6.size : Int)
             focus
              rw [if_pos c24] at H;have c24b0 : decide (x12_4 < (x9_6.size : Int)) = true := dY c24;clear c24
              by_cases c25 : 0 ≤ x12_4
              rotate_left
              ·rw [if_neg c25] at H;exact absurd H (by simp)
              rw [if_pos c25] at H;have c25b0 : decide (0 ≤ x12_4) = true := dY c25;clear c25;have H' := As H;clear H;have p26 : 0 ≤ (x12_4 : Int) := dT hy;have q26 : x12_4 < (x9_6.size : Int) := dT hy;have hx26 := bt_at x9_6 x12_4;replace p26 := eq_true p26;replace q26 := eq_true q26
             rotate_left
             focus
              rw [if_neg c24] at H;have c24b0 : decide (x12_4 < (x9_6.size : Int)) = false := dN c24;clear c24
              by_cases c27 : x11_4 > 9223372036854775807
              rw [if_pos c27] at H;have c27b0 : decide (9223372036854775807 < x11_4) = true := dY c27;clear c27;simp only [Option.some.injEq, Prod.mk.injEq] at H;obtain ⟨rfl, rfl⟩ := H
              have m10_ := trivial
              rotate_left
              focus
               rw [if_neg c27] at H;have c27b0 : decide (9223372036854775807 < x11_4) = false := dN c27;clear c27
               by_cases c28 : mb = true
               focus
                rw [if_pos c28] at H;have c28b0 : mb = true := c28;subst c28b0
                (try (have c28b1 : decide ((bt a0 0) = 45) = true := by simpa using c28))
                (try (have c28b2 : mb = true := by simpa using c28))
                clear c28
                by_cases c29 : (wrap64 (-(wrap64 (x11_4)))) < a1
                rw [if_pos c29] at H;have c29b0 : decide ((wrap64 (-(wrap64 (x11_4)))) < a1) = true := dY c29;clear c29;simp only [Option.some.injEq, Prod.mk.injEq] at H;obtain ⟨rfl, rfl⟩ := H
                have m9_ := trivial
                rotate_left
                focus
                 rw [if_neg c29] at H;have c29b0 : decide ((wrap64 (-(wrap64 (x11_4)))) < a1) = false := dN c29;clear c29
                 by_cases c30 : (wrap64 (-(wrap64 (x11_4)))) > a2
                 rw [if_pos c30] at H;have c30b0 : decide (a2 < (wrap64 (-(wrap64 (x11_4))))) = true := dY c30;clear c30;simp only [Option.some.injEq, Prod.mk.injEq] at H;obtain ⟨rfl, rfl⟩ := H
                 have m8_ := trivial
                 rotate_left
                 rw [if_neg c30] at H;have c30b0 : decide (a2 < (wrap64 (-(wrap64 (x11_4))))) = false := dN c30;clear c30;simp only [Option.some.injEq, Prod.mk.injEq] at H;obtain ⟨rfl, rfl⟩ := H
                 have m7_ := trivial
               rotate_left 3
               focus
                rw [if_neg c28] at H
                have c28b0 : mb = false := by simpa using c28
                subst c28b0
                (try (have c28b1 : decide ((bt a0 0) = 45) = false := by simpa using c28))
                (try (have c28b2 : mb = false := by simpa using c28))
                (try (have c28b3 : ¬ ((bt a0 0) = 45) := by simpa using c28))
                clear c28
                by_cases c31 : (wrap64 (x11_4)) < a1
                rw [if_pos c31] at H;have c31b0 : decide ((wrap64 (x11_4)) < a1) = true := dY c31;clear c31;simp only [Option.some.injEq, Prod.mk.injEq] at H;obtain ⟨rfl, rfl⟩ := H
                have m6_ := trivial
                rotate_left
                focus
                 rw [if_neg c31] at H;have c31b0 : decide ((wrap64 (x11_4)) < a1) = false := dN c31;clear c31
                 by_cases c32 : (wrap64 (x11_4)) > a2
                 rw [if_pos c32] at H;have c32b0 : decide (a2 < (wrap64 (x11_4))) = true := dY c32;clear c32;simp only [Option.some.injEq, Prod.mk.injEq] at H;obtain ⟨rfl, rfl⟩ := H
                 have m5_ := trivial
                 rotate_left
                 rw [if_neg c32] at H;have c32b0 : decide (a2 < (wrap64 (x11_4))) = false := dN c32;clear c32;simp only [Option.some.injEq, Prod.mk.injEq] at H;obtain ⟨rfl, rfl⟩ := H
                 have m4_ := trivial
             all_goals go_wp2
             all_goals try
              first | (clear m4_; have m4_ := trivial) | (clear m5_; have m5_ := trivial) | (clear m6_; have m6_ := trivial) | (clear m7_; have m7_ := trivial) | (clear m8_; have m8_ := trivial) | (clear m9_; have m9_ := trivial) | (clear m10_; have m10_ := trivial)
              go_ret2
              exact ⟨by first | rfl | (simp; done) | (simp [*]; done) | (simp; unfold wrap64; omega), by repeat (first | exact Drawn0.refl _ | apply Drawn0.step)⟩
             ·go_roundg k4
              case measure => have := HJ6.out; have := HJ9.out; have := HK3.out; have := HK4.out; omega
              case rel => exact ⟨(IntKind.u64.wrap ((IntKind.u64.wrap (10 * x11_4)) + (((bt x9_6 x12_4) - 48) % 256))), (wrap64 (x12_4 + 1)), sw, sw, H', ⟨by have := HJ6.out; have := HJ9.out; have := HK3.out; have := HK4.out; omega⟩, by repeat (first | exact Drawn0.refl _ | apply Drawn0.step)⟩
  ·rw [if_neg c5] at H;exact absurd H (by simp)

/-! ### vAt: function 53 -/
def vAt.l0 : Nat → ByteArray → Int → Int → Option (Int)
 | 0, _, _, _ => none
 | k + 1, x0, x1, x5 => if x5 < (x0.size : Int) then (if 0 ≤ x5 then (if (bt x0 x5) = x1 then (some x5) else (vAt.l0 k x0 x1 (wrap64 (x5 + 1)))) else (none)) else (some (-1))
def vAt.f (k : Nat) (a0 : ByteArray) (a1 : Int) : Option (Int) := vAt.l0 k a0 a1 0
theorem vAt.mono_l : ∀ k, (∀ y0 y1 y2, LeO (vAt.l0 k y0 y1 y2) (vAt.l0 (k + 1) y0 y1 y2))
 | 0 => fun _ _ _ r h => by simp [vAt.l0] at h
 | k + 1 => by
  have ih0 := vAt.mono_l k
  ·intro y0 y1 y2;unfold vAt.l0
   repeat' (with_reducible first|apply ih0|apply LeO.refl|apply LeO.none|refine LeO.ite ?_ ?_|refine LeO.bind ?_ (fun _=>?_))
theorem vAt.mono : ∀ a0 a1 k, LeO (vAt.f k a0 a1) (vAt.f (k + 1) a0 a1) := by
 intro a0 a1 k;have ih0 := vAt.mono_l k;unfold vAt.f
 repeat' (with_reducible first|apply ih0|apply LeO.refl|apply LeO.none|refine LeO.ite ?_ ?_|refine LeO.bind ?_ (fun _=>?_))
set_option maxHeartbeats 8000000 in
set_option maxRecDepth 100000 in
theorem vAt.calls (k : Nat) (a0 : ByteArray) (a1 : Int) (r : Int) (w : World) (h : vAt.f k a0 a1 = some r) :
  Calls Tryz.prog 53 #[.string a0, .int .u8 a1] w fun e w' => e = .returned (.int .i64 r) ∧ Drawn0 w w' := by
 have H : (vAt.l0 k a0 a1 0) = some r := h;clear h;have H' := As H;clear H
 go_enter Tryz.func53, Tryz.ntmps53
 go_wp2
 go_loopg [5] k (fun kq v5 w' => ∃ (x5_1 : Int), v5 = .int .i64 x5_1 ∧ Aside0 (vAt.l0 kq a0 a1 x5_1 = some r) ∧ Aside0 (kq ≤ k) ∧ Drawn0 w w')
 case atStart => exact ⟨(0), sw, H', ⟨Nat.le_refl _⟩, by repeat (first | exact Drawn0.refl _ | apply Drawn0.step)⟩
 case round =>
  clear H'
  try clear p2
  obtain ⟨x5_1, rfl, HA, HK1, ⟨m1, rfl⟩⟩ := hrel
  cases gk with
  | zero => exact absurd HA.out (by simp [vAt.l0])
  | succ k1 =>
   have H := HA.out;clear HA;simp only [vAt.l0] at H
   by_cases c3 : x5_1 < (a0.size : Int)
   ·rw [if_pos c3] at H;have c3b0 : decide (x5_1 < (a0.size : Int)) = true := dY c3;clear c3
    by_cases c4 : 0 ≤ x5_1
    ·rw [if_pos c4] at H;have c4b0 : decide (0 ≤ x5_1) = true := dY c4;clear c4
     by_cases c6 : (bt a0 x5_1) = a1
     ·rw [if_pos c6] at H;have c6b0 : ((bt a0 x5_1) == a1) = true := beq_iff_eq.mpr c6;have c6b1 : ((bt a0 x5_1) != a1) = false := bne_eq_false_iff_eq.mpr c6;clear c6;obtain rfl := Option.some.inj H;have p5 : 0 ≤ (x5_1 : Int) := dT hy;have q5 : x5_1 < (a0.size : Int) := dT hy;have hx5 := bt_at a0 x5_1;replace p5 := eq_true p5;replace q5 := eq_true q5
      go_wp2
      go_ret
      exact ⟨by first | rfl | (simp; done) | (simp [*]; done) | (simp; unfold wrap64; omega), by repeat (first | exact Drawn0.refl _ | apply Drawn0.step)⟩
     ·rw [if_neg c6] at H;have c6b0 : ((bt a0 x5_1) == a1) = false := beq_eq_false_iff_ne.mpr c6;have c6b1 : ((bt a0 x5_1) != a1) = true := bne_iff_ne.mpr c6;have H' := As H;clear H;have p5 : 0 ≤ (x5_1 : Int) := dT hy;have q5 : x5_1 < (a0.size : Int) := dT hy;have hx5 := bt_at a0 x5_1;replace p5 := eq_true p5;replace q5 := eq_true q5
      go_wp2
      go_roundg k1
      case measure => have := HK1.out; omega
      case rel => exact ⟨(wrap64 (x5_1 + 1)), sw, H', ⟨by have := HK1.out; omega⟩, by repeat (first | exact Drawn0.refl _ | apply Drawn0.step)⟩
    ·rw [if_neg c4] at H;exact absurd H (by simp)
   ·rw [if_neg c3] at H;have c3b0 : decide (x5_1 < (a0.size : Int)) = false := dN c3;clear c3;obtain rfl := Option.some.inj H
    go_wp2
    go_ret
    exact ⟨by first | rfl | (simp; done) | (simp [*]; done) | (simp; unfold wrap64; omega), by repeat (first | exact Drawn0.refl _ | apply Drawn0.step)⟩

end Go.Proofs.YtdakfmldbddokaaGreatDoor.P
-- SHRUNK
-- PACKED
-- PACKED2

-- written by myprint.py (this claim's own program, after the kit's print)
namespace Go.Proofs.YtdakfmldbddokaaGreatDoor.P
open Go.RowKit Go.Proofs.YtdakfmldbddokaaGreatDoorW.PrintWords Go.Proofs.YtdakfmldbddokaaGreatDoorW.PrintLast Go.Proofs.YtdakfmldbddokaaGreatDoorW.PrintMore
attribute [local go_sem] max2_int min2_int max_two min_two max_three min_three max_four min_four   -- for this text's walks alone
set_option linter.unusedVariables false
set_option linter.unusedSimpArgs false

/-! ### vM: function 52 -/
def vM.l0 : Nat → ByteArray → Int → Option (Bool)
 | 0, _, _ => none
 | k + 1, x0, x3 => if x3 < (x0.size : Int) then (if 0 ≤ x3 then (if (bt x0 x3) < 97 then (some false) else (if (bt x0 x3) > 122 then (some false) else ((vAt.f k x0 (bt x0 x3)).bind fun t435 => (if t435 = x3 then (vM.l0 k x0 (wrap64 (x3 + 1))) else (some false))))) else (none)) else (some (decide ((x0.size : Int) ≤ 16)))
def vM.f (k : Nat) (a0 : ByteArray) : Option (Bool) := vM.l0 k a0 0
theorem vM.mono_l : ∀ k, (∀ y0 y1, LeO (vM.l0 k y0 y1) (vM.l0 (k + 1) y0 y1))
 | 0 => fun _ _ r h => by simp [vM.l0] at h
 | k + 1 => by
  have ih0 := vM.mono_l k
  ·intro y0 y1;unfold vM.l0
   repeat' (with_reducible first|apply ih0|apply vAt.mono|apply LeO.refl|apply LeO.none|refine LeO.ite ?_ ?_|refine LeO.bind ?_ (fun _=>?_))
theorem vM.mono : ∀ a0 k, LeO (vM.f k a0) (vM.f (k + 1) a0) := by
 intro a0 k;have ih0 := vM.mono_l k;unfold vM.f
 repeat' (with_reducible first|apply ih0|apply vAt.mono|apply LeO.refl|apply LeO.none|refine LeO.ite ?_ ?_|refine LeO.bind ?_ (fun _=>?_))
set_option maxHeartbeats 8000000 in
set_option maxRecDepth 100000 in
theorem vM.calls (k : Nat) (a0 : ByteArray) (r : Bool) (w : World) (h : vM.f k a0 = some r) :
  Calls Tryz.prog 52 #[.string a0] w fun e w' => e = .returned (.bool r) ∧ Drawn0 w w' := by
 have H : (vM.l0 k a0 0) = some r := h;clear h;have H' := As H;clear H
 go_enter Tryz.func52, Tryz.ntmps52
 go_wp2
 go_loopg [3] k (fun kq v3 w' => ∃ (x3_1 : Int), v3 = .int .i64 x3_1 ∧ Aside0 (vM.l0 kq a0 x3_1 = some r) ∧ Aside0 (kq ≤ k) ∧ Drawn0 w w')
 case atStart => exact ⟨(0), sw, H', ⟨Nat.le_refl _⟩, by repeat (first | exact Drawn0.refl _ | apply Drawn0.step)⟩
 case round =>
  clear H';obtain ⟨x3_1, rfl, HA, HK1, ⟨m1, rfl⟩⟩ := hrel
  cases gk with
  | zero => exact absurd HA.out (by simp [vM.l0])
  | succ k1 =>
   have H := HA.out;clear HA;simp only [vM.l0] at H
   by_cases c2 : x3_1 < (a0.size : Int)
   focus
    rw [if_pos c2] at H;have c2b0 : decide (x3_1 < (a0.size : Int)) = true := dY c2;clear c2
    by_cases c3 : 0 ≤ x3_1
    rotate_left
    ·rw [if_neg c3] at H;exact absurd H (by simp)
    rw [if_pos c3] at H;have c3b0 : decide (0 ≤ x3_1) = true := dY c3;clear c3
    by_cases c5 : (bt a0 x3_1) < 97
    rw [if_pos c5] at H;have c5b0 : decide ((bt a0 x3_1) < 97) = true := dY c5;clear c5;obtain rfl := Option.some.inj H;have p4 : 0 ≤ (x3_1 : Int) := dT hy;have q4 : x3_1 < (a0.size : Int) := dT hy;have hx4 := bt_at a0 x3_1;replace p4 := eq_true p4;replace q4 := eq_true q4
    have m5_ := trivial
    rotate_left
    focus
     rw [if_neg c5] at H;have c5b0 : decide ((bt a0 x3_1) < 97) = false := dN c5;clear c5
     by_cases c7 : (bt a0 x3_1) > 122
     rw [if_pos c7] at H;have c7b0 : decide (122 < (bt a0 x3_1)) = true := dY c7;clear c7;obtain rfl := Option.some.inj H;have p4 : 0 ≤ (x3_1 : Int) := dT hy;have q4 : x3_1 < (a0.size : Int) := dT hy;have hx4 := bt_at a0 x3_1;replace p4 := eq_true p4;replace q4 := eq_true q4;have p6 : 0 ≤ (x3_1 : Int) := dT hy;have q6 : x3_1 < (a0.size : Int) := dT hy;have hx6 := bt_at a0 x3_1;replace p6 := eq_true p6;replace q6 := eq_true q6
     have m4_ := trivial
     rotate_left
     focus
      rw [if_neg c7] at H;have c7b0 : decide (122 < (bt a0 x3_1)) = false := dN c7;clear c7;replace H := bE H;obtain ⟨t435, A90, H⟩ := H;replace H : (if t435 = x3_1 then (vM.l0 k1 a0 (wrap64 (x3_1 + 1))) else (some false)) = some r := H;have A9 := As A90;clear A90
      by_cases c10 : t435 = x3_1
      rw [if_pos c10] at H;have c10b0 : (t435 == x3_1) = true := beq_iff_eq.mpr c10;have c10b1 : (t435 != x3_1) = false := bne_eq_false_iff_eq.mpr c10;clear c10;have H' := As H;clear H;have p4 : 0 ≤ (x3_1 : Int) := dT hy;have q4 : x3_1 < (a0.size : Int) := dT hy;have hx4 := bt_at a0 x3_1;replace p4 := eq_true p4;replace q4 := eq_true q4;have p6 : 0 ≤ (x3_1 : Int) := dT hy;have q6 : x3_1 < (a0.size : Int) := dT hy;have hx6 := bt_at a0 x3_1;replace p6 := eq_true p6;replace q6 := eq_true q6;have p8 : 0 ≤ (x3_1 : Int) := dT hy;have q8 : x3_1 < (a0.size : Int) := dT hy;have hx8 := bt_at a0 x3_1;replace p8 := eq_true p8;replace q8 := eq_true q8
      have m2_ := trivial
      rotate_left
      rw [if_neg c10] at H;have c10b0 : (t435 == x3_1) = false := beq_eq_false_iff_ne.mpr c10;have c10b1 : (t435 != x3_1) = true := bne_iff_ne.mpr c10;obtain rfl := Option.some.inj H;have p4 : 0 ≤ (x3_1 : Int) := dT hy;have q4 : x3_1 < (a0.size : Int) := dT hy;have hx4 := bt_at a0 x3_1;replace p4 := eq_true p4;replace q4 := eq_true q4;have p6 : 0 ≤ (x3_1 : Int) := dT hy;have q6 : x3_1 < (a0.size : Int) := dT hy;have hx6 := bt_at a0 x3_1;replace p6 := eq_true p6;replace q6 := eq_true q6;have p8 : 0 ≤ (x3_1 : Int) := dT hy;have q8 : x3_1 < (a0.size : Int) := dT hy;have hx8 := bt_at a0 x3_1;replace p8 := eq_true p8;replace q8 := eq_true q8
      have m1_ := trivial
   rotate_left 4
   rw [if_neg c2] at H;have c2b0 : decide (x3_1 < (a0.size : Int)) = false := dN c2;clear c2;obtain rfl := Option.some.inj H
   have m3_ := trivial
   all_goals try
    first | (clear m1_; have m1_ := trivial) | (clear m2_; have m2_ := trivial)
    go_wp2_with (first | (go_at_call 53; (with_reducible refine (vAt.calls k1 a0 (bt a0 x3_1) _ _ A9.out).mono ?_); rintro e w' ⟨rfl, ⟨nd, rfl⟩⟩))
   all_goals try
    first | (clear m3_; have m3_ := trivial) | (clear m4_; have m4_ := trivial) | (clear m5_; have m5_ := trivial)
    go_wp2
    go_ret
    exact ⟨by first | rfl | (simp; done) | (simp [*]; done) | (simp; unfold wrap64; omega), by repeat (first | exact Drawn0.refl _ | apply Drawn0.step)⟩
   ·go_ret
    exact ⟨by first | rfl | (simp; done) | (simp [*]; done) | (simp; unfold wrap64; omega), by repeat (first | exact Drawn0.refl _ | apply Drawn0.step)⟩
   ·go_roundg k1
    case measure => have := HK1.out; omega
    case rel => exact ⟨(wrap64 (x3_1 + 1)), sw, H', ⟨by have := HK1.out; omega⟩, by repeat (first | exact Drawn0.refl _ | apply Drawn0.step)⟩

/-! ### vTr: function 94 -/
mutual
def vTr.j1 : Nat → ByteArray → Option (ByteArray)
 | 0, _ => none
 | k + 1, x0 => vTr.l1 k x0
def vTr.l1 : Nat → ByteArray → Option (ByteArray)
 | 0, _ => none
 | k + 1, x0 => if (x0.size : Int) > 0 then (if 0 ≤ (wrap64 ((x0.size : Int) - 1)) then (if (wrap64 ((x0.size : Int) - 1)) < (x0.size : Int) then (if (bt x0 (wrap64 ((x0.size : Int) - 1))) = 32 then (if (wrap64 ((x0.size : Int) - 1)) ≤ (x0.size : Int) then (vTr.l1 k (x0.extract 0 ((wrap64 ((x0.size : Int) - 1)) : Int).toNat)) else (none)) else (if (bt x0 (wrap64 ((x0.size : Int) - 1))) = 9 then (if (wrap64 ((x0.size : Int) - 1)) ≤ (x0.size : Int) then (vTr.l1 k (x0.extract 0 ((wrap64 ((x0.size : Int) - 1)) : Int).toNat)) else (none)) else (some x0))) else (none)) else (none)) else (some x0)
def vTr.l0 : Nat → ByteArray → Option (ByteArray)
 | 0, _ => none
 | k + 1, x0 => if (x0.size : Int) > 0 then (if 0 < (x0.size : Int) then (if (bt x0 0) = 32 then (if 1 ≤ (x0.size : Int) then (vTr.l0 k (x0.extract 1 x0.size)) else (none)) else (if (bt x0 0) = 9 then (if 1 ≤ (x0.size : Int) then (vTr.l0 k (x0.extract 1 x0.size)) else (none)) else (vTr.j1 k x0))) else (none)) else (vTr.j1 k x0)
end
def vTr.f (k : Nat) (a0 : ByteArray) : Option (ByteArray) := vTr.l0 k a0
theorem vTr.mono_l : ∀ k, (∀ y0, LeO (vTr.j1 k y0) (vTr.j1 (k + 1) y0)) ∧ (∀ y0, LeO (vTr.l1 k y0) (vTr.l1 (k + 1) y0)) ∧ (∀ y0, LeO (vTr.l0 k y0) (vTr.l0 (k + 1) y0))
 | 0 => ⟨fun _ r h => by simp [vTr.j1] at h, fun _ r h => by simp [vTr.l1] at h, fun _ r h => by simp [vTr.l0] at h⟩
 | k + 1 => by
  obtain ⟨ih0, ih1, ih2⟩ := vTr.mono_l k;refine ⟨?_, ?_, ?_⟩
  ·intro y0;unfold vTr.j1
   repeat' (with_reducible first|apply ih0|apply ih1|apply ih2|apply LeO.refl|apply LeO.none|refine LeO.ite ?_ ?_|refine LeO.bind ?_ (fun _=>?_))
  ·intro y0;unfold vTr.l1
   repeat' (with_reducible first|apply ih0|apply ih1|apply ih2|apply LeO.refl|apply LeO.none|refine LeO.ite ?_ ?_|refine LeO.bind ?_ (fun _=>?_))
  ·intro y0;unfold vTr.l0
   repeat' (with_reducible first|apply ih0|apply ih1|apply ih2|apply LeO.refl|apply LeO.none|refine LeO.ite ?_ ?_|refine LeO.bind ?_ (fun _=>?_))
theorem vTr.mono : ∀ a0 k, LeO (vTr.f k a0) (vTr.f (k + 1) a0) := by
 intro a0 k;obtain ⟨ih0, ih1, ih2⟩ := vTr.mono_l k;unfold vTr.f
 repeat' (with_reducible first|apply ih0|apply ih1|apply ih2|apply LeO.refl|apply LeO.none|refine LeO.ite ?_ ?_|refine LeO.bind ?_ (fun _=>?_))
set_option maxHeartbeats 8000000 in
set_option maxRecDepth 100000 in
theorem vTr.calls (k : Nat) (a0 : ByteArray) (r : ByteArray) (w : World) (h : vTr.f k a0 = some r) :
  Calls Tryz.prog 94 #[.string a0] w fun e w' => e = .returned (.string r) ∧ Drawn0 w w' := by
 have H : (vTr.l0 k a0) = some r := h;clear h;have HC2 := As H;clear H
 go_enter Tryz.func94, Tryz.ntmps94
 go_upto_block 0 with (fail)
 go_cut [0] (fun v0 wc => ∃ (kq : Nat) (x0_1 : ByteArray), v0 = .string x0_1 ∧ Aside0 (vTr.j1 kq x0_1 = some r) ∧ Aside0 (kq ≤ k) ∧ Drawn0 w wc)
 case first =>
  have H := HC2.out;clear HC2;have H' := As H;clear H
  go_wp2
  go_loopg [0] k (fun kq v0 w' => ∃ (x0_1 : ByteArray), v0 = .string x0_1 ∧ Aside0 (vTr.l0 kq x0_1 = some r) ∧ Aside0 (kq ≤ k) ∧ Drawn0 w w')
  case atStart => exact ⟨(a0), sw, H', ⟨Nat.le_refl _⟩, by repeat (first | exact Drawn0.refl _ | apply Drawn0.step)⟩
  case round =>
   clear H'
   try clear p2
   obtain ⟨x0_1, rfl, HA, HK1, ⟨m1, rfl⟩⟩ := hrel
   cases gk with
   | zero => exact absurd HA.out (by simp [vTr.l0])
   | succ k1 =>
    have H := HA.out;clear HA;simp only [vTr.l0] at H
    by_cases c3 : (x0_1.size : Int) > 0
    focus
     rw [if_pos c3] at H;have c3b0 : decide (0 < (x0_1.size : Int)) = true := dY c3;have c3b1 : decide (0 < x0_1.size) = true := dY (by omega);clear c3
     (first | rw [c3b0] | (simp only [i64_w, i32_w]; rw [c3b0]) | skip)
     by_cases c4 : 0 < (x0_1.size : Int)
     rotate_left
     ·rw [if_neg c4] at H;exact absurd H (by simp)
     rw [if_pos c4] at H;have c4b0 : decide (0 < (x0_1.size : Int)) = true := dY c4;have c4b1 : decide (0 < x0_1.size) = true := dY (by omega);clear c4
     by_cases c6 : (bt x0_1 0) = 32
     focus
      rw [if_pos c6] at H;have c6b0 : ((bt x0_1 0) == 32) = true := beq_iff_eq.mpr c6;have c6b1 : ((bt x0_1 0) != 32) = false := bne_eq_false_iff_eq.mpr c6;clear c6
      by_cases c7 : 1 ≤ (x0_1.size : Int)
      rotate_left
      ·rw [if_neg c7] at H;exact absurd H (by simp)
      rw [if_pos c7] at H;have c7b0 := eq_true c7;have c7b1 : decide (1 ≤ (x0_1.size : Int)) = true := dY c7;clear c7;have H' := As H;clear H
      have p5 : 0 ≤ (0 : Int) := (by omega)
      have q5 : 0 < x0_1.size := (by have : (0 : Int) < (x0_1.size : Int) := dT hy; omega)
      have hx5 : ∀ h : 0 < x0_1.size, ((x0_1[0]'h).toNat : Int) = bt x0_1 0 := bt_at x0_1 0;clear p5;have qi5 : (0 < (x0_1.size : Int)) = True := eq_true (dT hy);replace q5 := eq_true q5
      have m2_ := trivial
     rotate_left
     focus
      rw [if_neg c6] at H;have c6b0 : ((bt x0_1 0) == 32) = false := beq_eq_false_iff_ne.mpr c6;have c6b1 : ((bt x0_1 0) != 32) = true := bne_iff_ne.mpr c6
      by_cases c9 : (bt x0_1 0) = 9
      focus
       rw [if_pos c9] at H;have c9b0 : ((bt x0_1 0) == 9) = true := beq_iff_eq.mpr c9;have c9b1 : ((bt x0_1 0) != 9) = false := bne_eq_false_iff_eq.mpr c9;clear c9
       by_cases c10 : 1 ≤ (x0_1.size : Int)
       rotate_left
       ·rw [if_neg c10] at H;exact absurd H (by simp)
       rw [if_pos c10] at H;have c10b0 := eq_true c10;have c10b1 : decide (1 ≤ (x0_1.size : Int)) = true := dY c10;clear c10;have H' := As H;clear H
       have p5 : 0 ≤ (0 : Int) := (by omega)
       have q5 : 0 < x0_1.size := (by have : (0 : Int) < (x0_1.size : Int) := dT hy; omega)
       have hx5 : ∀ h : 0 < x0_1.size, ((x0_1[0]'h).toNat : Int) = bt x0_1 0 := bt_at x0_1 0;clear p5;have qi5 : (0 < (x0_1.size : Int)) = True := eq_true (dT hy);replace q5 := eq_true q5
       have p8 : 0 ≤ (0 : Int) := (by omega)
       have q8 : 0 < x0_1.size := (by have : (0 : Int) < (x0_1.size : Int) := dT hy; omega)
       have hx8 : ∀ h : 0 < x0_1.size, ((x0_1[0]'h).toNat : Int) = bt x0_1 0 := bt_at x0_1 0;clear p8;have qi8 : (0 < (x0_1.size : Int)) = True := eq_true (dT hy);replace q8 := eq_true q8
       have m1_ := trivial
      rotate_left
      rw [if_neg c9] at H;have c9b0 : ((bt x0_1 0) == 9) = false := beq_eq_false_iff_ne.mpr c9;have c9b1 : ((bt x0_1 0) != 9) = true := bne_iff_ne.mpr c9;have H' := As H;clear H
      have p5 : 0 ≤ (0 : Int) := (by omega)
      have q5 : 0 < x0_1.size := (by have : (0 : Int) < (x0_1.size : Int) := dT hy; omega)
      have hx5 : ∀ h : 0 < x0_1.size, ((x0_1[0]'h).toNat : Int) = bt x0_1 0 := bt_at x0_1 0;clear p5;have qi5 : (0 < (x0_1.size : Int)) = True := eq_true (dT hy);replace q5 := eq_true q5
      have p8 : 0 ≤ (0 : Int) := (by omega)
      have q8 : 0 < x0_1.size := (by have : (0 : Int) < (x0_1.size : Int) := dT hy; omega)
      have hx8 : ∀ h : 0 < x0_1.size, ((x0_1[0]'h).toNat : Int) = bt x0_1 0 := bt_at x0_1 0;clear p8;have qi8 : (0 < (x0_1.size : Int)) = True := eq_true (dT hy);replace q8 := eq_true q8
      have m4_ := trivial
    rotate_left 3
    rw [if_neg c3] at H;have c3b0 : decide (0 < (x0_1.size : Int)) = false := dN c3;have c3b1 : decide (0 < x0_1.size) = false := dN (by omega);clear c3
    (first | rw [c3b0] | (simp only [i64_w, i32_w]; rw [c3b0]) | skip)
    have H' := As H;clear H
    have m3_ := trivial
    all_goals go_wp2
    all_goals try
     first | (clear m1_; have m1_ := trivial) | (clear m2_; have m2_ := trivial)
     go_roundg k1
     case measure => have := HK1.out; omega
     case rel => exact ⟨(x0_1.extract 1 x0_1.size), sw, H', ⟨by have := HK1.out; omega⟩, by repeat (first | exact Drawn0.refl _ | apply Drawn0.step)⟩
    all_goals
     go_meet
     case rel => exact ⟨_, (x0_1), sw, H', ⟨by have := HK1.out; first | omega | exact Nat.le_refl _⟩, by repeat (first | exact Drawn0.refl _ | apply Drawn0.step)⟩
 case rest =>
  clear HC2
  try clear c1
  try clear p2
  try clear c3
  try clear c3b0
  try clear c3b1
  try clear c4
  try clear c4b0
  try clear c4b1
  try clear p5
  try clear q5
  try clear hx5
  try clear qi5
  try clear c6
  try clear c6b0
  try clear c6b1
  try clear p6
  try clear c7
  try clear c7b0
  try clear c7b1
  try clear p8
  try clear q8
  try clear hx8
  try clear qi8
  try clear c9
  try clear c9b0
  try clear c9b1
  try clear c10
  try clear c10b0
  try clear c10b1
  try clear p2
  try clear p5
  try clear p8
  try clear q5
  try clear q8
  obtain ⟨kq, x0_1, rfl, HA, HJ1, ⟨mc1, rfl⟩⟩ := hcut
  cases kq with
  | zero => exact absurd HA.out (by simp [vTr.j1])
  | succ kj1 =>
   have H := HA.out;clear HA;simp only [vTr.j1] at H;have H' := As H;clear H
   go_wp2
   go_loopg [0] kj1 (fun kq v0 w' => ∃ (x0_2 : ByteArray), v0 = .string x0_2 ∧ Aside0 (vTr.l1 kq x0_2 = some r) ∧ Aside0 (kq ≤ kj1) ∧ Drawn0 w w')
   case atStart => exact ⟨(x0_1), sw, H', ⟨Nat.le_refl _⟩, by repeat (first | exact Drawn0.refl _ | apply Drawn0.step)⟩
   case round =>
    clear H'
    try clear c1
    try clear p2
    try clear c3
    try clear c3b0
    try clear c3b1
    try clear c4
    try clear c4b0
    try clear c4b1
    try clear p5
    try clear q5
    try clear hx5
    try clear qi5
    try clear c6
    try clear c6b0
    try clear c6b1
    try clear p6
    try clear c7
    try clear c7b0
    try clear c7b1
    try clear p8
    try clear q8
    try clear hx8
    try clear qi8
    try clear c9
    try clear c9b0
    try clear c9b1
    try clear c10
    try clear c10b0
    try clear c10b1
    try clear p2
    try clear p5
    try clear p6
    try clear p8
    try clear q5
    try clear q8
    obtain ⟨x0_2, rfl, HA, HK2, ⟨m2, rfl⟩⟩ := hrel
    cases gk with
    | zero => exact absurd HA.out (by simp [vTr.l1])
    | succ k2 =>
     have H := HA.out;clear HA;simp only [vTr.l1] at H
     by_cases c11 : (x0_2.size : Int) > 0
     focus
      rw [if_pos c11] at H;have c11b0 : decide (0 < (x0_2.size : Int)) = true := dY c11;have c11b1 : decide (0 < x0_2.size) = true := dY (by omega);clear c11
      obtain ⟨ji12, hji12⟩ : ∃ j_ : Int, (wrap64 ((x0_2.size : Int) - 1)) = j_ := ⟨_, rfl⟩
      replace H : (if 0 ≤ (ji12) then (if (ji12) < (x0_2.size : Int) then (if (bt x0_2 (ji12)) = 32 then (if (ji12) ≤ (x0_2.size : Int) then (vTr.l1 k2 (x0_2.extract 0 ((ji12) : Int).toNat)) else (none)) else (if (bt x0_2 (ji12)) = 9 then (if (ji12) ≤ (x0_2.size : Int) then (vTr.l1 k2 (x0_2.extract 0 ((ji12) : Int).toNat)) else (none)) else (some x0_2))) else (none)) else (none)) = some r := by first | (rw [hji12] at H; exact H) | (simp only [hji12] at H ⊢; exact H)
      have hji12w : (IntKind.i64.wrap ((x0_2.size : Int) - 1)) = ji12 := (i64_w _).trans hji12
      by_cases c13 : 0 ≤ (ji12)
      rotate_left
      ·rw [if_neg c13] at H;exact absurd H (by simp)
      rw [if_pos c13] at H;have c13b0 : decide (0 ≤ (ji12)) = true := dY c13;clear c13
      by_cases c14 : (ji12) < (x0_2.size : Int)
      rotate_left
      ·rw [if_neg c14] at H;exact absurd H (by simp)
      rw [if_pos c14] at H;have c14b0 : decide ((ji12) < (x0_2.size : Int)) = true := dY c14;clear c14
      by_cases c16 : (bt x0_2 (ji12)) = 32
      focus
       rw [if_pos c16] at H;have c16b0 : ((bt x0_2 (ji12)) == 32) = true := beq_iff_eq.mpr c16;have c16b1 : ((bt x0_2 (ji12)) != 32) = false := bne_eq_false_iff_eq.mpr c16;clear c16;have c17b0 := eq_true (dT hy : 0 ≤ (ji12))
       by_cases c18 : (ji12) ≤ (x0_2.size : Int)
       rotate_left
       ·rw [if_neg c18] at H;exact absurd H (by simp)
       rw [if_pos c18] at H;have c18b0 := eq_true c18;have c18b1 : decide ((ji12) ≤ (x0_2.size : Int)) = true := dY c18;clear c18;have H' := As H;clear H;have p15 : 0 ≤ ((ji12) : Int) := dT hy;have q15 : (ji12) < (x0_2.size : Int) := dT hy;have hx15 := bt_at x0_2 (ji12);replace p15 := eq_true p15;replace q15 := eq_true q15
       have m6_ := trivial
      rotate_left
      focus
       rw [if_neg c16] at H;have c16b0 : ((bt x0_2 (ji12)) == 32) = false := beq_eq_false_iff_ne.mpr c16;have c16b1 : ((bt x0_2 (ji12)) != 32) = true := bne_iff_ne.mpr c16
       by_cases c20 : (bt x0_2 (ji12)) = 9
       focus
        rw [if_pos c20] at H;have c20b0 : ((bt x0_2 (ji12)) == 9) = true := beq_iff_eq.mpr c20;have c20b1 : ((bt x0_2 (ji12)) != 9) = false := bne_eq_false_iff_eq.mpr c20;clear c20;have c21b0 := eq_true (dT hy : 0 ≤ (ji12))
        by_cases c22 : (ji12) ≤ (x0_2.size : Int)
        rotate_left
        ·rw [if_neg c22] at H;exact absurd H (by simp)
        rw [if_pos c22] at H;have c22b0 := eq_true c22;have c22b1 : decide ((ji12) ≤ (x0_2.size : Int)) = true := dY c22;clear c22;have H' := As H;clear H;have p15 : 0 ≤ ((ji12) : Int) := dT hy;have q15 : (ji12) < (x0_2.size : Int) := dT hy;have hx15 := bt_at x0_2 (ji12);replace p15 := eq_true p15;replace q15 := eq_true q15;have p19 : 0 ≤ ((ji12) : Int) := dT hy;have q19 : (ji12) < (x0_2.size : Int) := dT hy;have hx19 := bt_at x0_2 (ji12);replace p19 := eq_true p19;replace q19 := eq_true q19
        have m5_ := trivial
       rotate_left
       rw [if_neg c20] at H;have c20b0 : ((bt x0_2 (ji12)) == 9) = false := beq_eq_false_iff_ne.mpr c20;have c20b1 : ((bt x0_2 (ji12)) != 9) = true := bne_iff_ne.mpr c20;obtain rfl := Option.some.inj H;have p15 : 0 ≤ ((ji12) : Int) := dT hy;have q15 : (ji12) < (x0_2.size : Int) := dT hy;have hx15 := bt_at x0_2 (ji12);replace p15 := eq_true p15;replace q15 := eq_true q15;have p19 : 0 ≤ ((ji12) : Int) := dT hy;have q19 : (ji12) < (x0_2.size : Int) := dT hy;have hx19 := bt_at x0_2 (ji12);replace p19 := eq_true p19;replace q19 := eq_true q19
       have m8_ := trivial
     rotate_left 3
     rw [if_neg c11] at H;have c11b0 : decide (0 < (x0_2.size : Int)) = false := dN c11;have c11b1 : decide (0 < x0_2.size) = false := dN (by omega);clear c11;obtain rfl := Option.some.inj H
     have m7_ := trivial
     all_goals go_wp2
     all_goals try
      first | (clear m5_; have m5_ := trivial) | (clear m6_; have m6_ := trivial)
      go_roundg k2
      case measure => have := HJ1.out; have := HK2.out; omega
      case rel => exact ⟨(x0_2.extract 0 ((ji12) : Int).toNat), (by first | rfl | (simp; done) | (simp only [← hji12] <;> (first | rfl | simp)) | (simp [*]; done)), H', ⟨by have := HJ1.out; have := HK2.out; omega⟩, by repeat (first | exact Drawn0.refl _ | apply Drawn0.step)⟩
     all_goals go_ret
     ·exact ⟨by first | rfl | (simp; done) | (simp [*]; done) | (simp; unfold wrap64; omega), by repeat (first | exact Drawn0.refl _ | apply Drawn0.step)⟩
     ·exact ⟨by first | rfl | (simp; done) | (simp only [← hji12] <;> (first | rfl | simp)) | (simp [*]; done), by repeat (first | exact Drawn0.refl _ | apply Drawn0.step)⟩

/-! ### vCk: function 95 -/
mutual
def vCk.l0 : Nat → List ByteArray → Int → Option (Int)
 | 0, _, _ => none
 | k + 1, x0, x3 => if x3 < (x0.length : Int) then (if 0 ≤ x3 then (if (rdOf ByteArray.empty x0 x3).toList = ([] : List UInt8) then (some 3) else (vCk.l0 k x0 (wrap64 (x3 + 1)))) else (none)) else (vCk.l1 k x0 0)
def vCk.l1 : Nat → List ByteArray → Int → Option (Int)
 | 0, _, _ => none
 | k + 1, x0, x4 => if x4 < (x0.length : Int) then (vCk.l2 k x0 x4 0) else (if (x0.length : Int) > 4096 then (some 2) else (some 0))
def vCk.l2 : Nat → List ByteArray → Int → Int → Option (Int)
 | 0, _, _, _ => none
 | k + 1, x0, x4, x5 => if x5 < x4 then (if 0 ≤ x4 then (if x4 < (x0.length : Int) then (if 0 ≤ x5 then (if x5 < (x0.length : Int) then (if (rdOf ByteArray.empty x0 x4).toList = (rdOf ByteArray.empty x0 x5).toList then (some 7) else (vCk.l2 k x0 x4 (wrap64 (x5 + 1)))) else (none)) else (none)) else (none)) else (none)) else (vCk.l1 k x0 (wrap64 (x4 + 1)))
end
def vCk.f (k : Nat) (l0 : List ByteArray) : Option (Int) := vCk.l0 k l0 0
theorem vCk.mono_l : ∀ k, (∀ y0 y1, LeO (vCk.l0 k y0 y1) (vCk.l0 (k + 1) y0 y1)) ∧ (∀ y0 y1, LeO (vCk.l1 k y0 y1) (vCk.l1 (k + 1) y0 y1)) ∧ (∀ y0 y1 y2, LeO (vCk.l2 k y0 y1 y2) (vCk.l2 (k + 1) y0 y1 y2))
 | 0 => ⟨fun _ _ r h => by simp [vCk.l0] at h, fun _ _ r h => by simp [vCk.l1] at h, fun _ _ _ r h => by simp [vCk.l2] at h⟩
 | k + 1 => by
  obtain ⟨ih0, ih1, ih2⟩ := vCk.mono_l k;refine ⟨?_, ?_, ?_⟩
  ·intro y0 y1;unfold vCk.l0
   repeat' (with_reducible first|apply ih0|apply ih1|apply ih2|apply LeO.refl|apply LeO.none|refine LeO.ite ?_ ?_|refine LeO.bind ?_ (fun _=>?_))
  ·intro y0 y1;unfold vCk.l1
   repeat' (with_reducible first|apply ih0|apply ih1|apply ih2|apply LeO.refl|apply LeO.none|refine LeO.ite ?_ ?_|refine LeO.bind ?_ (fun _=>?_))
  ·intro y0 y1 y2;unfold vCk.l2
   repeat' (with_reducible first|apply ih0|apply ih1|apply ih2|apply LeO.refl|apply LeO.none|refine LeO.ite ?_ ?_|refine LeO.bind ?_ (fun _=>?_))
theorem vCk.mono : ∀ a0 k, LeO (vCk.f k a0) (vCk.f (k + 1) a0) := by
 intro a0 k;obtain ⟨ih0, ih1, ih2⟩ := vCk.mono_l k;unfold vCk.f
 repeat' (with_reducible first|apply ih0|apply ih1|apply ih2|apply LeO.refl|apply LeO.none|refine LeO.ite ?_ ?_|refine LeO.bind ?_ (fun _=>?_))
set_option maxHeartbeats 8000000 in
set_option maxRecDepth 100000 in
theorem vCk.calls (k : Nat) (A0 : Option Addr) (c0 : Nat) (l0 : List ByteArray) (r : Int) (w : World) (hr0 : Kd.C Kd.string w A0 l0.length l0) (hc0 : l0.length ≤ c0) (h : vCk.f k l0 = some r) :
  Calls Tryz.prog 95 #[.slice A0 l0.length c0] w fun e w' => e = .returned (.int .i64 r) ∧ Drawn0 w w' := by
 have HR0 := As hr0;have HC0 := As hc0;clear hr0 hc0;have H : (vCk.l0 k l0 0) = some r := h;clear h;have H' := As H;clear H
 go_enter Tryz.func95, Tryz.ntmps95
 go_wp2
 repeat (go_quiet (fail); try go_wp2)
 go_loopg [3] k (fun kq v3 w' => ∃ (x3_1 : Int), v3 = .int .i64 x3_1 ∧ Aside0 (vCk.l0 kq l0 x3_1 = some r) ∧ Aside0 (kq ≤ k) ∧ Drawn0 w w')
 case atStart => exact ⟨(0), sw, H', ⟨Nat.le_refl _⟩, by repeat (first | exact Drawn0.refl _ | apply Drawn0.step)⟩
 case round =>
  clear H';obtain ⟨x3_1, rfl, HA, HK1, ⟨m1, rfl⟩⟩ := hrel
  cases gk with
  | zero => exact absurd HA.out (by simp [vCk.l0])
  | succ k1 =>
   have H := HA.out;clear HA;simp only [vCk.l0] at H
   by_cases c2 : x3_1 < (l0.length : Int)
   ·rw [if_pos c2] at H;have c2b0 : decide (x3_1 < (l0.length : Int)) = true := dY c2;clear c2
    by_cases c3 : 0 ≤ x3_1
    ·rw [if_pos c3] at H;have c3b0 : decide (0 ≤ x3_1) = true := dY c3;clear c3
     by_cases c4 : (rdOf ByteArray.empty l0 x3_1).toList = ([] : List UInt8)
     ·rw [if_pos c4] at H;have c4b0 : ((rdOf ByteArray.empty l0 x3_1).toList == ([] : List UInt8)) = true := beq_iff_eq.mpr c4;have c4b1 : ((rdOf ByteArray.empty l0 x3_1).toList != ([] : List UInt8)) = false := bne_eq_false_iff_eq.mpr c4;clear c4;obtain rfl := Option.some.inj H;have p436 : 0 ≤ (x3_1 : Int) := dT hy;have q436 : x3_1 < (l0.length : Int) := dT hy;obtain ⟨ad436, e436, hx436_0⟩ := Kd.at_string HR0.out x3_1 p436 q436
      cases e436
      replace p436 := eq_true p436;replace q436 := eq_true q436
      go_wp2
      repeat (go_quiet (fail); try go_wp2)
      go_ret
      exact ⟨by first | rfl | (simp; done) | (simp [*]; done) | (simp; unfold wrap64; omega), by repeat (first | exact Drawn0.refl _ | apply Drawn0.step)⟩
     ·rw [if_neg c4] at H;have c4b0 : ((rdOf ByteArray.empty l0 x3_1).toList == ([] : List UInt8)) = false := beq_eq_false_iff_ne.mpr c4;have c4b1 : ((rdOf ByteArray.empty l0 x3_1).toList != ([] : List UInt8)) = true := bne_iff_ne.mpr c4;have H' := As H;clear H;have p436 : 0 ≤ (x3_1 : Int) := dT hy;have q436 : x3_1 < (l0.length : Int) := dT hy;obtain ⟨ad436, e436, hx436_0⟩ := Kd.at_string HR0.out x3_1 p436 q436
      cases e436
      replace p436 := eq_true p436;replace q436 := eq_true q436
      go_wp2
      repeat (go_quiet (fail); try go_wp2)
      go_roundg k1
      case measure => have := HK1.out; omega
      case rel => exact ⟨(wrap64 (x3_1 + 1)), sw, H', ⟨by have := HK1.out; omega⟩, by repeat (first | exact Drawn0.refl _ | apply Drawn0.step)⟩
    ·rw [if_neg c3] at H;exact absurd H (by simp)
   ·rw [if_neg c2] at H;have c2b0 : decide (x3_1 < (l0.length : Int)) = false := dN c2;clear c2;have H' := As H;clear H
    go_wp2
    repeat (go_quiet (fail); try go_wp2)
    go_loopg [4] k1 (fun kq v4 w' => ∃ (x4_2 : Int), v4 = .int .i64 x4_2 ∧ Aside0 (vCk.l1 kq l0 x4_2 = some r) ∧ Aside0 (kq ≤ k1) ∧ Drawn0 w w')
    case atStart => exact ⟨(0), sw, H', ⟨Nat.le_refl _⟩, by repeat (first | exact Drawn0.refl _ | apply Drawn0.step)⟩
    case round =>
     clear H'
     try clear c2
     try clear c2b0
     try clear p2
     try clear c3
     try clear c3b0
     try clear c4
     try clear c4b0
     try clear c4b1
     try clear p4
     try clear q4
     try clear hx4
     try clear hx436_0
     try clear p436
     try clear q436
     obtain ⟨x4_2, rfl, HA, HK2, ⟨m2, rfl⟩⟩ := hrel
     cases gk with
     | zero => exact absurd HA.out (by simp [vCk.l1])
     | succ k2 =>
      have H := HA.out;clear HA;simp only [vCk.l1] at H
      by_cases c5 : x4_2 < (l0.length : Int)
      ·rw [if_pos c5] at H;have c5b0 : decide (x4_2 < (l0.length : Int)) = true := dY c5;clear c5;have H' := As H;clear H
       go_wp2
       repeat (go_quiet (fail); try go_wp2)
       go_loopg [5] k2 (fun kq v5 w' => ∃ (x5_3 : Int), v5 = .int .i64 x5_3 ∧ Aside0 (vCk.l2 kq l0 x4_2 x5_3 = some r) ∧ Aside0 (kq ≤ k2) ∧ Drawn0 w w')
       case atStart => exact ⟨(0), sw, H', ⟨Nat.le_refl _⟩, by repeat (first | exact Drawn0.refl _ | apply Drawn0.step)⟩
       case round =>
        clear H'
        try clear c2
        try clear c2b0
        try clear p2
        try clear c3
        try clear c3b0
        try clear c4
        try clear c4b0
        try clear c4b1
        try clear p4
        try clear q4
        try clear hx4
        try clear c5
        try clear c5b0
        try clear hx436_0
        try clear p2
        try clear p4
        try clear p436
        try clear q4
        try clear q436
        obtain ⟨x5_3, rfl, HA, HK3, ⟨m3, rfl⟩⟩ := hrel
        cases gk with
        | zero => exact absurd HA.out (by simp [vCk.l2])
        | succ k3 =>
         have H := HA.out;clear HA;simp only [vCk.l2] at H
         by_cases c6 : x5_3 < x4_2
         ·rw [if_pos c6] at H;have c6b0 : decide (x5_3 < x4_2) = true := dY c6;clear c6
          by_cases c7 : 0 ≤ x4_2
          ·rw [if_pos c7] at H;have c7b0 : decide (0 ≤ x4_2) = true := dY c7;clear c7
           by_cases c8 : x4_2 < (l0.length : Int)
           ·rw [if_pos c8] at H;have c8b0 : decide (x4_2 < (l0.length : Int)) = true := dY c8;clear c8
            by_cases c9 : 0 ≤ x5_3
            ·rw [if_pos c9] at H;have c9b0 : decide (0 ≤ x5_3) = true := dY c9;clear c9
             by_cases c10 : x5_3 < (l0.length : Int)
             ·rw [if_pos c10] at H;have c10b0 : decide (x5_3 < (l0.length : Int)) = true := dY c10;clear c10
              by_cases c11 : (rdOf ByteArray.empty l0 x4_2).toList = (rdOf ByteArray.empty l0 x5_3).toList
              ·rw [if_pos c11] at H;have c11b0 : ((rdOf ByteArray.empty l0 x4_2).toList == (rdOf ByteArray.empty l0 x5_3).toList) = true := beq_iff_eq.mpr c11;have c11b1 : ((rdOf ByteArray.empty l0 x4_2).toList != (rdOf ByteArray.empty l0 x5_3).toList) = false := bne_eq_false_iff_eq.mpr c11;clear c11;obtain rfl := Option.some.inj H;have p437 : 0 ≤ (x4_2 : Int) := dT hy;have q437 : x4_2 < (l0.length : Int) := dT hy;obtain ⟨ad437, e437, hx437_0⟩ := Kd.at_string HR0.out x4_2 p437 q437
               cases e437
               replace p437 := eq_true p437;replace q437 := eq_true q437;have p438 : 0 ≤ (x5_3 : Int) := dT hy;have q438 : x5_3 < (l0.length : Int) := dT hy;obtain ⟨ad438, e438, hx438_0⟩ := Kd.at_string HR0.out x5_3 p438 q438
               obtain rfl : ad437 = ad438 := (by injection e438)
               replace p438 := eq_true p438;replace q438 := eq_true q438
               go_wp2
               repeat (go_quiet (fail); try go_wp2)
               go_ret
               exact ⟨by first | rfl | (simp; done) | (simp [*]; done) | (simp; unfold wrap64; omega), by repeat (first | exact Drawn0.refl _ | apply Drawn0.step)⟩
              ·rw [if_neg c11] at H;have c11b0 : ((rdOf ByteArray.empty l0 x4_2).toList == (rdOf ByteArray.empty l0 x5_3).toList) = false := beq_eq_false_iff_ne.mpr c11;have c11b1 : ((rdOf ByteArray.empty l0 x4_2).toList != (rdOf ByteArray.empty l0 x5_3).toList) = true := bne_iff_ne.mpr c11;have H' := As H;clear H;have p437 : 0 ≤ (x4_2 : Int) := dT hy;have q437 : x4_2 < (l0.length : Int) := dT hy;obtain ⟨ad437, e437, hx437_0⟩ := Kd.at_string HR0.out x4_2 p437 q437
               cases e437
               replace p437 := eq_true p437;replace q437 := eq_true q437;have p438 : 0 ≤ (x5_3 : Int) := dT hy;have q438 : x5_3 < (l0.length : Int) := dT hy;obtain ⟨ad438, e438, hx438_0⟩ := Kd.at_string HR0.out x5_3 p438 q438
               obtain rfl : ad437 = ad438 := (by injection e438)
               replace p438 := eq_true p438;replace q438 := eq_true q438
               go_wp2
               repeat (go_quiet (fail); try go_wp2)
               go_roundg k3
               case measure => have := HK1.out; have := HK2.out; have := HK3.out; omega
               case rel => exact ⟨(wrap64 (x5_3 + 1)), sw, H', ⟨by have := HK1.out; have := HK2.out; have := HK3.out; omega⟩, by repeat (first | exact Drawn0.refl _ | apply Drawn0.step)⟩
             ·rw [if_neg c10] at H;exact absurd H (by simp)
            ·rw [if_neg c9] at H;exact absurd H (by simp)
           ·rw [if_neg c8] at H;exact absurd H (by simp)
          ·rw [if_neg c7] at H;exact absurd H (by simp)
         ·rw [if_neg c6] at H;have c6b0 : decide (x5_3 < x4_2) = false := dN c6;clear c6;have H' := As H;clear H
          go_wp2
          repeat (go_quiet (fail); try go_wp2)
          go_roundg k3
          case measure => have := HK1.out; have := HK2.out; have := HK3.out; omega
          case rel => exact ⟨(wrap64 (x4_2 + 1)), sw, H', ⟨by have := HK1.out; have := HK2.out; have := HK3.out; omega⟩, by repeat (first | exact Drawn0.refl _ | apply Drawn0.step)⟩
      ·rw [if_neg c5] at H;have c5b0 : decide (x4_2 < (l0.length : Int)) = false := dN c5;clear c5
       by_cases c12 : (l0.length : Int) > 4096
       ·rw [if_pos c12] at H;have c12b0 : decide (4096 < (l0.length : Int)) = true := dY c12;have c12b1 : decide (4096 < l0.length) = true := dY (by omega);clear c12;obtain rfl := Option.some.inj H
        go_wp2
        repeat (go_quiet (fail); try go_wp2)
        go_ret
        exact ⟨by first | rfl | (simp; done) | (simp [*]; done) | (simp; unfold wrap64; omega), by repeat (first | exact Drawn0.refl _ | apply Drawn0.step)⟩
       ·rw [if_neg c12] at H;have c12b0 : decide (4096 < (l0.length : Int)) = false := dN c12;have c12b1 : decide (4096 < l0.length) = false := dN (by omega);clear c12;obtain rfl := Option.some.inj H
        go_wp2
        repeat (go_quiet (fail); try go_wp2)
        go_ret
        exact ⟨by first | rfl | (simp; done) | (simp [*]; done) | (simp; unfold wrap64; omega), by repeat (first | exact Drawn0.refl _ | apply Drawn0.step)⟩

end Go.Proofs.YtdakfmldbddokaaGreatDoor.P
-- SHRUNK
-- PACKED
-- PACKED2

-- written by myprint.py (this claim's own program, after the kit's print)
namespace Go.Proofs.YtdakfmldbddokaaGreatDoor.P
open Go.RowKit Go.Proofs.YtdakfmldbddokaaGreatDoorW.PrintWords Go.Proofs.YtdakfmldbddokaaGreatDoorW.PrintLast Go.Proofs.YtdakfmldbddokaaGreatDoorW.PrintMore
attribute [local go_sem] max2_int min2_int max_two min_two max_three min_three max_four min_four   -- for this text's walks alone
set_option linter.unusedVariables false
set_option linter.unusedSimpArgs false

/-! ### vl: function 67 -/
def vl.l0 : Nat → ByteArray → List ByteArray → Int → Int → Option (List ByteArray × Int)
 | 0, _, _, _, _ => none
 | k + 1, x0, x4, x5, x6 => if x6 ≤ (x0.size : Int) then (if x6 = (x0.size : Int) then (if 0 ≤ x5 then (if x5 ≤ x6 then ((vTr.f k (x0.extract (x5 : Int).toNat (x6 : Int).toNat)).bind fun t440 => (if x4.length < 8796093022208 then (vl.l0 k x0 (x4 ++ [t440]) (wrap64 (x6 + 1)) (wrap64 (x6 + 1))) else (none))) else (none)) else (none)) else (if 0 ≤ x6 then (if x6 < (x0.size : Int) then (if (bt x0 x6) = 44 then (if 0 ≤ x5 then (if x5 ≤ x6 then ((vTr.f k (x0.extract (x5 : Int).toNat (x6 : Int).toNat)).bind fun t444 => (if x4.length < 8796093022208 then (vl.l0 k x0 (x4 ++ [t444]) (wrap64 (x6 + 1)) (wrap64 (x6 + 1))) else (none))) else (none)) else (none)) else (vl.l0 k x0 x4 x5 (wrap64 (x6 + 1)))) else (none)) else (none))) else ((vCk.f k x4).bind fun t448 => (if t448 = 0 then (some (x4, 0)) else (some (([] : List ByteArray), t448))))
def vl.f (k : Nat) (a0 : ByteArray) : Option (List ByteArray × Int) := (vTr.f k a0).bind fun t439 => (if t439.toList = ([] : List UInt8) then (some (([] : List ByteArray), 13)) else (vl.l0 k a0 ([] : List ByteArray) 0 0))
theorem vl.mono_l : ∀ k, (∀ y0 y1 y2 y3, LeO (vl.l0 k y0 y1 y2 y3) (vl.l0 (k + 1) y0 y1 y2 y3))
 | 0 => fun _ _ _ _ r h => by simp [vl.l0] at h
 | k + 1 => by
  have ih0 := vl.mono_l k
  ·intro y0 y1 y2 y3;unfold vl.l0
   repeat' (with_reducible first|apply ih0|apply vCk.mono|apply vTr.mono|apply LeO.refl|apply LeO.none|refine LeO.ite ?_ ?_|refine LeO.bind ?_ (fun _=>?_))
theorem vl.mono : ∀ a0 k, LeO (vl.f k a0) (vl.f (k + 1) a0) := by
 intro a0 k;have ih0 := vl.mono_l k;unfold vl.f
 repeat' (with_reducible first|apply ih0|apply vCk.mono|apply vTr.mono|apply LeO.refl|apply LeO.none|refine LeO.ite ?_ ?_|refine LeO.bind ?_ (fun _=>?_))
set_option maxHeartbeats 8000000 in
set_option maxRecDepth 100000 in
theorem vl.calls (k : Nat) (a0 : ByteArray) (r1 : List ByteArray) (r2 : Int) (w : World) (h : vl.f k a0 = some (r1, r2)) :
  Calls Tryz.prog 67 #[.string a0] w fun e w' => ∃ v0_ : Value, e = .returned (.tuple #[v0_, .int .i64 r2]) ∧ Kd.R Kd.string 9 w' w.heap.size (fun _ => True) v0_ r1 ∧ Below w.heap.size w w' := by
 have HB := As (Below.refl w.heap.size w);have H : ((vTr.f k a0).bind fun t439 => (if t439.toList = ([] : List UInt8) then (some (([] : List ByteArray), 13)) else (vl.l0 k a0 ([] : List ByteArray) 0 0))) = some (r1, r2) := h;clear h;replace H := bE H;obtain ⟨t439, A20, H⟩ := H;replace H : (if t439.toList = ([] : List UInt8) then (some (([] : List ByteArray), 13)) else (vl.l0 k a0 ([] : List ByteArray) 0 0)) = some (r1, r2) := H;have A2 := As A20;clear A20
 by_cases c3 : t439.toList = ([] : List UInt8)
 rw [if_pos c3] at H;have c3b0 : (t439.toList == ([] : List UInt8)) = true := beq_iff_eq.mpr c3;have c3b1 : (t439.toList != ([] : List UInt8)) = false := bne_eq_false_iff_eq.mpr c3;clear c3;simp only [Option.some.injEq, Prod.mk.injEq] at H;obtain ⟨rfl, rfl⟩ := H
 rotate_left
 rw [if_neg c3] at H;have c3b0 : (t439.toList == ([] : List UInt8)) = false := beq_eq_false_iff_ne.mpr c3;have c3b1 : (t439.toList != ([] : List UInt8)) = true := bne_iff_ne.mpr c3;have H' := As H;clear H
 all_goals
  go_enter Tryz.func67, Tryz.ntmps67
  go_wp2_with (first | ((with_reducible refine gate_callee (f := 94) rfl ?_); refine goesL_ (some 9) rfl rfl Tryz.func94 kr rfl #[.string a0] rfl sa ?_; (with_reducible refine (vTr.calls k a0 _ _ A2.out).mono ?_); rintro e w' ⟨rfl, ⟨nd, rfl⟩⟩; refine ⟨_, rfl, ?_⟩))
 ·go_loopg [4, 5, 6] k (fun kq v4 v5 v6 w' => ∃ (x4_1 : List ByteArray) (x5_1 : Int) (x6_1 : Int), v5 = .int .i64 x5_1 ∧ v6 = .int .i64 x6_1 ∧ Aside0 (vl.l0 kq a0 x4_1 x5_1 x6_1 = some (r1, r2)) ∧ Aside0 (kq ≤ k) ∧ Aside0 (Kd.R Kd.string 9 w' w.heap.size (fun _ => True) v4 x4_1) ∧ Aside0 (Below w.heap.size w w'))
  case atStart => exact ⟨(([] : List ByteArray)), (0), (0), sw, sw, H', ⟨Nat.le_refl _⟩, ⟨by first | exact Kd.R_nil _ _ _ _ _ | exact Kd.N_nil _ _ _ _ _ | exact Kd.V_nil _ _ _ _ _ | exact Kd.Q_nil _ _ _ _ _ | exact Kd.S_nil _ _ _ _ _⟩, ⟨by repeat (first | (with_reducible first | exact HB.out | apply XA | apply XN | apply XD) | exact HB.out)⟩⟩
  case round =>
   clear H'
   try clear p2
   try clear c3
   try clear c3b0
   try clear c3b1
   obtain ⟨x4_1, x5_1, x6_1, rfl, rfl, HA, HK1, HO_4, HB⟩ := hrel
   cases gk with
   | zero => exact absurd HA.out (by simp [vl.l0])
   | succ k1 =>
    have H := HA.out;clear HA;simp only [vl.l0] at H
    by_cases c4 : x6_1 ≤ (a0.size : Int)
    focus
     rw [if_pos c4] at H;have c4b0 : decide (x6_1 ≤ (a0.size : Int)) = true := dY c4;clear c4
     by_cases c5 : x6_1 = (a0.size : Int)
     focus
      rw [if_pos c5] at H;have c5b0 : (x6_1 == (a0.size : Int)) = true := beq_iff_eq.mpr c5;have c5b1 : (x6_1 != (a0.size : Int)) = false := bne_eq_false_iff_eq.mpr c5;clear c5
      by_cases c6 : 0 ≤ x5_1
      rotate_left
      ·rw [if_neg c6] at H;exact absurd H (by simp)
      rw [if_pos c6] at H;have c6b0 := eq_true c6;have c6b1 : decide (0 ≤ x5_1) = true := dY c6;clear c6
      by_cases c7 : x5_1 ≤ x6_1
      rotate_left
      ·rw [if_neg c7] at H;exact absurd H (by simp)
      rw [if_pos c7] at H;have c7b0 := eq_true c7;have c7b1 : decide (x5_1 ≤ x6_1) = true := dY c7;clear c7;have c8b0 := eq_true (dT hy : x6_1 ≤ (a0.size : Int));replace H := bE H;obtain ⟨t444, A90, H⟩ := H;replace H : (if x4_1.length < 8796093022208 then (vl.l0 k1 a0 (x4_1 ++ [t444]) (wrap64 (x6_1 + 1)) (wrap64 (x6_1 + 1))) else (none)) = some (r1, r2) := H;have A19 := As A90;clear A90
      by_cases c10 : x4_1.length < 8796093022208
      rotate_left
      ·rw [if_neg c10] at H;exact absurd H (by simp)
      rw [if_pos c10] at H;have LMc20 := As c10;clear c10
      obtain ⟨y445, hy441⟩ : ∃ y_ : List ByteArray, y_ = (x4_1 ++ [t444]) := ⟨_, rfl⟩
      replace H : (vl.l0 k1 a0 y445 (wrap64 (x6_1 + 1)) (wrap64 (x6_1 + 1))) = some (r1, r2) := by first | (rw [hy441]; with_reducible exact H) | (have H2_ := (Option.bind_some _ _).symm.trans H; rw [hy441]; with_reducible exact H2_) | (have H2_ := (Option.bind_some _ _).symm.trans H; with_reducible exact H2_) | with_reducible exact H | (rw [hy441]; exact H) | exact H
      have Ny445 := As hy441;clear hy441;have H' := As H;clear H
      have m2_ := trivial
     rotate_left
     focus
      rw [if_neg c5] at H;have c5b0 : (x6_1 == (a0.size : Int)) = false := beq_eq_false_iff_ne.mpr c5;have c5b1 : (x6_1 != (a0.size : Int)) = true := bne_iff_ne.mpr c5
      by_cases c12 : 0 ≤ x6_1
      rotate_left
      ·rw [if_neg c12] at H;exact absurd H (by simp)
      rw [if_pos c12] at H;have c12b0 : decide (0 ≤ x6_1) = true := dY c12;clear c12
      by_cases c13 : x6_1 < (a0.size : Int)
      rotate_left
      ·rw [if_neg c13] at H;exact absurd H (by simp)
      rw [if_pos c13] at H;have c13b0 : decide (x6_1 < (a0.size : Int)) = true := dY c13;clear c13
      by_cases c15 : (bt a0 x6_1) = 44
      focus
       rw [if_pos c15] at H;have c15b0 : ((bt a0 x6_1) == 44) = true := beq_iff_eq.mpr c15;have c15b1 : ((bt a0 x6_1) != 44) = false := bne_eq_false_iff_eq.mpr c15;clear c15
       by_cases c16 : 0 ≤ x5_1
       rotate_left
       ·rw [if_neg c16] at H;exact absurd H (by simp)
       rw [if_pos c16] at H;have c16b0 := eq_true c16;have c16b1 : decide (0 ≤ x5_1) = true := dY c16;clear c16
       by_cases c17 : x5_1 ≤ x6_1
       rotate_left
       ·rw [if_neg c17] at H;exact absurd H (by simp)
       rw [if_pos c17] at H;have c17b0 := eq_true c17;have c17b1 : decide (x5_1 ≤ x6_1) = true := dY c17;clear c17;have c18b0 := eq_true (dT hy : x6_1 ≤ (a0.size : Int));replace H := bE H;obtain ⟨t444, A190, H⟩ := H;replace H : (if x4_1.length < 8796093022208 then (vl.l0 k1 a0 (x4_1 ++ [t444]) (wrap64 (x6_1 + 1)) (wrap64 (x6_1 + 1))) else (none)) = some (r1, r2) := H;have A19 := As A190;clear A190
       by_cases c20 : x4_1.length < 8796093022208
       rotate_left
       ·rw [if_neg c20] at H;exact absurd H (by simp)
       rw [if_pos c20] at H;have LMc20 := As c20;clear c20
       obtain ⟨y445, hy445⟩ : ∃ y_ : List ByteArray, y_ = (x4_1 ++ [t444]) := ⟨_, rfl⟩
       replace H : (vl.l0 k1 a0 y445 (wrap64 (x6_1 + 1)) (wrap64 (x6_1 + 1))) = some (r1, r2) := by first | (rw [hy445]; with_reducible exact H) | (have H2_ := (Option.bind_some _ _).symm.trans H; rw [hy445]; with_reducible exact H2_) | (have H2_ := (Option.bind_some _ _).symm.trans H; with_reducible exact H2_) | with_reducible exact H | (rw [hy445]; exact H) | exact H
       have Ny445 := As hy445;clear hy445;have H' := As H;clear H;have p14 : 0 ≤ (x6_1 : Int) := dT hy;have q14 : x6_1 < (a0.size : Int) := dT hy;have hx14 := bt_at a0 x6_1;replace p14 := eq_true p14;replace q14 := eq_true q14
       have m1_ := trivial
      rotate_left
      rw [if_neg c15] at H;have c15b0 : ((bt a0 x6_1) == 44) = false := beq_eq_false_iff_ne.mpr c15;have c15b1 : ((bt a0 x6_1) != 44) = true := bne_iff_ne.mpr c15;have H' := As H;clear H;have p14 : 0 ≤ (x6_1 : Int) := dT hy;have q14 : x6_1 < (a0.size : Int) := dT hy;have hx14 := bt_at a0 x6_1;replace p14 := eq_true p14;replace q14 := eq_true q14
    rotate_left 3
    focus
     rw [if_neg c4] at H;have c4b0 : decide (x6_1 ≤ (a0.size : Int)) = false := dN c4;clear c4;replace H := bE H;obtain ⟨t448, A220, H⟩ := H;replace H : (if t448 = 0 then (some (x4_1, 0)) else (some (([] : List ByteArray), t448))) = some (r1, r2) := H;have A22 := As A220;clear A220
     by_cases c23 : t448 = 0
     rw [if_pos c23] at H;have c23b0 : (t448 == 0) = true := beq_iff_eq.mpr c23;have c23b1 : (t448 != 0) = false := bne_eq_false_iff_eq.mpr c23;clear c23;simp only [Option.some.injEq, Prod.mk.injEq] at H;obtain ⟨rfl, rfl⟩ := H;obtain ⟨Ao25, co25, eo24⟩ := Kd.R_slice HO_4.out;subst eo24
     have m4_ := trivial
     rotate_left
     rw [if_neg c23] at H;have c23b0 : (t448 == 0) = false := beq_eq_false_iff_ne.mpr c23;have c23b1 : (t448 != 0) = true := bne_iff_ne.mpr c23;simp only [Option.some.injEq, Prod.mk.injEq] at H;obtain ⟨rfl, rfl⟩ := H;obtain ⟨Ao25, co25, eo25⟩ := Kd.R_slice HO_4.out;subst eo25
     have m3_ := trivial
    all_goals try
     first | (clear m1_; have m1_ := trivial) | (clear m2_; have m2_ := trivial)
     go_wp2_with (first | ((with_reducible refine gate_callee (f := 94) rfl ?_); refine goesL_ (some 32) rfl rfl Tryz.func94 kr rfl #[.string (a0.extract (x5_1 : Int).toNat (x6_1 : Int).toNat)] rfl sa ?_; (with_reducible refine (vTr.calls k1 (a0.extract (x5_1 : Int).toNat (x6_1 : Int).toNat) _ _ A19.out).mono ?_); rintro e w' ⟨rfl, ⟨nd, rfl⟩⟩; refine ⟨_, rfl, ?_⟩) | ((with_reducible refine gate_builtin (b := .append) (xs := #[.tmp 27, .tmp 33]) rfl ?_); at_builtin; refine Kd.R_append Kd.string (w0 := w) w.heap.size rfl (.tmp 27) (.tmp 33) 47 9 (.string ⟨#[]⟩) 16 rfl Tryz.underlying47 info9 rfl (by decide) (by omega) u4 x4_1 t444 [.string t444] (fun _ => True) (fun _ => False) rfl rfl ?aP (fun _ hk => hk.elim) ?aF ?aO ?aB ?aS ?aL ?_; (case aP => exact rfl); (case aB => exact (be HB.out)); (case aF => exact (fun _ _ => trivial)); (case aO => exact (ro HO_4.out)); (case aS => exact (XZ (be HB.out))); (case aL => have := LMc20.out; omega); intro v446 w21 ho hb hg hat; rw [← Ny445.out] at ho; have n0_ := As (hb); have n1_ := As (ho); clear HB; clear HO_4; have HB := n0_; have HO447 := n1_; clear n0_ n1_; clear ho hb hg hat))
     go_roundg k1
     case measure => have := HK1.out; omega
     case rel => exact ⟨(y445), (wrap64 (x6_1 + 1)), (wrap64 (x6_1 + 1)), sw, sw, H', ⟨by have := HK1.out; omega⟩, ⟨by (with_reducible repeat (first | apply RA | apply RN | apply RD)); exact HO447.out⟩, ⟨by repeat (first | (with_reducible first | exact HB.out | apply XA | apply XN | apply XD) | exact HB.out)⟩⟩
    all_goals try
     first | (clear m3_; have m3_ := trivial) | (clear m4_; have m4_ := trivial)
     go_wp2_with (first | ((with_reducible refine gate_callee (f := 95) rfl ?_); refine goesL_ (some 38) rfl rfl Tryz.func95 kr rfl #[.slice Ao25 x4_1.length co25] rfl sa ?_; (with_reducible refine (vCk.calls k1 _ _ x4_1 _ _ ?side1 ?side2 A22.out).mono ?_); (case side1 => repeat (first | exact (RR HO_4.out).2.2 | (with_reducible refine Kd.C_alloc ?_ _) | (with_reducible refine Kd.C_drewN ?_ _) | (with_reducible refine Kd.C_drew ?_))); (case side2 => exact (RR HO_4.out).2.1); rintro e w' ⟨rfl, ⟨nd, rfl⟩⟩; refine ⟨_, rfl, ?_⟩))
     go_ret2
    ·exact ⟨_, by first | rfl | (simp [errW_none, errW_some] <;> rfl) | (simp [*, errW_none, errW_some] <;> rfl), by first | exact Kd.R_nil _ _ _ _ _ | exact Kd.N_nil _ _ _ _ _ | exact Kd.V_nil _ _ _ _ _ | exact Kd.Q_nil _ _ _ _ _ | exact Kd.S_nil _ _ _ _ _, by repeat (first | (with_reducible first | exact HB.out | apply XA | apply XN | apply XD) | exact HB.out)⟩
    ·exact ⟨_, by first | rfl | (simp [errW_none, errW_some] <;> rfl) | (simp [*, errW_none, errW_some] <;> rfl), by (with_reducible repeat (first | apply RA | apply RN | apply RD)); exact HO_4.out, by repeat (first | (with_reducible first | exact HB.out | apply XA | apply XN | apply XD) | exact HB.out)⟩
    ·go_wp2
     go_roundg k1
     case measure => have := HK1.out; omega
     case rel => exact ⟨(x4_1), (x5_1), (wrap64 (x6_1 + 1)), sw, sw, H', ⟨by have := HK1.out; omega⟩, ⟨by (with_reducible repeat (first | apply RA | apply RN | apply RD)); exact HO_4.out⟩, ⟨by repeat (first | (with_reducible first | exact HB.out | apply XA | apply XN | apply XD) | exact HB.out)⟩⟩
 ·go_ret2
  exact ⟨_, by first | rfl | (simp [errW_none, errW_some] <;> rfl) | (simp [*, errW_none, errW_some] <;> rfl), by first | exact Kd.R_nil _ _ _ _ _ | exact Kd.N_nil _ _ _ _ _ | exact Kd.V_nil _ _ _ _ _ | exact Kd.Q_nil _ _ _ _ _ | exact Kd.S_nil _ _ _ _ _, by repeat (first | (with_reducible first | exact HB.out | apply XA | apply XN | apply XD) | exact HB.out)⟩

end Go.Proofs.YtdakfmldbddokaaGreatDoor.P
-- SHRUNK
-- PACKED
-- PACKED2

-- written by myprint.py (this claim's own program, after the kit's print)
namespace Go.Proofs.YtdakfmldbddokaaGreatDoor.P
open Go.RowKit Go.Proofs.YtdakfmldbddokaaGreatDoorW.PrintWords Go.Proofs.YtdakfmldbddokaaGreatDoorW.PrintLast Go.Proofs.YtdakfmldbddokaaGreatDoorW.PrintMore
attribute [local go_sem] max2_int min2_int max_two min_two max_three min_three max_four min_four   -- for this text's walks alone
set_option linter.unusedVariables false
set_option linter.unusedSimpArgs false

/-! ### vO: function 42 -/
mutual
def vO.j0 : Nat → ByteArray → List ByteArray → Bool → Option (Int × Int)
 | 0, _, _, _ => none
 | k + 1, x1, x6, x36 => if x36 = true then (some (0, 0)) else (vO.l0 k x1 x6 0 0)
def vO.l0 : Nat → ByteArray → List ByteArray → Int → Int → Option (Int × Int)
 | 0, _, _, _, _ => none
 | k + 1, x1, x6, x8, x9 => if x9 < (x6.length : Int) then (if 0 ≤ x9 then (if ((rdOf ByteArray.empty x6 x9).size : Int) = 1 then (if 0 < ((rdOf ByteArray.empty x6 x9).size : Int) then ((vAt.f k x1 (bt (rdOf ByteArray.empty x6 x9) 0)).bind fun t458 => (vO.j2 k x1 x6 x8 x9 (decide (t458 < 0)))) else (none)) else (vO.j2 k x1 x6 x8 x9 true)) else (none)) else (some (x8, 0))
def vO.j2 : Nat → ByteArray → List ByteArray → Int → Int → Bool → Option (Int × Int)
 | 0, _, _, _, _, _ => none
 | k + 1, x1, x6, x8, x9, x58 => if x58 = true then (some (0, 3)) else (vO.l1 k x1 x6 x8 x9 1 0)
def vO.l1 : Nat → ByteArray → List ByteArray → Int → Int → Int → Int → Option (Int × Int)
 | 0, _, _, _, _, _, _ => none
 | k + 1, x1, x6, x8, x9, x10, x11 => if 0 ≤ x9 then (if x9 < (x6.length : Int) then (if 0 < ((rdOf ByteArray.empty x6 x9).size : Int) then ((vAt.f k x1 (bt (rdOf ByteArray.empty x6 x9) 0)).bind fun t460 => (if x11 < t460 then (vO.l1 k x1 x6 x8 x9 (wrap64 (2 * x10)) (wrap64 (x11 + 1))) else (vO.l0 k x1 x6 (wrap64 (x8 + x10)) (wrap64 (x9 + 1))))) else (none)) else (none)) else (none)
end
def vO.f (k : Nat) (a0 : ByteArray) (a1 : ByteArray) : Option (Int × Int) := (vM.f k a1).bind fun t449 => (if t449 = true then ((vl.f k a0).bind fun bt450 => (if bt450.2 = 0 then (if (bt450.1.length : Int) = 1 then (if 0 < (bt450.1.length : Int) then (if (rdOf ByteArray.empty bt450.1 0).toList = ([110] : List UInt8) then ((vAt.f k a1 110).bind fun t455 => (vO.j0 k a1 bt450.1 (decide (t455 < 0)))) else (vO.j0 k a1 bt450.1 false)) else (none)) else (vO.j0 k a1 bt450.1 false)) else (some (0, bt450.2)))) else (some (0, 1)))
theorem vO.mono_l : ∀ k, (∀ y0 y1 y2, LeO (vO.j0 k y0 y1 y2) (vO.j0 (k + 1) y0 y1 y2)) ∧ (∀ y0 y1 y2 y3, LeO (vO.l0 k y0 y1 y2 y3) (vO.l0 (k + 1) y0 y1 y2 y3)) ∧ (∀ y0 y1 y2 y3 y4, LeO (vO.j2 k y0 y1 y2 y3 y4) (vO.j2 (k + 1) y0 y1 y2 y3 y4)) ∧ (∀ y0 y1 y2 y3 y4 y5, LeO (vO.l1 k y0 y1 y2 y3 y4 y5) (vO.l1 (k + 1) y0 y1 y2 y3 y4 y5))
 | 0 => ⟨fun _ _ _ r h => by simp [vO.j0] at h, fun _ _ _ _ r h => by simp [vO.l0] at h, fun _ _ _ _ _ r h => by simp [vO.j2] at h, fun _ _ _ _ _ _ r h => by simp [vO.l1] at h⟩
 | k + 1 => by
  obtain ⟨ih0, ih1, ih2, ih3⟩ := vO.mono_l k;refine ⟨?_, ?_, ?_, ?_⟩
  ·intro y0 y1 y2;unfold vO.j0
   repeat' (with_reducible first|apply ih0|apply ih1|apply ih2|apply ih3|apply vl.mono|apply vM.mono|apply vAt.mono|apply LeO.refl|apply LeO.none|refine LeO.ite ?_ ?_|refine LeO.bind ?_ (fun _=>?_))
  ·intro y0 y1 y2 y3;unfold vO.l0
   repeat' (with_reducible first|apply ih0|apply ih1|apply ih2|apply ih3|apply vl.mono|apply vM.mono|apply vAt.mono|apply LeO.refl|apply LeO.none|refine LeO.ite ?_ ?_|refine LeO.bind ?_ (fun _=>?_))
  ·intro y0 y1 y2 y3 y4;unfold vO.j2
   repeat' (with_reducible first|apply ih0|apply ih1|apply ih2|apply ih3|apply vl.mono|apply vM.mono|apply vAt.mono|apply LeO.refl|apply LeO.none|refine LeO.ite ?_ ?_|refine LeO.bind ?_ (fun _=>?_))
  ·intro y0 y1 y2 y3 y4 y5;unfold vO.l1
   repeat' (with_reducible first|apply ih0|apply ih1|apply ih2|apply ih3|apply vl.mono|apply vM.mono|apply vAt.mono|apply LeO.refl|apply LeO.none|refine LeO.ite ?_ ?_|refine LeO.bind ?_ (fun _=>?_))
theorem vO.mono : ∀ a0 a1 k, LeO (vO.f k a0 a1) (vO.f (k + 1) a0 a1) := by
 intro a0 a1 k;obtain ⟨ih0, ih1, ih2, ih3⟩ := vO.mono_l k;unfold vO.f
 repeat' (with_reducible first|apply ih0|apply ih1|apply ih2|apply ih3|apply vl.mono|apply vM.mono|apply vAt.mono|apply LeO.refl|apply LeO.none|refine LeO.ite ?_ ?_|refine LeO.bind ?_ (fun _=>?_))
set_option maxHeartbeats 8000000 in
set_option maxRecDepth 100000 in
theorem vO.calls (k : Nat) (a0 : ByteArray) (a1 : ByteArray) (r1 : Int) (r2 : Int) (w : World) (h : vO.f k a0 a1 = some (r1, r2)) :
  Calls Tryz.prog 42 #[.string a0, .string a1] w fun e w' => e = .returned (.tuple #[.int .i64 r1, .int .i64 r2]) ∧ Below w.heap.size w w' := by
 have HB := As (Below.refl w.heap.size w);have H : ((vM.f k a1).bind fun t449 => (if t449 = true then ((vl.f k a0).bind fun bt450 => (if bt450.2 = 0 then (if (bt450.1.length : Int) = 1 then (if 0 < (bt450.1.length : Int) then (if (rdOf ByteArray.empty bt450.1 0).toList = ([110] : List UInt8) then ((vAt.f k a1 110).bind fun t455 => (vO.j0 k a1 bt450.1 (decide (t455 < 0)))) else (vO.j0 k a1 bt450.1 false)) else (none)) else (vO.j0 k a1 bt450.1 false)) else (some (0, bt450.2)))) else (some (0, 1)))) = some (r1, r2) := h;clear h;replace H := bE H;obtain ⟨t449, A30, H⟩ := H;replace H : (if t449 = true then ((vl.f k a0).bind fun bt450 => (if bt450.2 = 0 then (if (bt450.1.length : Int) = 1 then (if 0 < (bt450.1.length : Int) then (if (rdOf ByteArray.empty bt450.1 0).toList = ([110] : List UInt8) then ((vAt.f k a1 110).bind fun t455 => (vO.j0 k a1 bt450.1 (decide (t455 < 0)))) else (vO.j0 k a1 bt450.1 false)) else (none)) else (vO.j0 k a1 bt450.1 false)) else (some (0, bt450.2)))) else (some (0, 1))) = some (r1, r2) := H;have A3 := As A30;clear A30
 by_cases c4 : t449 = true
 focus
  subst c4
  have H1 : ((vl.f k a0).bind fun bt450 => (if bt450.2 = 0 then (if (bt450.1.length : Int) = 1 then (if 0 < (bt450.1.length : Int) then (if (rdOf ByteArray.empty bt450.1 0).toList = ([110] : List UInt8) then ((vAt.f k a1 110).bind fun t455 => (vO.j0 k a1 bt450.1 (decide (t455 < 0)))) else (vO.j0 k a1 bt450.1 false)) else (none)) else (vO.j0 k a1 bt450.1 false)) else (some (0, bt450.2)))) = some (r1, r2) := by rw [if_pos rfl] at H; exact H
  clear H;have H := H1;clear H1;replace H := bE H;obtain ⟨⟨t450, t451⟩, A50, H⟩ := H;replace H : (if t451 = 0 then (if (t450.length : Int) = 1 then (if 0 < (t450.length : Int) then (if (rdOf ByteArray.empty t450 0).toList = ([110] : List UInt8) then ((vAt.f k a1 110).bind fun t455 => (vO.j0 k a1 t450 (decide (t455 < 0)))) else (vO.j0 k a1 t450 false)) else (none)) else (vO.j0 k a1 t450 false)) else (some (0, t451))) = some (r1, r2) := H;have A5 := As A50;clear A50
  by_cases c6 : t451 = 0
  rw [if_pos c6] at H;have c6b0 : (t451 == 0) = true := beq_iff_eq.mpr c6;have c6b1 : (t451 != 0) = false := bne_eq_false_iff_eq.mpr c6;clear c6;have HC7 := As H;clear H
  rotate_left
  rw [if_neg c6] at H;have c6b0 : (t451 == 0) = false := beq_eq_false_iff_ne.mpr c6;have c6b1 : (t451 != 0) = true := bne_iff_ne.mpr c6;simp only [Option.some.injEq, Prod.mk.injEq] at H;obtain ⟨rfl, rfl⟩ := H
  have m1_ := trivial
 rotate_left 2
 replace c4 := Bool.eq_false_iff.mpr c4;subst c4
 have H1 : (some (0, 1)) = some (r1, r2) := by rw [if_neg (show ¬ (false = true) by decide)] at H; exact H
 clear H;have H := H1;clear H1;simp only [Option.some.injEq, Prod.mk.injEq] at H;obtain ⟨rfl, rfl⟩ := H
 have m2_ := trivial
 all_goals go_enter Tryz.func42, Tryz.ntmps42
 all_goals try
  first | (clear m1_; have m1_ := trivial) | (clear m2_; have m2_ := trivial)
  go_wp2_with (first | ((with_reducible refine gate_callee (f := 52) rfl ?_); refine goesL_ (some 13) rfl rfl Tryz.func52 kr rfl #[.string a1] rfl sa ?_; (with_reducible refine (vM.calls k a1 _ _ A3.out).mono ?_); rintro e w' ⟨rfl, ⟨nd, rfl⟩⟩; refine ⟨_, rfl, ?_⟩) | ((with_reducible refine gate_callee (f := 67) rfl ?_); refine goesL_ (some 17) rfl rfl Tryz.func67 kr rfl #[.string a0] rfl sa ?_; (with_reducible refine (vl.calls k a0 _ _ _ A5.out).mono ?_); rintro e w33 ⟨v452, rfl, ho0, hb⟩; refine ⟨_, rfl, ?_⟩; have HO453 := As (Kd.R_lower ho0 (XZ (be HB.out))); replace HB := As (XT (be HB.out) hb); (try clear hb); (try clear hb2); (try clear hk); (try clear hi); (try clear ho0)))
  go_ret2
  exact ⟨by first | rfl | (simp [errW_none, errW_some] <;> rfl) | (simp [*, errW_none, errW_some] <;> rfl), by repeat (first | (with_reducible first | exact HB.out | apply XA | apply XN | apply XD) | exact HB.out)⟩
 ·go_upto_region 6 with (first | ((with_reducible refine gate_callee (f := 52) rfl ?_); refine goesL_ (some 13) rfl rfl Tryz.func52 kr rfl #[.string a1] rfl sa ?_; (with_reducible refine (vM.calls k a1 _ _ A3.out).mono ?_); rintro e w' ⟨rfl, ⟨nd, rfl⟩⟩; refine ⟨_, rfl, ?_⟩) | ((with_reducible refine gate_callee (f := 67) rfl ?_); refine goesL_ (some 17) rfl rfl Tryz.func67 kr rfl #[.string a0] rfl sa ?_; (with_reducible refine (vl.calls k a0 _ _ _ A5.out).mono ?_); rintro e w8 ⟨v452, rfl, ho0, hb⟩; refine ⟨_, rfl, ?_⟩; have HO453 := As (Kd.R_lower ho0 (XZ (be HB.out))); replace HB := As (XT (be HB.out) hb); (try clear hb); (try clear hb2); (try clear hk); (try clear hi); (try clear ho0)))
  (try simp only [Act.put, List.setIfInBounds_toArray, List.set_cons_zero, List.set_cons_succ])
  go_cut [36] (fun v36 wc => ∃ (kq : Nat) (x36_6 : Bool), v36 = .bool x36_6 ∧ Aside0 (vO.j0 kq a1 t450 x36_6 = some (r1, r2)) ∧ Aside0 (kq ≤ k) ∧ Aside0 (Kd.R Kd.string 9 wc w.heap.size (fun _ => True) v452 t450) ∧ Aside0 (Below w.heap.size w wc))
  case first =>
   have H := HC7.out;clear HC7
   by_cases c9 : (t450.length : Int) = 1
   focus
    rw [if_pos c9] at H;have c9b0 : ((t450.length : Int) == 1) = true := beq_iff_eq.mpr c9;have c9b1 : ((t450.length : Int) != 1) = false := bne_eq_false_iff_eq.mpr c9;clear c9
    (first | rw [c9b0] | (simp only [i64_w, i32_w]; rw [c9b0]) | skip)
    by_cases c10 : 0 < (t450.length : Int)
    rotate_left
    ·rw [if_neg c10] at H;exact absurd H (by simp)
    rw [if_pos c10] at H;have c10b0 : decide (0 < (t450.length : Int)) = true := dY c10;have c10b1 : decide (0 < t450.length) = true := dY (by omega);clear c10
    by_cases c11 : (rdOf ByteArray.empty t450 0).toList = ([110] : List UInt8)
    rw [if_pos c11] at H;have c11b0 : ((rdOf ByteArray.empty t450 0).toList == ([110] : List UInt8)) = true := beq_iff_eq.mpr c11;have c11b1 : ((rdOf ByteArray.empty t450 0).toList != ([110] : List UInt8)) = false := bne_eq_false_iff_eq.mpr c11;clear c11;replace H := bE H;obtain ⟨t455, A120, H⟩ := H;replace H : (vO.j0 k a1 t450 (decide (t455 < 0))) = some (r1, r2) := H;have A12 := As A120;clear A120;have H' := As H;clear H;obtain ⟨Ao13, co13, eo13⟩ := Kd.R_slice HO453.out;subst eo13
    have p454 : 0 ≤ (0 : Int) := (by omega)
    have q454 : 0 < (t450.length : Int) := dT hy;obtain ⟨ad454, e454, hx454_0⟩ := Kd.at_string (RR HO453.out).2.2 0 p454 q454
    cases e454
    have qi454 : (0 < t450.length) = True := eq_true (by omega)
    (try rw [show ((0 : Int)).toNat = 0 from rfl] at hx454_0)
    (try rw [Addr.add_zero'] at hx454_0)
    replace p454 := eq_true p454;replace q454 := eq_true q454
    rotate_left
    rw [if_neg c11] at H;have c11b0 : ((rdOf ByteArray.empty t450 0).toList == ([110] : List UInt8)) = false := beq_eq_false_iff_ne.mpr c11;have c11b1 : ((rdOf ByteArray.empty t450 0).toList != ([110] : List UInt8)) = true := bne_iff_ne.mpr c11;have H' := As H;clear H;obtain ⟨Ao14, co14, eo14⟩ := Kd.R_slice HO453.out;subst eo14
    have p454 : 0 ≤ (0 : Int) := (by omega)
    have q454 : 0 < (t450.length : Int) := dT hy;obtain ⟨ad454, e454, hx454_0⟩ := Kd.at_string (RR HO453.out).2.2 0 p454 q454
    cases e454
    have qi454 : (0 < t450.length) = True := eq_true (by omega)
    (try rw [show ((0 : Int)).toNat = 0 from rfl] at hx454_0)
    (try rw [Addr.add_zero'] at hx454_0)
    replace p454 := eq_true p454;replace q454 := eq_true q454
    have m4_ := trivial
   rotate_left 2
   rw [if_neg c9] at H;have c9b0 : ((t450.length : Int) == 1) = false := beq_eq_false_iff_ne.mpr c9;have c9b1 : ((t450.length : Int) != 1) = true := bne_iff_ne.mpr c9
   (first | rw [c9b0] | (simp only [i64_w, i32_w]; rw [c9b0]) | skip)
   have H' := As H;clear H;obtain ⟨Ao15, co15, eo15⟩ := Kd.R_slice HO453.out;subst eo15
   have m3_ := trivial
   all_goals try
    first | (clear m3_; have m3_ := trivial) | (clear m4_; have m4_ := trivial)
    go_wp2
    go_meet
    case rel => exact ⟨_, (false), sw, H', ⟨by first | omega | exact Nat.le_refl _⟩, ⟨by (with_reducible repeat (first | apply RA | apply RN | apply RD)); exact HO453.out⟩, ⟨by repeat (first | (with_reducible first | exact HB.out | apply XA | apply XN | apply XD) | exact HB.out)⟩⟩
   ·go_wp2_with (first | (go_at_call 53; (with_reducible refine (vAt.calls k a1 110 _ _ A12.out).mono ?_); rintro e w' ⟨rfl, ⟨nd, rfl⟩⟩))
    go_meet
    case rel => exact ⟨_, (decide (t455 < 0)), sw, H', ⟨by first | omega | exact Nat.le_refl _⟩, ⟨by (with_reducible repeat (first | apply RA | apply RN | apply RD)); exact HO453.out⟩, ⟨by repeat (first | (with_reducible first | exact HB.out | apply XA | apply XN | apply XD) | exact HB.out)⟩⟩
  case rest =>
   clear HC7
   try clear c1
   try clear p2
   try clear c4
   try clear p4
   try clear q4
   try clear hx4
   try clear qi4
   try clear c5
   try clear c6
   try clear c6b0
   try clear c6b1
   try clear p6
   try clear c9
   try clear c9b0
   try clear c9b1
   try clear c10
   try clear c10b0
   try clear c10b1
   try clear c11
   try clear c11b0
   try clear c11b1
   try clear hx454_0
   try clear p454
   try clear q454
   obtain ⟨kq, x36_6, rfl, HA, HJ6, HO_6, HB⟩ := hcut
   cases kq with
   | zero => exact absurd HA.out (by simp [vO.j0])
   | succ kj6 =>
    have H := HA.out;clear HA;simp only [vO.j0] at H
    by_cases c16 : x36_6 = true
    ·subst c16
     have H1 : (some (0, 0)) = some (r1, r2) := by rw [if_pos rfl] at H; exact H
     clear H;have H := H1;clear H1;simp only [Option.some.injEq, Prod.mk.injEq] at H;obtain ⟨rfl, rfl⟩ := H
     go_wp2
     go_ret2
     exact ⟨by first | rfl | (simp [errW_none, errW_some] <;> rfl) | (simp [*, errW_none, errW_some] <;> rfl), by repeat (first | (with_reducible first | exact HB.out | apply XA | apply XN | apply XD) | exact HB.out)⟩
    ·replace c16 := Bool.eq_false_iff.mpr c16;subst c16
     have H1 : (vO.l0 kj6 a1 t450 0 0) = some (r1, r2) := by rw [if_neg (show ¬ (false = true) by decide)] at H; exact H
     clear H;have H := H1;clear H1;have H' := As H;clear H
     go_wp2
     go_loopg [8, 9] kj6 (fun kq v8 v9 w' => ∃ (x8_2 : Int) (x9_2 : Int), v8 = .int .i64 x8_2 ∧ v9 = .int .i64 x9_2 ∧ Aside0 (vO.l0 kq a1 t450 x8_2 x9_2 = some (r1, r2)) ∧ Aside0 (kq ≤ kj6) ∧ Aside0 (Kd.R Kd.string 9 w' w.heap.size (fun _ => True) v452 t450) ∧ Aside0 (Below w.heap.size w w'))
     case atStart => exact ⟨(0), (0), sw, sw, H', ⟨Nat.le_refl _⟩, ⟨by (with_reducible repeat (first | apply RA | apply RN | apply RD)); exact HO_6.out⟩, ⟨by repeat (first | (with_reducible first | exact HB.out | apply XA | apply XN | apply XD) | exact HB.out)⟩⟩
     case round =>
      clear H'
      try clear c1
      try clear p2
      try clear c4
      try clear p4
      try clear q4
      try clear hx4
      try clear qi4
      try clear c5
      try clear c6
      try clear c6b0
      try clear c6b1
      try clear p6
      try clear c9
      try clear c9b0
      try clear c9b1
      try clear c10
      try clear c10b0
      try clear c10b1
      try clear c11
      try clear c11b0
      try clear c11b1
      try clear c16
      try clear hx454_0
      try clear p2
      try clear p4
      try clear p454
      try clear p6
      try clear q4
      try clear q454
      obtain ⟨x8_2, x9_2, rfl, rfl, HA, HK2, HO_6, HB⟩ := hrel
      cases gk with
      | zero => exact absurd HA.out (by simp [vO.l0])
      | succ k2 =>
       have H := HA.out;clear HA;simp only [vO.l0] at H
       by_cases c17 : x9_2 < (t450.length : Int)
       ·rw [if_pos c17] at H;have c17b0 : decide (x9_2 < (t450.length : Int)) = true := dY c17;clear c17;have HC18 := As H;clear H;obtain ⟨Ao19, co19, eo19⟩ := Kd.R_slice HO_6.out;subst eo19
        go_upto_region 12 with (fail)
        go_cut [58] (fun v58 wc => ∃ (kq : Nat) (x58_17 : Bool), v58 = .bool x58_17 ∧ Aside0 (vO.j2 kq a1 t450 x8_2 x9_2 x58_17 = some (r1, r2)) ∧ Aside0 (kq ≤ k2) ∧ Aside0 (Kd.R Kd.string 9 wc w.heap.size (fun _ => True) (.slice Ao19 t450.length co19) t450) ∧ Aside0 (Below w.heap.size w wc))
        case first =>
         have H := HC18.out;clear HC18
         by_cases c20 : 0 ≤ x9_2
         ·rw [if_pos c20] at H;have c20b0 : decide (0 ≤ x9_2) = true := dY c20;clear c20
          (first | rw [c20b0] | (simp only [i64_w, i32_w]; rw [c20b0]) | skip)
          by_cases c21 : ((rdOf ByteArray.empty t450 x9_2).size : Int) = 1
          ·rw [if_pos c21] at H;have c21b0 : (((rdOf ByteArray.empty t450 x9_2).size : Int) == 1) = true := beq_iff_eq.mpr c21;have c21b1 : (((rdOf ByteArray.empty t450 x9_2).size : Int) != 1) = false := bne_eq_false_iff_eq.mpr c21;clear c21
           by_cases c22 : 0 < ((rdOf ByteArray.empty t450 x9_2).size : Int)
           ·rw [if_pos c22] at H;have c22b0 : decide (0 < ((rdOf ByteArray.empty t450 x9_2).size : Int)) = true := dY c22;have c22b1 : decide (0 < (rdOf ByteArray.empty t450 x9_2).size) = true := dY (by omega);clear c22;replace H := bE H;obtain ⟨t458, A240, H⟩ := H;replace H : (vO.j2 k2 a1 t450 x8_2 x9_2 (decide (t458 < 0))) = some (r1, r2) := H;have A24 := As A240;clear A240;have H' := As H;clear H;have p456 : 0 ≤ (x9_2 : Int) := dT hy;have q456 : x9_2 < (t450.length : Int) := dT hy;obtain ⟨ad456, e456, hx456_0⟩ := Kd.at_string (RR HO_6.out).2.2 x9_2 p456 q456
            cases e456
            replace p456 := eq_true p456;replace q456 := eq_true q456;have p457 : 0 ≤ (x9_2 : Int) := dT hy;have q457 : x9_2 < (t450.length : Int) := dT hy;obtain ⟨ad457, e457, hx457_0⟩ := Kd.at_string (RR HO_6.out).2.2 x9_2 p457 q457
            obtain rfl : ad456 = ad457 := (by injection e457)
            replace p457 := eq_true p457;replace q457 := eq_true q457
            have p23 : 0 ≤ (0 : Int) := (by omega)
            have q23 : 0 < (rdOf ByteArray.empty t450 x9_2).size := (by have : (0 : Int) < ((rdOf ByteArray.empty t450 x9_2).size : Int) := dT hy; omega)
            have hx23 : ∀ h : 0 < (rdOf ByteArray.empty t450 x9_2).size, (((rdOf ByteArray.empty t450 x9_2)[0]'h).toNat : Int) = bt (rdOf ByteArray.empty t450 x9_2) 0 := bt_at (rdOf ByteArray.empty t450 x9_2) 0;clear p23;have qi23 : (0 < ((rdOf ByteArray.empty t450 x9_2).size : Int)) = True := eq_true (dT hy);replace q23 := eq_true q23
            go_wp2_with (first | (go_at_call 53; (with_reducible refine (vAt.calls k2 a1 (bt (rdOf ByteArray.empty t450 x9_2) 0) _ _ A24.out).mono ?_); rintro e w' ⟨rfl, ⟨nd, rfl⟩⟩))
            go_meet
            case rel => exact ⟨_, (decide (t458 < 0)), sw, H', ⟨by have := HJ6.out; have := HK2.out; first | omega | exact Nat.le_refl _⟩, ⟨by (with_reducible repeat (first | apply RA | apply RN | apply RD)); exact HO_6.out⟩, ⟨by repeat (first | (with_reducible first | exact HB.out | apply XA | apply XN | apply XD) | exact HB.out)⟩⟩
           ·rw [if_neg c22] at H;exact absurd H (by simp)
          ·rw [if_neg c21] at H;have c21b0 : (((rdOf ByteArray.empty t450 x9_2).size : Int) == 1) = false := beq_eq_false_iff_ne.mpr c21;have c21b1 : (((rdOf ByteArray.empty t450 x9_2).size : Int) != 1) = true := bne_iff_ne.mpr c21;have H' := As H;clear H;have p456 : 0 ≤ (x9_2 : Int) := dT hy;have q456 : x9_2 < (t450.length : Int) := dT hy;obtain ⟨ad456, e456, hx456_0⟩ := Kd.at_string (RR HO_6.out).2.2 x9_2 p456 q456
           cases e456
           replace p456 := eq_true p456;replace q456 := eq_true q456
           go_wp2
           go_meet
           case rel => exact ⟨_, (true), sw, H', ⟨by have := HJ6.out; have := HK2.out; first | omega | exact Nat.le_refl _⟩, ⟨by (with_reducible repeat (first | apply RA | apply RN | apply RD)); exact HO_6.out⟩, ⟨by repeat (first | (with_reducible first | exact HB.out | apply XA | apply XN | apply XD) | exact HB.out)⟩⟩
         ·rw [if_neg c20] at H;exact absurd H (by simp)
        case rest =>
         clear HC18
         try clear c1
         try clear c2
         try clear p2
         try clear q2
         try clear hx2
         try clear qi2
         try clear c4
         try clear p4
         try clear q4
         try clear hx4
         try clear qi4
         try clear c5
         try clear c6
         try clear c6b0
         try clear c6b1
         try clear p6
         try clear c9
         try clear c9b0
         try clear c9b1
         try clear c10
         try clear c10b0
         try clear c10b1
         try clear c11
         try clear c11b0
         try clear c11b1
         try clear c16
         try clear c17
         try clear c17b0
         try clear c20
         try clear c20b0
         try clear c21
         try clear c21b0
         try clear c21b1
         try clear c22
         try clear c22b0
         try clear c22b1
         try clear p23
         try clear q23
         try clear hx23
         try clear qi23
         try clear hx454_0
         try clear hx456_0
         try clear hx457_0
         try clear p2
         try clear p23
         try clear p4
         try clear p454
         try clear p456
         try clear p457
         try clear p6
         try clear q23
         try clear q4
         try clear q454
         try clear q456
         try clear q457
         obtain ⟨kq, x58_17, rfl, HA, HJ17, HO_6, HB⟩ := hcut
         cases kq with
         | zero => exact absurd HA.out (by simp [vO.j2])
         | succ kj17 =>
          have H := HA.out;clear HA;simp only [vO.j2] at H
          by_cases c25 : x58_17 = true
          ·subst c25
           have H1 : (some (0, 3)) = some (r1, r2) := by rw [if_pos rfl] at H; exact H
           clear H;have H := H1;clear H1;simp only [Option.some.injEq, Prod.mk.injEq] at H;obtain ⟨rfl, rfl⟩ := H
           go_wp2
           go_ret2
           exact ⟨by first | rfl | (simp [errW_none, errW_some] <;> rfl) | (simp [*, errW_none, errW_some] <;> rfl), by repeat (first | (with_reducible first | exact HB.out | apply XA | apply XN | apply XD) | exact HB.out)⟩
          ·replace c25 := Bool.eq_false_iff.mpr c25;subst c25
           have H1 : (vO.l1 kj17 a1 t450 x8_2 x9_2 1 0) = some (r1, r2) := by rw [if_neg (show ¬ (false = true) by decide)] at H; exact H
           clear H;have H := H1;clear H1;have H' := As H;clear H
           go_wp2
           go_loopg [10, 11] kj17 (fun kq v10 v11 w' => ∃ (x10_4 : Int) (x11_4 : Int), v10 = .int .i64 x10_4 ∧ v11 = .int .i64 x11_4 ∧ Aside0 (vO.l1 kq a1 t450 x8_2 x9_2 x10_4 x11_4 = some (r1, r2)) ∧ Aside0 (kq ≤ kj17) ∧ Aside0 (Kd.R Kd.string 9 w' w.heap.size (fun _ => True) (.slice Ao19 t450.length co19) t450) ∧ Aside0 (Below w.heap.size w w'))
           case atStart => exact ⟨(1), (0), sw, sw, H', ⟨Nat.le_refl _⟩, ⟨by (with_reducible repeat (first | apply RA | apply RN | apply RD)); exact HO_6.out⟩, ⟨by repeat (first | (with_reducible first | exact HB.out | apply XA | apply XN | apply XD) | exact HB.out)⟩⟩
           case round =>
            clear H'
            try clear c1
            try clear c2
            try clear p2
            try clear q2
            try clear hx2
            try clear qi2
            try clear c4
            try clear p4
            try clear q4
            try clear hx4
            try clear qi4
            try clear c5
            try clear c6
            try clear c6b0
            try clear c6b1
            try clear p6
            try clear c9
            try clear c9b0
            try clear c9b1
            try clear c10
            try clear c10b0
            try clear c10b1
            try clear c11
            try clear c11b0
            try clear c11b1
            try clear c16
            try clear c17
            try clear c17b0
            try clear c20
            try clear c20b0
            try clear c21
            try clear c21b0
            try clear c21b1
            try clear c22
            try clear c22b0
            try clear c22b1
            try clear p23
            try clear q23
            try clear hx23
            try clear qi23
            try clear c25
            try clear hx454_0
            try clear hx456_0
            try clear hx457_0
            try clear p2
            try clear p23
            try clear p4
            try clear p454
            try clear p456
            try clear p457
            try clear p6
            try clear q2
            try clear q23
            try clear q4
            try clear q454
            try clear q456
            try clear q457
            obtain ⟨x10_4, x11_4, rfl, rfl, HA, HK4, HO_6, HB⟩ := hrel
            cases gk with
            | zero => exact absurd HA.out (by simp [vO.l1])
            | succ k4 =>
             have H := HA.out;clear HA;simp only [vO.l1] at H
             by_cases c26 : 0 ≤ x9_2
             rotate_left
             ·rw [if_neg c26] at H;exact absurd H (by simp)
             rw [if_pos c26] at H;have c26b0 : decide (0 ≤ x9_2) = true := dY c26;clear c26
             by_cases c27 : x9_2 < (t450.length : Int)
             rotate_left
             ·rw [if_neg c27] at H;exact absurd H (by simp)
             rw [if_pos c27] at H;have c27b0 : decide (x9_2 < (t450.length : Int)) = true := dY c27;clear c27
             by_cases c28 : 0 < ((rdOf ByteArray.empty t450 x9_2).size : Int)
             rotate_left
             ·rw [if_neg c28] at H;exact absurd H (by simp)
             rw [if_pos c28] at H;have c28b0 : decide (0 < ((rdOf ByteArray.empty t450 x9_2).size : Int)) = true := dY c28;have c28b1 : decide (0 < (rdOf ByteArray.empty t450 x9_2).size) = true := dY (by omega);clear c28;replace H := bE H;obtain ⟨t460, A300, H⟩ := H;replace H : (if x11_4 < t460 then (vO.l1 k4 a1 t450 x8_2 x9_2 (wrap64 (2 * x10_4)) (wrap64 (x11_4 + 1))) else (vO.l0 k4 a1 t450 (wrap64 (x8_2 + x10_4)) (wrap64 (x9_2 + 1)))) = some (r1, r2) := H;have A30 := As A300;clear A300
             by_cases c31 : x11_4 < t460
             rw [if_pos c31] at H;have c31b0 : decide (x11_4 < t460) = true := dY c31;clear c31;have H' := As H;clear H;have p459 : 0 ≤ (x9_2 : Int) := dT hy;have q459 : x9_2 < (t450.length : Int) := dT hy;obtain ⟨ad459, e459, hx459_0⟩ := Kd.at_string (RR HO_6.out).2.2 x9_2 p459 q459
             cases e459
             replace p459 := eq_true p459;replace q459 := eq_true q459
             have p29 : 0 ≤ (0 : Int) := (by omega)
             have q29 : 0 < (rdOf ByteArray.empty t450 x9_2).size := (by have : (0 : Int) < ((rdOf ByteArray.empty t450 x9_2).size : Int) := dT hy; omega)
             have hx29 : ∀ h : 0 < (rdOf ByteArray.empty t450 x9_2).size, (((rdOf ByteArray.empty t450 x9_2)[0]'h).toNat : Int) = bt (rdOf ByteArray.empty t450 x9_2) 0 := bt_at (rdOf ByteArray.empty t450 x9_2) 0;clear p29;have qi29 : (0 < ((rdOf ByteArray.empty t450 x9_2).size : Int)) = True := eq_true (dT hy);replace q29 := eq_true q29
             rotate_left
             rw [if_neg c31] at H;have c31b0 : decide (x11_4 < t460) = false := dN c31;clear c31;have H' := As H;clear H;have p459 : 0 ≤ (x9_2 : Int) := dT hy;have q459 : x9_2 < (t450.length : Int) := dT hy;obtain ⟨ad459, e459, hx459_0⟩ := Kd.at_string (RR HO_6.out).2.2 x9_2 p459 q459
             cases e459
             replace p459 := eq_true p459;replace q459 := eq_true q459
             have p29 : 0 ≤ (0 : Int) := (by omega)
             have q29 : 0 < (rdOf ByteArray.empty t450 x9_2).size := (by have : (0 : Int) < ((rdOf ByteArray.empty t450 x9_2).size : Int) := dT hy; omega)
             have hx29 : ∀ h : 0 < (rdOf ByteArray.empty t450 x9_2).size, (((rdOf ByteArray.empty t450 x9_2)[0]'h).toNat : Int) = bt (rdOf ByteArray.empty t450 x9_2) 0 := bt_at (rdOf ByteArray.empty t450 x9_2) 0;clear p29;have qi29 : (0 < ((rdOf ByteArray.empty t450 x9_2).size : Int)) = True := eq_true (dT hy);replace q29 := eq_true q29
             all_goals
              go_wp2_with (first | ((with_reducible refine gate_callee (f := 53) rfl ?_); refine goesL_ (some 66) rfl rfl Tryz.func53 kr rfl #[.string a1, .int .u8 (bt (rdOf ByteArray.empty t450 x9_2) 0)] rfl sa ?_; (with_reducible refine (vAt.calls k4 a1 (bt (rdOf ByteArray.empty t450 x9_2) 0) _ _ A30.out).mono ?_); rintro e w' ⟨rfl, ⟨nd, rfl⟩⟩; refine ⟨_, rfl, ?_⟩))
              go_roundg k4
              case measure => have := HJ6.out; have := HK2.out; have := HJ17.out; have := HK4.out; omega
             ·case rel => exact ⟨(wrap64 (x8_2 + x10_4)), (wrap64 (x9_2 + 1)), sw, sw, H', ⟨by have := HJ6.out; have := HK2.out; have := HJ17.out; have := HK4.out; omega⟩, ⟨by (with_reducible repeat (first | apply RA | apply RN | apply RD)); exact HO_6.out⟩, ⟨by repeat (first | (with_reducible first | exact HB.out | apply XA | apply XN | apply XD) | exact HB.out)⟩⟩
             ·case rel => exact ⟨(wrap64 (2 * x10_4)), (wrap64 (x11_4 + 1)), sw, sw, H', ⟨by have := HJ6.out; have := HK2.out; have := HJ17.out; have := HK4.out; omega⟩, ⟨by (with_reducible repeat (first | apply RA | apply RN | apply RD)); exact HO_6.out⟩, ⟨by repeat (first | (with_reducible first | exact HB.out | apply XA | apply XN | apply XD) | exact HB.out)⟩⟩
       ·rw [if_neg c17] at H;have c17b0 : decide (x9_2 < (t450.length : Int)) = false := dN c17;clear c17;simp only [Option.some.injEq, Prod.mk.injEq] at H;obtain ⟨rfl, rfl⟩ := H;obtain ⟨Ao32, co32, eo32⟩ := Kd.R_slice HO_6.out;subst eo32
        go_wp2
        go_ret2
        exact ⟨by first | rfl | (simp [errW_none, errW_some] <;> rfl) | (simp [*, errW_none, errW_some] <;> rfl), by repeat (first | (with_reducible first | exact HB.out | apply XA | apply XN | apply XD) | exact HB.out)⟩

/-! ### qr: function 25 -/
def qr.f (k : Nat) (a0 : Int) (a1 : ByteArray) : Option (Int × Int) := if a0 = 102 then ((vI.f k a1 0 1).bind fun bt461 => (some (bt461.1, bt461.2))) else (if a0 = 110 then ((vI.f k a1 0 2147483648).bind fun bt463 => (some (bt463.1, bt463.2))) else (if a0 = 109 then ((vI.f k a1 0 4611686018427387904).bind fun bt465 => (some (bt465.1, bt465.2))) else (if a0 = 115 then ((vI.f k a1 0 34560000).bind fun bt467 => (some (bt467.1, bt467.2))) else (if a0 = 105 then ((vI.f k a1 1 2147483648).bind fun bt469 => (some (bt469.1, bt469.2))) else (if a0 = 98 then ((vO.f k a1 (⟨#[97, 99, 102]⟩ : ByteArray)).bind fun bt471 => (some (bt471.1, bt471.2))) else (if a0 = 120 then ((vI.f k a1 0 3).bind fun bt473 => (some (bt473.1, bt473.2))) else ((vI.f k a1 0 255).bind fun bt475 => (some (bt475.1, bt475.2)))))))))
theorem qr.mono : ∀ a0 a1 k, LeO (qr.f k a0 a1) (qr.f (k + 1) a0 a1) := by
 intro a0 a1 k;unfold qr.f
 repeat' (with_reducible first|apply vI.mono|apply vO.mono|apply LeO.refl|apply LeO.none|refine LeO.ite ?_ ?_|refine LeO.bind ?_ (fun _=>?_))
set_option maxHeartbeats 8000000 in
set_option maxRecDepth 100000 in
theorem qr.calls (k : Nat) (a0 : Int) (a1 : ByteArray) (r1 : Int) (r2 : Int) (w : World) (h : qr.f k a0 a1 = some (r1, r2)) :
  Calls Tryz.prog 25 #[.int .u8 a0, .string a1] w fun e w' => e = .returned (.tuple #[.int .i64 r1, .int .i64 r2]) ∧ Below w.heap.size w w' := by
 have HB := As (Below.refl w.heap.size w);have H : (if a0 = 102 then ((vI.f k a1 0 1).bind fun bt461 => (some (bt461.1, bt461.2))) else (if a0 = 110 then ((vI.f k a1 0 2147483648).bind fun bt463 => (some (bt463.1, bt463.2))) else (if a0 = 109 then ((vI.f k a1 0 4611686018427387904).bind fun bt465 => (some (bt465.1, bt465.2))) else (if a0 = 115 then ((vI.f k a1 0 34560000).bind fun bt467 => (some (bt467.1, bt467.2))) else (if a0 = 105 then ((vI.f k a1 1 2147483648).bind fun bt469 => (some (bt469.1, bt469.2))) else (if a0 = 98 then ((vO.f k a1 (⟨#[97, 99, 102]⟩ : ByteArray)).bind fun bt471 => (some (bt471.1, bt471.2))) else (if a0 = 120 then ((vI.f k a1 0 3).bind fun bt473 => (some (bt473.1, bt473.2))) else ((vI.f k a1 0 255).bind fun bt475 => (some (bt475.1, bt475.2)))))))))) = some (r1, r2) := h;clear h
 by_cases c3 : a0 = 102
 ·rw [if_pos c3] at H;have c3b0 : (a0 == 102) = true := beq_iff_eq.mpr c3;have c3b1 : (a0 != 102) = false := bne_eq_false_iff_eq.mpr c3;clear c3;replace H := bE H;obtain ⟨⟨t461, t462⟩, A40, H⟩ := H;replace H : (some (t461, t462)) = some (r1, r2) := H;have A4 := As A40;clear A40;simp only [Option.some.injEq, Prod.mk.injEq] at H;obtain ⟨rfl, rfl⟩ := H
  go_enter Tryz.func25, Tryz.ntmps25
  go_wp2_with (first | ((with_reducible refine gate_callee (f := 41) rfl ?_); refine goesL_ (some 10) rfl rfl Tryz.func41 kr rfl #[.string a1, .int .i64 0, .int .i64 1] rfl sa ?_; (with_reducible refine (vI.calls k a1 0 1 _ _ _ A4.out).mono ?_); rintro e w' ⟨rfl, ⟨nd, rfl⟩⟩; refine ⟨_, rfl, ?_⟩))
  go_ret2
  exact ⟨by first | rfl | (simp [errW_none, errW_some] <;> rfl) | (simp [*, errW_none, errW_some] <;> rfl), by repeat (first | (with_reducible first | exact HB.out | apply XA | apply XN | apply XD) | exact HB.out)⟩
 ·rw [if_neg c3] at H;have c3b0 : (a0 == 102) = false := beq_eq_false_iff_ne.mpr c3;have c3b1 : (a0 != 102) = true := bne_iff_ne.mpr c3
  by_cases c5 : a0 = 110
  ·rw [if_pos c5] at H;have c5b0 : (a0 == 110) = true := beq_iff_eq.mpr c5;have c5b1 : (a0 != 110) = false := bne_eq_false_iff_eq.mpr c5;clear c5;replace H := bE H;obtain ⟨⟨t463, t464⟩, A60, H⟩ := H;replace H : (some (t463, t464)) = some (r1, r2) := H;have A6 := As A60;clear A60;simp only [Option.some.injEq, Prod.mk.injEq] at H;obtain ⟨rfl, rfl⟩ := H
   go_enter Tryz.func25, Tryz.ntmps25
   go_wp2_with (first | ((with_reducible refine gate_callee (f := 41) rfl ?_); refine goesL_ (some 16) rfl rfl Tryz.func41 kr rfl #[.string a1, .int .i64 0, .int .i64 2147483648] rfl sa ?_; (with_reducible refine (vI.calls k a1 0 2147483648 _ _ _ A6.out).mono ?_); rintro e w' ⟨rfl, ⟨nd, rfl⟩⟩; refine ⟨_, rfl, ?_⟩))
   go_ret2
   exact ⟨by first | rfl | (simp [errW_none, errW_some] <;> rfl) | (simp [*, errW_none, errW_some] <;> rfl), by repeat (first | (with_reducible first | exact HB.out | apply XA | apply XN | apply XD) | exact HB.out)⟩
  ·rw [if_neg c5] at H;have c5b0 : (a0 == 110) = false := beq_eq_false_iff_ne.mpr c5;have c5b1 : (a0 != 110) = true := bne_iff_ne.mpr c5
   by_cases c7 : a0 = 109
   ·rw [if_pos c7] at H;have c7b0 : (a0 == 109) = true := beq_iff_eq.mpr c7;have c7b1 : (a0 != 109) = false := bne_eq_false_iff_eq.mpr c7;clear c7;replace H := bE H;obtain ⟨⟨t465, t466⟩, A80, H⟩ := H;replace H : (some (t465, t466)) = some (r1, r2) := H;have A8 := As A80;clear A80;simp only [Option.some.injEq, Prod.mk.injEq] at H;obtain ⟨rfl, rfl⟩ := H
    go_enter Tryz.func25, Tryz.ntmps25
    go_wp2_with (first | ((with_reducible refine gate_callee (f := 41) rfl ?_); refine goesL_ (some 22) rfl rfl Tryz.func41 kr rfl #[.string a1, .int .i64 0, .int .i64 4611686018427387904] rfl sa ?_; (with_reducible refine (vI.calls k a1 0 4611686018427387904 _ _ _ A8.out).mono ?_); rintro e w' ⟨rfl, ⟨nd, rfl⟩⟩; refine ⟨_, rfl, ?_⟩))
    go_ret2
    exact ⟨by first | rfl | (simp [errW_none, errW_some] <;> rfl) | (simp [*, errW_none, errW_some] <;> rfl), by repeat (first | (with_reducible first | exact HB.out | apply XA | apply XN | apply XD) | exact HB.out)⟩
   ·rw [if_neg c7] at H;have c7b0 : (a0 == 109) = false := beq_eq_false_iff_ne.mpr c7;have c7b1 : (a0 != 109) = true := bne_iff_ne.mpr c7
    by_cases c9 : a0 = 115
    ·rw [if_pos c9] at H;have c9b0 : (a0 == 115) = true := beq_iff_eq.mpr c9;have c9b1 : (a0 != 115) = false := bne_eq_false_iff_eq.mpr c9;clear c9;replace H := bE H;obtain ⟨⟨t467, t468⟩, A100, H⟩ := H;replace H : (some (t467, t468)) = some (r1, r2) := H;have A10 := As A100;clear A100;simp only [Option.some.injEq, Prod.mk.injEq] at H;obtain ⟨rfl, rfl⟩ := H
     go_enter Tryz.func25, Tryz.ntmps25
     go_wp2_with (first | ((with_reducible refine gate_callee (f := 41) rfl ?_); refine goesL_ (some 28) rfl rfl Tryz.func41 kr rfl #[.string a1, .int .i64 0, .int .i64 34560000] rfl sa ?_; (with_reducible refine (vI.calls k a1 0 34560000 _ _ _ A10.out).mono ?_); rintro e w' ⟨rfl, ⟨nd, rfl⟩⟩; refine ⟨_, rfl, ?_⟩))
     go_ret2
     exact ⟨by first | rfl | (simp [errW_none, errW_some] <;> rfl) | (simp [*, errW_none, errW_some] <;> rfl), by repeat (first | (with_reducible first | exact HB.out | apply XA | apply XN | apply XD) | exact HB.out)⟩
    ·rw [if_neg c9] at H;have c9b0 : (a0 == 115) = false := beq_eq_false_iff_ne.mpr c9;have c9b1 : (a0 != 115) = true := bne_iff_ne.mpr c9
     by_cases c11 : a0 = 105
     ·rw [if_pos c11] at H;have c11b0 : (a0 == 105) = true := beq_iff_eq.mpr c11;have c11b1 : (a0 != 105) = false := bne_eq_false_iff_eq.mpr c11;clear c11;replace H := bE H;obtain ⟨⟨t469, t470⟩, A120, H⟩ := H;replace H : (some (t469, t470)) = some (r1, r2) := H;have A12 := As A120;clear A120;simp only [Option.some.injEq, Prod.mk.injEq] at H;obtain ⟨rfl, rfl⟩ := H
      go_enter Tryz.func25, Tryz.ntmps25
      go_wp2_with (first | ((with_reducible refine gate_callee (f := 41) rfl ?_); refine goesL_ (some 34) rfl rfl Tryz.func41 kr rfl #[.string a1, .int .i64 1, .int .i64 2147483648] rfl sa ?_; (with_reducible refine (vI.calls k a1 1 2147483648 _ _ _ A12.out).mono ?_); rintro e w' ⟨rfl, ⟨nd, rfl⟩⟩; refine ⟨_, rfl, ?_⟩))
      go_ret2
      exact ⟨by first | rfl | (simp [errW_none, errW_some] <;> rfl) | (simp [*, errW_none, errW_some] <;> rfl), by repeat (first | (with_reducible first | exact HB.out | apply XA | apply XN | apply XD) | exact HB.out)⟩
     ·rw [if_neg c11] at H;have c11b0 : (a0 == 105) = false := beq_eq_false_iff_ne.mpr c11;have c11b1 : (a0 != 105) = true := bne_iff_ne.mpr c11
      by_cases c13 : a0 = 98
      ·rw [if_pos c13] at H;have c13b0 : (a0 == 98) = true := beq_iff_eq.mpr c13;have c13b1 : (a0 != 98) = false := bne_eq_false_iff_eq.mpr c13;clear c13;replace H := bE H;obtain ⟨⟨t471, t472⟩, A140, H⟩ := H;replace H : (some (t471, t472)) = some (r1, r2) := H;have A14 := As A140;clear A140;simp only [Option.some.injEq, Prod.mk.injEq] at H;obtain ⟨rfl, rfl⟩ := H
       go_enter Tryz.func25, Tryz.ntmps25
       go_wp2_with (first | ((with_reducible refine gate_callee (f := 42) rfl ?_); refine goesL_ (some 40) rfl rfl Tryz.func42 kr rfl #[.string a1, .string (⟨#[97, 99, 102]⟩ : ByteArray)] rfl sa ?_; (with_reducible refine (vO.calls k a1 (⟨#[97, 99, 102]⟩ : ByteArray) _ _ _ A14.out).mono ?_); rintro e w15 ⟨rfl, hb⟩; refine ⟨_, rfl, ?_⟩; replace HB := As (XT (be HB.out) hb); (try clear hb); (try clear hb2); (try clear hk); (try clear hi)))
       go_ret2
       exact ⟨by first | rfl | (simp [errW_none, errW_some] <;> rfl) | (simp [*, errW_none, errW_some] <;> rfl), by repeat (first | (with_reducible first | exact HB.out | apply XA | apply XN | apply XD) | exact HB.out)⟩
      ·rw [if_neg c13] at H;have c13b0 : (a0 == 98) = false := beq_eq_false_iff_ne.mpr c13;have c13b1 : (a0 != 98) = true := bne_iff_ne.mpr c13
       by_cases c16 : a0 = 120
       ·rw [if_pos c16] at H;have c16b0 : (a0 == 120) = true := beq_iff_eq.mpr c16;have c16b1 : (a0 != 120) = false := bne_eq_false_iff_eq.mpr c16;clear c16;replace H := bE H;obtain ⟨⟨t473, t474⟩, A170, H⟩ := H;replace H : (some (t473, t474)) = some (r1, r2) := H;have A17 := As A170;clear A170;simp only [Option.some.injEq, Prod.mk.injEq] at H;obtain ⟨rfl, rfl⟩ := H
        go_enter Tryz.func25, Tryz.ntmps25
        go_wp2_with (first | ((with_reducible refine gate_callee (f := 41) rfl ?_); refine goesL_ (some 46) rfl rfl Tryz.func41 kr rfl #[.string a1, .int .i64 0, .int .i64 3] rfl sa ?_; (with_reducible refine (vI.calls k a1 0 3 _ _ _ A17.out).mono ?_); rintro e w' ⟨rfl, ⟨nd, rfl⟩⟩; refine ⟨_, rfl, ?_⟩))
        go_ret2
        exact ⟨by first | rfl | (simp [errW_none, errW_some] <;> rfl) | (simp [*, errW_none, errW_some] <;> rfl), by repeat (first | (with_reducible first | exact HB.out | apply XA | apply XN | apply XD) | exact HB.out)⟩
       ·rw [if_neg c16] at H;have c16b0 : (a0 == 120) = false := beq_eq_false_iff_ne.mpr c16;have c16b1 : (a0 != 120) = true := bne_iff_ne.mpr c16;replace H := bE H;obtain ⟨⟨t475, t476⟩, A180, H⟩ := H;replace H : (some (t475, t476)) = some (r1, r2) := H;have A18 := As A180;clear A180;simp only [Option.some.injEq, Prod.mk.injEq] at H;obtain ⟨rfl, rfl⟩ := H
        go_enter Tryz.func25, Tryz.ntmps25
        go_wp2_with (first | ((with_reducible refine gate_callee (f := 41) rfl ?_); refine goesL_ (some 50) rfl rfl Tryz.func41 kr rfl #[.string a1, .int .i64 0, .int .i64 255] rfl sa ?_; (with_reducible refine (vI.calls k a1 0 255 _ _ _ A18.out).mono ?_); rintro e w' ⟨rfl, ⟨nd, rfl⟩⟩; refine ⟨_, rfl, ?_⟩))
        go_ret2
        exact ⟨by first | rfl | (simp [errW_none, errW_some] <;> rfl) | (simp [*, errW_none, errW_some] <;> rfl), by repeat (first | (with_reducible first | exact HB.out | apply XA | apply XN | apply XD) | exact HB.out)⟩

end Go.Proofs.YtdakfmldbddokaaGreatDoor.P
-- SHRUNK
-- PACKED
-- PACKED2
