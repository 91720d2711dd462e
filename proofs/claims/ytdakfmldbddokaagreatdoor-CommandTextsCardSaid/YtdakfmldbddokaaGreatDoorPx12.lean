-- written by myprint.py (this claim's own program, after the kit's print)
import Derived.Test.YtdakfmldbddokaaGreatDoorPx0
import Derived.Test.YtdakfmldbddokaaGreatDoorPack
namespace Go.Proofs.YtdakfmldbddokaaGreatDoor.P
open Go.RowKit Go.Proofs.YtdakfmldbddokaaGreatDoorW.PrintWords Go.Proofs.YtdakfmldbddokaaGreatDoorW.PrintLast Go.Proofs.YtdakfmldbddokaaGreatDoorW.PrintMore
attribute [local go_sem] max2_int min2_int max_two min_two max_three min_three max_four min_four   -- for this text's walks alone
set_option linter.unusedVariables false
set_option linter.unusedSimpArgs false

/-! ### ba9: function 51 -/
mutual
def ba9.l0 : Nat → ByteArray → ByteArray → Int → Option (Bool)
 | 0, _, _, _ => none
 | k + 1, x0, x1, x5 => if x5 < (x0.size : Int) then (ba9.l1 k x0 x1 x5 false 0) else (if (x0.size : Int) > 0 then (some (decide ((x0.size : Int) < 33))) else (some false))
def ba9.l1 : Nat → ByteArray → ByteArray → Int → Bool → Int → Option (Bool)
 | 0, _, _, _, _, _ => none
 | k + 1, x0, x1, x5, x6, x7 => if x7 < (x1.size : Int) then (if x6 = true then (ba9.l1 k x0 x1 x5 true (wrap64 (x7 + 1))) else (if 0 ≤ x7 then (if 0 ≤ x5 then (if x5 < (x0.size : Int) then (ba9.l1 k x0 x1 x5 ((bt x1 x7) == (bt x0 x5)) (wrap64 (x7 + 1))) else (none)) else (none)) else (none))) else (if x6 = true then (ba9.l0 k x0 x1 (wrap64 (x5 + 1))) else (some false))
end
def ba9.f (k : Nat) (a0 : ByteArray) (a1 : ByteArray) : Option (Bool) := ba9.l0 k a0 a1 0
theorem ba9.mono_l : ∀ k, (∀ y0 y1 y2, LeO (ba9.l0 k y0 y1 y2) (ba9.l0 (k + 1) y0 y1 y2)) ∧ (∀ y0 y1 y2 y3 y4, LeO (ba9.l1 k y0 y1 y2 y3 y4) (ba9.l1 (k + 1) y0 y1 y2 y3 y4))
 | 0 => ⟨fun _ _ _ r h => by simp [ba9.l0] at h, fun _ _ _ _ _ r h => by simp [ba9.l1] at h⟩
 | k + 1 => by
  obtain ⟨ih0, ih1⟩ := ba9.mono_l k;refine ⟨?_, ?_⟩
  ·intro y0 y1 y2;unfold ba9.l0
   repeat' (with_reducible first|apply ih0|apply ih1|apply LeO.refl|apply LeO.none|refine LeO.ite ?_ ?_|refine LeO.bind ?_ (fun _=>?_))
  ·intro y0 y1 y2 y3 y4;unfold ba9.l1
   repeat' (with_reducible first|apply ih0|apply ih1|apply LeO.refl|apply LeO.none|refine LeO.ite ?_ ?_|refine LeO.bind ?_ (fun _=>?_))
theorem ba9.mono : ∀ a0 a1 k, LeO (ba9.f k a0 a1) (ba9.f (k + 1) a0 a1) := by
 intro a0 a1 k;obtain ⟨ih0, ih1⟩ := ba9.mono_l k;unfold ba9.f
 repeat' (with_reducible first|apply ih0|apply ih1|apply LeO.refl|apply LeO.none|refine LeO.ite ?_ ?_|refine LeO.bind ?_ (fun _=>?_))
set_option maxHeartbeats 8000000 in
set_option maxRecDepth 100000 in
theorem ba9.calls (k : Nat) (a0 : ByteArray) (a1 : ByteArray) (r : Bool) (w : World) (h : ba9.f k a0 a1 = some r) :
  Calls Tryz.prog 51 #[.string a0, .string a1] w fun e w' => e = .returned (.bool r) ∧ Drawn0 w w' := by
 have H : (ba9.l0 k a0 a1 0) = some r := h;clear h;have H' := As H;clear H
 go_enter Tryz.func51, Tryz.ntmps51
 go_wp2
 repeat (go_quiet (fail); try go_wp2)
 go_loopg [5] k (fun kq v5 w' => ∃ (x5_1 : Int), v5 = .int .i64 x5_1 ∧ Aside0 (ba9.l0 kq a0 a1 x5_1 = some r) ∧ Aside0 (kq ≤ k) ∧ Drawn0 w w')
 case atStart => exact ⟨(0), sw, H', ⟨Nat.le_refl _⟩, by repeat (first | exact Drawn0.refl _ | apply Drawn0.step)⟩
 case round =>
  clear H'
  try clear p2
  obtain ⟨x5_1, rfl, HA, HK1, ⟨m1, rfl⟩⟩ := hrel
  cases gk with
  | zero => exact absurd HA.out (by simp [ba9.l0])
  | succ k1 =>
   have H := HA.out;clear HA;simp only [ba9.l0] at H
   by_cases c3 : x5_1 < (a0.size : Int)
   ·rw [if_pos c3] at H;have c3b0 : decide (x5_1 < (a0.size : Int)) = true := dY c3;clear c3;have H' := As H;clear H
    go_wp2
    repeat (go_quiet (fail); try go_wp2)
    go_loopg [6, 7] k1 (fun kq v6 v7 w' => ∃ (x6_2 : Bool) (x7_2 : Int), v6 = .bool x6_2 ∧ v7 = .int .i64 x7_2 ∧ Aside0 (ba9.l1 kq a0 a1 x5_1 x6_2 x7_2 = some r) ∧ Aside0 (kq ≤ k1) ∧ Drawn0 w w')
    case atStart => exact ⟨(false), (0), sw, sw, H', ⟨Nat.le_refl _⟩, by repeat (first | exact Drawn0.refl _ | apply Drawn0.step)⟩
    case round =>
     clear H'
     try clear p2
     try clear c3
     try clear c3b0
     try clear p2
     obtain ⟨x6_2, x7_2, rfl, rfl, HA, HK2, ⟨m2, rfl⟩⟩ := hrel
     cases gk with
     | zero => exact absurd HA.out (by simp [ba9.l1])
     | succ k2 =>
      have H := HA.out;clear HA;simp only [ba9.l1] at H
      by_cases c4 : x7_2 < (a1.size : Int)
      focus
       rw [if_pos c4] at H;have c4b0 : decide (x7_2 < (a1.size : Int)) = true := dY c4;clear c4
       by_cases c5 : x6_2 = true
       subst c5
       have H1 : (ba9.l1 k2 a0 a1 x5_1 true (wrap64 (x7_2 + 1))) = some r := by rw [if_pos rfl] at H; exact H
       clear H;have H := H1;clear H1;have H' := As H;clear H
       have m3_ := trivial
       rotate_left
       focus
        replace c5 := Bool.eq_false_iff.mpr c5;subst c5
        have H1 : (if 0 ≤ x7_2 then (if 0 ≤ x5_1 then (if x5_1 < (a0.size : Int) then (ba9.l1 k2 a0 a1 x5_1 ((bt a1 x7_2) == (bt a0 x5_1)) (wrap64 (x7_2 + 1))) else (none)) else (none)) else (none)) = some r := by rw [if_neg (show ¬ (false = true) by decide)] at H; exact H
        clear H;have H := H1;clear H1
        by_cases c6 : 0 ≤ x7_2
        rotate_left
        ·rw [if_neg c6] at H;exact absurd H (by simp)
        rw [if_pos c6] at H;have c6b0 : decide (0 ≤ x7_2) = true := dY c6;clear c6
        by_cases c8 : 0 ≤ x5_1
        rotate_left
        ·rw [if_neg c8] at H;exact absurd H (by simp)
        rw [if_pos c8] at H;have c8b0 : decide (0 ≤ x5_1) = true := dY c8;clear c8
        by_cases c9 : x5_1 < (a0.size : Int)
        rotate_left
        ·rw [if_neg c9] at H;exact absurd H (by simp)
        rw [if_pos c9] at H;have c9b0 : decide (x5_1 < (a0.size : Int)) = true := dY c9;clear c9;have H' := As H;clear H;have p7 : 0 ≤ (x7_2 : Int) := dT hy;have q7 : x7_2 < (a1.size : Int) := dT hy;have hx7 := bt_at a1 x7_2;replace p7 := eq_true p7;replace q7 := eq_true q7;have p10 : 0 ≤ (x5_1 : Int) := dT hy;have q10 : x5_1 < (a0.size : Int) := dT hy;have hx10 := bt_at a0 x5_1;replace p10 := eq_true p10;replace q10 := eq_true q10
        have m2_ := trivial
      rotate_left 2
      focus
       rw [if_neg c4] at H;have c4b0 : decide (x7_2 < (a1.size : Int)) = false := dN c4;clear c4
       by_cases c11 : x6_2 = true
       subst c11
       have H1 : (ba9.l0 k2 a0 a1 (wrap64 (x5_1 + 1))) = some r := by rw [if_pos rfl] at H; exact H
       clear H;have H := H1;clear H1;have H' := As H;clear H
       have m1_ := trivial
       rotate_left
       replace c11 := Bool.eq_false_iff.mpr c11;subst c11
       have H1 : (some false) = some r := by rw [if_neg (show ¬ (false = true) by decide)] at H; exact H
       clear H;have H := H1;clear H1;obtain rfl := Option.some.inj H
      all_goals
       go_wp2
       repeat (go_quiet (fail); try go_wp2)
      all_goals try
       first | (clear m1_; have m1_ := trivial) | (clear m2_; have m2_ := trivial) | (clear m3_; have m3_ := trivial)
       go_roundg k2
       case measure => have := HK1.out; have := HK2.out; omega
      ·go_ret
       exact ⟨by first | rfl | (simp; done) | (simp [*]; done) | (simp; unfold wrap64; omega), by repeat (first | exact Drawn0.refl _ | apply Drawn0.step)⟩
      ·case rel => exact ⟨(wrap64 (x5_1 + 1)), sw, H', ⟨by have := HK1.out; have := HK2.out; omega⟩, by repeat (first | exact Drawn0.refl _ | apply Drawn0.step)⟩
      ·case rel => exact ⟨(((bt a1 x7_2) == (bt a0 x5_1))), (wrap64 (x7_2 + 1)), sw, sw, H', ⟨by have := HK1.out; have := HK2.out; omega⟩, by repeat (first | exact Drawn0.refl _ | apply Drawn0.step)⟩
      ·case rel => exact ⟨(true), (wrap64 (x7_2 + 1)), sw, sw, H', ⟨by have := HK1.out; have := HK2.out; omega⟩, by repeat (first | exact Drawn0.refl _ | apply Drawn0.step)⟩
   ·rw [if_neg c3] at H;have c3b0 : decide (x5_1 < (a0.size : Int)) = false := dN c3;clear c3
    by_cases c12 : (a0.size : Int) > 0
    ·rw [if_pos c12] at H;have c12b0 : decide (0 < (a0.size : Int)) = true := dY c12;have c12b1 : decide (0 < a0.size) = true := dY (by omega);clear c12;obtain rfl := Option.some.inj H
     go_wp2
     repeat (go_quiet (fail); try go_wp2)
     go_ret
     exact ⟨by first | rfl | (simp; done) | (simp [*]; done) | (simp; unfold wrap64; omega), by repeat (first | exact Drawn0.refl _ | apply Drawn0.step)⟩
    ·rw [if_neg c12] at H;have c12b0 : decide (0 < (a0.size : Int)) = false := dN c12;have c12b1 : decide (0 < a0.size) = false := dN (by omega);clear c12;obtain rfl := Option.some.inj H
     go_wp2
     repeat (go_quiet (fail); try go_wp2)
     go_ret
     exact ⟨by first | rfl | (simp; done) | (simp [*]; done) | (simp; unfold wrap64; omega), by repeat (first | exact Drawn0.refl _ | apply Drawn0.step)⟩

/-! ### bn9: function 28 -/
def bn9.f (k : Nat) (a0 : ByteArray) : Option (Bool) := (ba9.f k a0 (⟨#[97, 98, 99, 100, 101, 102, 103, 104, 105, 106, 107, 108, 109, 110, 111, 112, 113, 114, 115, 116, 117, 118, 119, 120, 121, 122, 65, 66, 67, 68, 69, 70, 71, 72, 73, 74, 75, 76, 77, 78, 79, 80, 81, 82, 83, 84, 85, 86, 87, 88, 89, 90, 48, 49, 50, 51, 52, 53, 54, 55, 56, 57, 95, 45, 46]⟩ : ByteArray)).bind fun t423 => (some t423)
theorem bn9.mono : ∀ a0 k, LeO (bn9.f k a0) (bn9.f (k + 1) a0) := by
 intro a0 k;unfold bn9.f
 repeat' (with_reducible first|apply ba9.mono|apply LeO.refl|apply LeO.none|refine LeO.ite ?_ ?_|refine LeO.bind ?_ (fun _=>?_))
set_option maxHeartbeats 8000000 in
set_option maxRecDepth 100000 in
theorem bn9.calls (k : Nat) (a0 : ByteArray) (r : Bool) (w : World) (h : bn9.f k a0 = some r) :
  Calls Tryz.prog 28 #[.string a0] w fun e w' => e = .returned (.bool r) ∧ Drawn0 w w' := by
 have H : ((ba9.f k a0 (⟨#[97, 98, 99, 100, 101, 102, 103, 104, 105, 106, 107, 108, 109, 110, 111, 112, 113, 114, 115, 116, 117, 118, 119, 120, 121, 122, 65, 66, 67, 68, 69, 70, 71, 72, 73, 74, 75, 76, 77, 78, 79, 80, 81, 82, 83, 84, 85, 86, 87, 88, 89, 90, 48, 49, 50, 51, 52, 53, 54, 55, 56, 57, 95, 45, 46]⟩ : ByteArray)).bind fun t423 => (some t423)) = some r := h;clear h;replace H := bE H;obtain ⟨t423, A20, H⟩ := H;replace H : (some t423) = some r := H;have A2 := As A20;clear A20;obtain rfl := Option.some.inj H
 go_enter Tryz.func28, Tryz.ntmps28
 go_wp2_with (first | ((with_reducible refine gate_callee (f := 51) rfl ?_); refine goesL_ (some 4) rfl rfl Tryz.func51 kr rfl #[.string a0, .string (⟨#[97, 98, 99, 100, 101, 102, 103, 104, 105, 106, 107, 108, 109, 110, 111, 112, 113, 114, 115, 116, 117, 118, 119, 120, 121, 122, 65, 66, 67, 68, 69, 70, 71, 72, 73, 74, 75, 76, 77, 78, 79, 80, 81, 82, 83, 84, 85, 86, 87, 88, 89, 90, 48, 49, 50, 51, 52, 53, 54, 55, 56, 57, 95, 45, 46]⟩ : ByteArray)] rfl sa ?_; (with_reducible refine (ba9.calls k a0 (⟨#[97, 98, 99, 100, 101, 102, 103, 104, 105, 106, 107, 108, 109, 110, 111, 112, 113, 114, 115, 116, 117, 118, 119, 120, 121, 122, 65, 66, 67, 68, 69, 70, 71, 72, 73, 74, 75, 76, 77, 78, 79, 80, 81, 82, 83, 84, 85, 86, 87, 88, 89, 90, 48, 49, 50, 51, 52, 53, 54, 55, 56, 57, 95, 45, 46]⟩ : ByteArray) _ _ A2.out).mono ?_); rintro e w' ⟨rfl, ⟨nd, rfl⟩⟩; refine ⟨_, rfl, ?_⟩))
 go_ret
 exact ⟨by first | rfl | (simp; done) | (simp [*]; done) | (simp; unfold wrap64; omega), by repeat (first | exact Drawn0.refl _ | apply Drawn0.step)⟩

end Go.Proofs.YtdakfmldbddokaaGreatDoor.P
-- SHRUNK
-- PACKED
-- PACKED2

-- written by myprint.py (this claim's own program, after the kit's print)
namespace Go.Proofs.YtdakfmldbddokaaGreatDoor.P
open Go.RowKit Go.Proofs.YtdakfmldbddokaaGreatDoorW.PrintWords Go.Proofs.YtdakfmldbddokaaGreatDoorW.PrintLast Go.Proofs.YtdakfmldbddokaaGreatDoorW.PrintMore
attribute [local go_sem] max2_int min2_int max_two min_two max_three min_three max_four min_four   -- for this text's walks alone
set_option linter.unusedVariables false
set_option linter.unusedSimpArgs false

/-! ### qN: function 14 -/
def qN.l0 : Nat → ByteArray → Int → Option (Bool)
 | 0, _, _ => none
 | k + 1, x0, x3 => if x3 < (x0.size : Int) then (if 0 ≤ x3 then (if (bt x0 x3) = 47 then (if x3 ≤ (x0.size : Int) then ((bn9.f k (x0.extract 0 (x3 : Int).toNat)).bind fun t425 => (if t425 = true then (if 0 ≤ (wrap64 (x3 + 1)) then (if (wrap64 (x3 + 1)) ≤ (x0.size : Int) then ((bn9.f k (x0.extract ((wrap64 (x3 + 1)) : Int).toNat x0.size)).bind fun t426 => (some t426)) else (none)) else (none)) else (some false))) else (none)) else (qN.l0 k x0 (wrap64 (x3 + 1)))) else (none)) else ((bn9.f k x0).bind fun t424 => (some t424))
def qN.f (k : Nat) (a0 : ByteArray) : Option (Bool) := qN.l0 k a0 0
theorem qN.mono_l : ∀ k, (∀ y0 y1, LeO (qN.l0 k y0 y1) (qN.l0 (k + 1) y0 y1))
 | 0 => fun _ _ r h => by simp [qN.l0] at h
 | k + 1 => by
  have ih0 := qN.mono_l k
  ·intro y0 y1;unfold qN.l0
   repeat' (with_reducible first|apply ih0|apply bn9.mono|apply LeO.refl|apply LeO.none|refine LeO.ite ?_ ?_|refine LeO.bind ?_ (fun _=>?_))
theorem qN.mono : ∀ a0 k, LeO (qN.f k a0) (qN.f (k + 1) a0) := by
 intro a0 k;have ih0 := qN.mono_l k;unfold qN.f
 repeat' (with_reducible first|apply ih0|apply bn9.mono|apply LeO.refl|apply LeO.none|refine LeO.ite ?_ ?_|refine LeO.bind ?_ (fun _=>?_))
set_option maxHeartbeats 8000000 in
set_option maxRecDepth 100000 in
theorem qN.calls (k : Nat) (a0 : ByteArray) (r : Bool) (w : World) (h : qN.f k a0 = some r) :
  Calls Tryz.prog 14 #[.string a0] w fun e w' => e = .returned (.bool r) ∧ Drawn0 w w' := by
 have H : (qN.l0 k a0 0) = some r := h;clear h;have H' := As H;clear H
 go_enter Tryz.func14, Tryz.ntmps14
 go_wp2
 go_loopg [3] k (fun kq v3 w' => ∃ (x3_1 : Int), v3 = .int .i64 x3_1 ∧ Aside0 (qN.l0 kq a0 x3_1 = some r) ∧ Aside0 (kq ≤ k) ∧ Drawn0 w w')
 case atStart => exact ⟨(0), sw, H', ⟨Nat.le_refl _⟩, by repeat (first | exact Drawn0.refl _ | apply Drawn0.step)⟩
 case round =>
  clear H'
  try clear c1
  obtain ⟨x3_1, rfl, HA, HK1, ⟨m1, rfl⟩⟩ := hrel
  cases gk with
  | zero => exact absurd HA.out (by simp [qN.l0])
  | succ k1 =>
   have H := HA.out;clear HA;simp only [qN.l0] at H
   by_cases c2 : x3_1 < (a0.size : Int)
   focus
    rw [if_pos c2] at H;have c2b0 : decide (x3_1 < (a0.size : Int)) = true := dY c2;clear c2
    by_cases c3 : 0 ≤ x3_1
    rotate_left
    ·rw [if_neg c3] at H;exact absurd H (by simp)
    rw [if_pos c3] at H;have c3b0 : decide (0 ≤ x3_1) = true := dY c3;clear c3
    by_cases c5 : (bt a0 x3_1) = 47
    focus
     rw [if_pos c5] at H;have c5b0 : ((bt a0 x3_1) == 47) = true := beq_iff_eq.mpr c5;have c5b1 : ((bt a0 x3_1) != 47) = false := bne_eq_false_iff_eq.mpr c5;clear c5;have c6b0 := eq_true (dT hy : 0 ≤ x3_1)
     by_cases c7 : x3_1 ≤ (a0.size : Int)
     rotate_left
     ·rw [if_neg c7] at H;exact absurd H (by simp)
     rw [if_pos c7] at H;have c7b0 := eq_true c7;have c7b1 : decide (x3_1 ≤ (a0.size : Int)) = true := dY c7;clear c7;replace H := bE H;obtain ⟨t425, A80, H⟩ := H;replace H : (if t425 = true then (if 0 ≤ (wrap64 (x3_1 + 1)) then (if (wrap64 (x3_1 + 1)) ≤ (a0.size : Int) then ((bn9.f k1 (a0.extract ((wrap64 (x3_1 + 1)) : Int).toNat a0.size)).bind fun t426 => (some t426)) else (none)) else (none)) else (some false)) = some r := H;have A8 := As A80;clear A80
     by_cases c9 : t425 = true
     focus
      subst c9
      have H1 : (if 0 ≤ (wrap64 (x3_1 + 1)) then (if (wrap64 (x3_1 + 1)) ≤ (a0.size : Int) then ((bn9.f k1 (a0.extract ((wrap64 (x3_1 + 1)) : Int).toNat a0.size)).bind fun t426 => (some t426)) else (none)) else (none)) = some r := by rw [if_pos rfl] at H; exact H
      clear H;have H := H1;clear H1
      obtain ⟨ji10, hji10⟩ : ∃ j_ : Int, (wrap64 (x3_1 + 1)) = j_ := ⟨_, rfl⟩
      replace H : (if 0 ≤ (ji10) then (if (ji10) ≤ (a0.size : Int) then ((bn9.f k1 (a0.extract ((ji10) : Int).toNat a0.size)).bind fun t426 => (some t426)) else (none)) else (none)) = some r := by first | (rw [hji10] at H; exact H) | (simp only [hji10] at H ⊢; exact H)
      (try rw [hji10] at A8)
      have hji10w : (IntKind.i64.wrap (x3_1 + 1)) = ji10 := (i64_w _).trans hji10
      by_cases c11 : 0 ≤ (ji10)
      rotate_left
      ·rw [if_neg c11] at H;exact absurd H (by simp)
      rw [if_pos c11] at H;have c11b0 := eq_true c11;have c11b1 : decide (0 ≤ (ji10)) = true := dY c11;clear c11
      by_cases c12 : (ji10) ≤ (a0.size : Int)
      rotate_left
      ·rw [if_neg c12] at H;exact absurd H (by simp)
      rw [if_pos c12] at H;have c12b0 := eq_true c12;have c12b1 : decide ((ji10) ≤ (a0.size : Int)) = true := dY c12;clear c12;replace H := bE H;obtain ⟨t426, A130, H⟩ := H;replace H : (some t426) = some r := H;have A13 := As A130;clear A130;obtain rfl := Option.some.inj H;have p4 : 0 ≤ (x3_1 : Int) := dT hy;have q4 : x3_1 < (a0.size : Int) := dT hy;have hx4 := bt_at a0 x3_1;replace p4 := eq_true p4;replace q4 := eq_true q4
      have m1_ := trivial
     rotate_left
     replace c9 := Bool.eq_false_iff.mpr c9;subst c9
     have H1 : (some false) = some r := by rw [if_neg (show ¬ (false = true) by decide)] at H; exact H
     clear H;have H := H1;clear H1;obtain rfl := Option.some.inj H;have p4 : 0 ≤ (x3_1 : Int) := dT hy;have q4 : x3_1 < (a0.size : Int) := dT hy;have hx4 := bt_at a0 x3_1;replace p4 := eq_true p4;replace q4 := eq_true q4
     have m2_ := trivial
    rotate_left 2
    rw [if_neg c5] at H;have c5b0 : ((bt a0 x3_1) == 47) = false := beq_eq_false_iff_ne.mpr c5;have c5b1 : ((bt a0 x3_1) != 47) = true := bne_iff_ne.mpr c5;have H' := As H;clear H;have p4 : 0 ≤ (x3_1 : Int) := dT hy;have q4 : x3_1 < (a0.size : Int) := dT hy;have hx4 := bt_at a0 x3_1;replace p4 := eq_true p4;replace q4 := eq_true q4
   rotate_left 3
   rw [if_neg c2] at H;have c2b0 : decide (x3_1 < (a0.size : Int)) = false := dN c2;clear c2;replace H := bE H;obtain ⟨t424, A140, H⟩ := H;replace H : (some t424) = some r := H;have A14 := As A140;clear A140;obtain rfl := Option.some.inj H
   all_goals try
    first | (clear m1_; have m1_ := trivial) | (clear m2_; have m2_ := trivial)
    go_wp2_with (first | ((with_reducible refine gate_callee (f := 28) rfl ?_); refine goesL_ (some 17) rfl rfl Tryz.func28 kr rfl #[.string (a0.extract 0 (x3_1 : Int).toNat)] rfl sa ?_; (with_reducible refine (bn9.calls k1 (a0.extract 0 (x3_1 : Int).toNat) _ _ A8.out).mono ?_); rintro e w' ⟨rfl, ⟨nd, rfl⟩⟩; refine ⟨_, rfl, ?_⟩) | (go_at_call 28; (with_reducible refine (bn9.calls k1 (a0.extract ((ji10) : Int).toNat a0.size) _ _ A13.out).mono ?_); rintro e w' ⟨rfl, ⟨nd, rfl⟩⟩))
    go_ret
   ·go_wp2_with (first | ((with_reducible refine gate_callee (f := 28) rfl ?_); refine goesL_ (some 26) rfl rfl Tryz.func28 kr rfl #[.string a0] rfl sa ?_; (with_reducible refine (bn9.calls k1 a0 _ _ A14.out).mono ?_); rintro e w' ⟨rfl, ⟨nd, rfl⟩⟩; refine ⟨_, rfl, ?_⟩))
    go_ret
    exact ⟨by first | rfl | (simp; done) | (simp [*]; done) | (simp; unfold wrap64; omega), by repeat (first | exact Drawn0.refl _ | apply Drawn0.step)⟩
   ·go_wp2
    go_roundg k1
    case measure => have := HK1.out; omega
    case rel => exact ⟨(wrap64 (x3_1 + 1)), sw, H', ⟨by have := HK1.out; omega⟩, by repeat (first | exact Drawn0.refl _ | apply Drawn0.step)⟩
   ·exact ⟨by first | rfl | (simp; done) | (simp [*]; done) | (simp; unfold wrap64; omega), by repeat (first | exact Drawn0.refl _ | apply Drawn0.step)⟩
   ·exact ⟨by first | rfl | (simp; done) | (simp only [← hji10] <;> (first | rfl | simp)) | (simp [*]; done), by repeat (first | exact Drawn0.refl _ | apply Drawn0.step)⟩

/-! ### qS: function 24 -/
def qS.l0 : Nat → ByteArray → List ByteArray → List ByteArray → Int → Option (Int × ByteArray)
 | 0, _, _, _, _ => none
 | k + 1, x0, x4, x5, x6 => if x6 < 10 then (if 0 ≤ x6 then (if x6 < (x4.length : Int) then (if (rdOf ByteArray.empty x4 x6).toList = x0.toList then (if x6 < (x5.length : Int) then (some (x6, rdOf ByteArray.empty x5 x6)) else (none)) else (qS.l0 k x0 x4 x5 (wrap64 (x6 + 1)))) else (none)) else (none)) else (some (0, (⟨#[]⟩ : ByteArray)))
def qS.f (k : Nat) (a0 : ByteArray) : Option (Int × ByteArray) := qS.l0 k a0 (([(⟨#[]⟩ : ByteArray), (⟨#[100, 111, 119, 110]⟩ : ByteArray), (⟨#[117, 110, 100, 111, 119, 110]⟩ : ByteArray), (⟨#[97, 99, 107]⟩ : ByteArray), (⟨#[117, 110, 97, 99, 107]⟩ : ByteArray), (⟨#[101, 110, 97, 98, 108, 101]⟩ : ByteArray), (⟨#[100, 105, 115, 97, 98, 108, 101]⟩ : ByteArray), (⟨#[99, 104, 101, 99, 107]⟩ : ByteArray), (⟨#[114, 101, 115, 117, 108, 116]⟩ : ByteArray), (⟨#[116, 101, 108, 108]⟩ : ByteArray)] : List ByteArray)) (([(⟨#[]⟩ : ByteArray), (⟨#[111, 109, 109, 102, 115, 110]⟩ : ByteArray), (⟨#[105]⟩ : ByteArray), (⟨#[111, 102]⟩ : ByteArray), (⟨#[111]⟩ : ByteArray), (⟨#[111, 98]⟩ : ByteArray), (⟨#[111, 98]⟩ : ByteArray), (⟨#[111, 109]⟩ : ByteArray), (⟨#[111, 120, 116]⟩ : ByteArray), (⟨#[111, 97, 116]⟩ : ByteArray)] : List ByteArray)) 1
theorem qS.mono_l : ∀ k, (∀ y0 y1 y2 y3, LeO (qS.l0 k y0 y1 y2 y3) (qS.l0 (k + 1) y0 y1 y2 y3))
 | 0 => fun _ _ _ _ r h => by simp [qS.l0] at h
 | k + 1 => by
  have ih0 := qS.mono_l k
  ·intro y0 y1 y2 y3;unfold qS.l0
   repeat' (with_reducible first|apply ih0|apply LeO.refl|apply LeO.none|refine LeO.ite ?_ ?_|refine LeO.bind ?_ (fun _=>?_))
theorem qS.mono : ∀ a0 k, LeO (qS.f k a0) (qS.f (k + 1) a0) := by
 intro a0 k;have ih0 := qS.mono_l k;unfold qS.f
 repeat' (with_reducible first|apply ih0|apply LeO.refl|apply LeO.none|refine LeO.ite ?_ ?_|refine LeO.bind ?_ (fun _=>?_))
set_option maxHeartbeats 8000000 in
set_option maxRecDepth 100000 in
theorem qS.calls (k : Nat) (a0 : ByteArray) (r1 : Int) (r2 : ByteArray) (w : World) (h : qS.f k a0 = some (r1, r2)) :
  Calls Tryz.prog 24 #[.string a0] w fun e w' => e = .returned (.tuple #[.int .i64 r1, .string r2]) ∧ Below w.heap.size w w' := by
 have HB := As (Below.refl w.heap.size w);have H : (qS.l0 k a0 (([(⟨#[]⟩ : ByteArray), (⟨#[100, 111, 119, 110]⟩ : ByteArray), (⟨#[117, 110, 100, 111, 119, 110]⟩ : ByteArray), (⟨#[97, 99, 107]⟩ : ByteArray), (⟨#[117, 110, 97, 99, 107]⟩ : ByteArray), (⟨#[101, 110, 97, 98, 108, 101]⟩ : ByteArray), (⟨#[100, 105, 115, 97, 98, 108, 101]⟩ : ByteArray), (⟨#[99, 104, 101, 99, 107]⟩ : ByteArray), (⟨#[114, 101, 115, 117, 108, 116]⟩ : ByteArray), (⟨#[116, 101, 108, 108]⟩ : ByteArray)] : List ByteArray)) (([(⟨#[]⟩ : ByteArray), (⟨#[111, 109, 109, 102, 115, 110]⟩ : ByteArray), (⟨#[105]⟩ : ByteArray), (⟨#[111, 102]⟩ : ByteArray), (⟨#[111]⟩ : ByteArray), (⟨#[111, 98]⟩ : ByteArray), (⟨#[111, 98]⟩ : ByteArray), (⟨#[111, 109]⟩ : ByteArray), (⟨#[111, 120, 116]⟩ : ByteArray), (⟨#[111, 97, 116]⟩ : ByteArray)] : List ByteArray)) 1) = some (r1, r2) := h;clear h
 obtain ⟨y427, hy427⟩ : ∃ y_ : List ByteArray, y_ = (([(⟨#[]⟩ : ByteArray), (⟨#[100, 111, 119, 110]⟩ : ByteArray), (⟨#[117, 110, 100, 111, 119, 110]⟩ : ByteArray), (⟨#[97, 99, 107]⟩ : ByteArray), (⟨#[117, 110, 97, 99, 107]⟩ : ByteArray), (⟨#[101, 110, 97, 98, 108, 101]⟩ : ByteArray), (⟨#[100, 105, 115, 97, 98, 108, 101]⟩ : ByteArray), (⟨#[99, 104, 101, 99, 107]⟩ : ByteArray), (⟨#[114, 101, 115, 117, 108, 116]⟩ : ByteArray), (⟨#[116, 101, 108, 108]⟩ : ByteArray)] : List ByteArray)) := ⟨_, rfl⟩
 replace H : (qS.l0 k a0 y427 (([(⟨#[]⟩ : ByteArray), (⟨#[111, 109, 109, 102, 115, 110]⟩ : ByteArray), (⟨#[105]⟩ : ByteArray), (⟨#[111, 102]⟩ : ByteArray), (⟨#[111]⟩ : ByteArray), (⟨#[111, 98]⟩ : ByteArray), (⟨#[111, 98]⟩ : ByteArray), (⟨#[111, 109]⟩ : ByteArray), (⟨#[111, 120, 116]⟩ : ByteArray), (⟨#[111, 97, 116]⟩ : ByteArray)] : List ByteArray)) 1) = some (r1, r2) := by first | (rw [hy427]; with_reducible exact H) | (have H2_ := (Option.bind_some _ _).symm.trans H; rw [hy427]; with_reducible exact H2_) | (have H2_ := (Option.bind_some _ _).symm.trans H; with_reducible exact H2_) | with_reducible exact H | (rw [hy427]; exact H) | exact H
 have Ny427 := As hy427;clear hy427
 obtain ⟨y430, hy430⟩ : ∃ y_ : List ByteArray, y_ = (([(⟨#[]⟩ : ByteArray), (⟨#[111, 109, 109, 102, 115, 110]⟩ : ByteArray), (⟨#[105]⟩ : ByteArray), (⟨#[111, 102]⟩ : ByteArray), (⟨#[111]⟩ : ByteArray), (⟨#[111, 98]⟩ : ByteArray), (⟨#[111, 98]⟩ : ByteArray), (⟨#[111, 109]⟩ : ByteArray), (⟨#[111, 120, 116]⟩ : ByteArray), (⟨#[111, 97, 116]⟩ : ByteArray)] : List ByteArray)) := ⟨_, rfl⟩
 replace H : (qS.l0 k a0 y427 y430 1) = some (r1, r2) := by first | (rw [hy430]; with_reducible exact H) | (have H2_ := (Option.bind_some _ _).symm.trans H; rw [hy430]; with_reducible exact H2_) | (have H2_ := (Option.bind_some _ _).symm.trans H; with_reducible exact H2_) | with_reducible exact H | (rw [hy430]; exact H) | exact H
 have Ny430 := As hy430;clear hy430;have H' := As H;clear H
 go_enter Tryz.func24, Tryz.ntmps24
 repeat ((fail_if_success (clear stop_)); go_wp2_with (first | ((with_reducible refine gate_dst (N := 7) rfl ?_); refine Kd.R_lit Kd.string _ 9 ?hg (N := 7) ?hd (xs := ([(⟨#[]⟩ : ByteArray), (⟨#[100, 111, 119, 110]⟩ : ByteArray), (⟨#[117, 110, 100, 111, 119, 110]⟩ : ByteArray), (⟨#[97, 99, 107]⟩ : ByteArray), (⟨#[117, 110, 97, 99, 107]⟩ : ByteArray), (⟨#[101, 110, 97, 98, 108, 101]⟩ : ByteArray), (⟨#[100, 105, 115, 97, 98, 108, 101]⟩ : ByteArray), (⟨#[99, 104, 101, 99, 107]⟩ : ByteArray), (⟨#[114, 101, 115, 117, 108, 116]⟩ : ByteArray), (⟨#[116, 101, 108, 108]⟩ : ByteArray)] : List ByteArray)) (inner := [.string (⟨#[]⟩ : ByteArray), .string (⟨#[100, 111, 119, 110]⟩ : ByteArray), .string (⟨#[117, 110, 100, 111, 119, 110]⟩ : ByteArray), .string (⟨#[97, 99, 107]⟩ : ByteArray), .string (⟨#[117, 110, 97, 99, 107]⟩ : ByteArray), .string (⟨#[101, 110, 97, 98, 108, 101]⟩ : ByteArray), .string (⟨#[100, 105, 115, 97, 98, 108, 101]⟩ : ByteArray), .string (⟨#[99, 104, 101, 99, 107]⟩ : ByteArray), .string (⟨#[114, 101, 115, 117, 108, 116]⟩ : ByteArray), .string (⟨#[116, 101, 108, 108]⟩ : ByteArray)]) (ok := fun _ => True) (okp := fun _ => True) ?hr ?hp (fun _ hk => hk) trivial (Below.refl _ _) (Nat.le_refl _) (by simp) ?_; (case hd => rfl); (case hg => rfl); (case hr => first | (go_simp; done) | (go_simp; rfl)); (case hp => exact (Reps.one (show Kd.M Kd.string _ _ _ (⟨#[]⟩ : ByteArray) [.string (⟨#[]⟩ : ByteArray)] from rfl) (Reps.one (show Kd.M Kd.string _ _ _ (⟨#[100, 111, 119, 110]⟩ : ByteArray) [.string (⟨#[100, 111, 119, 110]⟩ : ByteArray)] from rfl) (Reps.one (show Kd.M Kd.string _ _ _ (⟨#[117, 110, 100, 111, 119, 110]⟩ : ByteArray) [.string (⟨#[117, 110, 100, 111, 119, 110]⟩ : ByteArray)] from rfl) (Reps.one (show Kd.M Kd.string _ _ _ (⟨#[97, 99, 107]⟩ : ByteArray) [.string (⟨#[97, 99, 107]⟩ : ByteArray)] from rfl) (Reps.one (show Kd.M Kd.string _ _ _ (⟨#[117, 110, 97, 99, 107]⟩ : ByteArray) [.string (⟨#[117, 110, 97, 99, 107]⟩ : ByteArray)] from rfl) (Reps.one (show Kd.M Kd.string _ _ _ (⟨#[101, 110, 97, 98, 108, 101]⟩ : ByteArray) [.string (⟨#[101, 110, 97, 98, 108, 101]⟩ : ByteArray)] from rfl) (Reps.one (show Kd.M Kd.string _ _ _ (⟨#[100, 105, 115, 97, 98, 108, 101]⟩ : ByteArray) [.string (⟨#[100, 105, 115, 97, 98, 108, 101]⟩ : ByteArray)] from rfl) (Reps.one (show Kd.M Kd.string _ _ _ (⟨#[99, 104, 101, 99, 107]⟩ : ByteArray) [.string (⟨#[99, 104, 101, 99, 107]⟩ : ByteArray)] from rfl) (Reps.one (show Kd.M Kd.string _ _ _ (⟨#[114, 101, 115, 117, 108, 116]⟩ : ByteArray) [.string (⟨#[114, 101, 115, 117, 108, 116]⟩ : ByteArray)] from rfl) (Reps.one (show Kd.M Kd.string _ _ _ (⟨#[116, 101, 108, 108]⟩ : ByteArray) [.string (⟨#[116, 101, 108, 108]⟩ : ByteArray)] from rfl) (Reps.none _ _)))))))))))); intro v428 w2 ho3 hb hg_ hnew_; clear hg_ hnew_; (first | rw [← Ny427.out] at ho3 | (simp only [Int.reduceToNat] at ho3; rw [← Ny427.out] at ho3)); have HO429 := As (Kd.R_lower ho3 (XZ (be HB.out))); replace HB := As (XT (be HB.out) hb); clear hb ho3) | ((with_reducible refine gate_dst (N := 8) rfl ?_); refine Kd.R_lit Kd.string _ 9 ?hg (N := 8) ?hd (xs := ([(⟨#[]⟩ : ByteArray), (⟨#[111, 109, 109, 102, 115, 110]⟩ : ByteArray), (⟨#[105]⟩ : ByteArray), (⟨#[111, 102]⟩ : ByteArray), (⟨#[111]⟩ : ByteArray), (⟨#[111, 98]⟩ : ByteArray), (⟨#[111, 98]⟩ : ByteArray), (⟨#[111, 109]⟩ : ByteArray), (⟨#[111, 120, 116]⟩ : ByteArray), (⟨#[111, 97, 116]⟩ : ByteArray)] : List ByteArray)) (inner := [.string (⟨#[]⟩ : ByteArray), .string (⟨#[111, 109, 109, 102, 115, 110]⟩ : ByteArray), .string (⟨#[105]⟩ : ByteArray), .string (⟨#[111, 102]⟩ : ByteArray), .string (⟨#[111]⟩ : ByteArray), .string (⟨#[111, 98]⟩ : ByteArray), .string (⟨#[111, 98]⟩ : ByteArray), .string (⟨#[111, 109]⟩ : ByteArray), .string (⟨#[111, 120, 116]⟩ : ByteArray), .string (⟨#[111, 97, 116]⟩ : ByteArray)]) (ok := fun _ => True) (okp := fun _ => True) ?hr ?hp (fun _ hk => hk) trivial (Below.refl _ _) (Nat.le_refl _) (by simp) ?_; (case hd => rfl); (case hg => rfl); (case hr => first | (go_simp; done) | (go_simp; rfl)); (case hp => exact (Reps.one (show Kd.M Kd.string _ _ _ (⟨#[]⟩ : ByteArray) [.string (⟨#[]⟩ : ByteArray)] from rfl) (Reps.one (show Kd.M Kd.string _ _ _ (⟨#[111, 109, 109, 102, 115, 110]⟩ : ByteArray) [.string (⟨#[111, 109, 109, 102, 115, 110]⟩ : ByteArray)] from rfl) (Reps.one (show Kd.M Kd.string _ _ _ (⟨#[105]⟩ : ByteArray) [.string (⟨#[105]⟩ : ByteArray)] from rfl) (Reps.one (show Kd.M Kd.string _ _ _ (⟨#[111, 102]⟩ : ByteArray) [.string (⟨#[111, 102]⟩ : ByteArray)] from rfl) (Reps.one (show Kd.M Kd.string _ _ _ (⟨#[111]⟩ : ByteArray) [.string (⟨#[111]⟩ : ByteArray)] from rfl) (Reps.one (show Kd.M Kd.string _ _ _ (⟨#[111, 98]⟩ : ByteArray) [.string (⟨#[111, 98]⟩ : ByteArray)] from rfl) (Reps.one (show Kd.M Kd.string _ _ _ (⟨#[111, 98]⟩ : ByteArray) [.string (⟨#[111, 98]⟩ : ByteArray)] from rfl) (Reps.one (show Kd.M Kd.string _ _ _ (⟨#[111, 109]⟩ : ByteArray) [.string (⟨#[111, 109]⟩ : ByteArray)] from rfl) (Reps.one (show Kd.M Kd.string _ _ _ (⟨#[111, 120, 116]⟩ : ByteArray) [.string (⟨#[111, 120, 116]⟩ : ByteArray)] from rfl) (Reps.one (show Kd.M Kd.string _ _ _ (⟨#[111, 97, 116]⟩ : ByteArray) [.string (⟨#[111, 97, 116]⟩ : ByteArray)] from rfl) (Reps.none _ _)))))))))))); intro v431 w4 ho5 hb hg_ hnew_; clear hg_ hnew_; (first | rw [← Ny430.out] at ho5 | (simp only [Int.reduceToNat] at ho5; rw [← Ny430.out] at ho5)); have HO432 := As (Kd.R_lower (Kd.R_new' ho5 (Kd.R_lt (ro HO429.out))) (XZ (be HB.out))); replace HO429 := As (Kd.R_elder' (ro HO429.out) (Kd.R_base ho5) hb); replace HB := As (XT (be HB.out) hb); clear hb ho5)); first | go_quiet (first | ((with_reducible refine gate_dst (N := 7) rfl ?_); refine Kd.R_lit Kd.string _ 9 ?hg (N := 7) ?hd (xs := ([(⟨#[]⟩ : ByteArray), (⟨#[100, 111, 119, 110]⟩ : ByteArray), (⟨#[117, 110, 100, 111, 119, 110]⟩ : ByteArray), (⟨#[97, 99, 107]⟩ : ByteArray), (⟨#[117, 110, 97, 99, 107]⟩ : ByteArray), (⟨#[101, 110, 97, 98, 108, 101]⟩ : ByteArray), (⟨#[100, 105, 115, 97, 98, 108, 101]⟩ : ByteArray), (⟨#[99, 104, 101, 99, 107]⟩ : ByteArray), (⟨#[114, 101, 115, 117, 108, 116]⟩ : ByteArray), (⟨#[116, 101, 108, 108]⟩ : ByteArray)] : List ByteArray)) (inner := [.string (⟨#[]⟩ : ByteArray), .string (⟨#[100, 111, 119, 110]⟩ : ByteArray), .string (⟨#[117, 110, 100, 111, 119, 110]⟩ : ByteArray), .string (⟨#[97, 99, 107]⟩ : ByteArray), .string (⟨#[117, 110, 97, 99, 107]⟩ : ByteArray), .string (⟨#[101, 110, 97, 98, 108, 101]⟩ : ByteArray), .string (⟨#[100, 105, 115, 97, 98, 108, 101]⟩ : ByteArray), .string (⟨#[99, 104, 101, 99, 107]⟩ : ByteArray), .string (⟨#[114, 101, 115, 117, 108, 116]⟩ : ByteArray), .string (⟨#[116, 101, 108, 108]⟩ : ByteArray)]) (ok := fun _ => True) (okp := fun _ => True) ?hr ?hp (fun _ hk => hk) trivial (Below.refl _ _) (Nat.le_refl _) (by simp) ?_; (case hd => rfl); (case hg => rfl); (case hr => first | (go_simp; done) | (go_simp; rfl)); (case hp => exact (Reps.one (show Kd.M Kd.string _ _ _ (⟨#[]⟩ : ByteArray) [.string (⟨#[]⟩ : ByteArray)] from rfl) (Reps.one (show Kd.M Kd.string _ _ _ (⟨#[100, 111, 119, 110]⟩ : ByteArray) [.string (⟨#[100, 111, 119, 110]⟩ : ByteArray)] from rfl) (Reps.one (show Kd.M Kd.string _ _ _ (⟨#[117, 110, 100, 111, 119, 110]⟩ : ByteArray) [.string (⟨#[117, 110, 100, 111, 119, 110]⟩ : ByteArray)] from rfl) (Reps.one (show Kd.M Kd.string _ _ _ (⟨#[97, 99, 107]⟩ : ByteArray) [.string (⟨#[97, 99, 107]⟩ : ByteArray)] from rfl) (Reps.one (show Kd.M Kd.string _ _ _ (⟨#[117, 110, 97, 99, 107]⟩ : ByteArray) [.string (⟨#[117, 110, 97, 99, 107]⟩ : ByteArray)] from rfl) (Reps.one (show Kd.M Kd.string _ _ _ (⟨#[101, 110, 97, 98, 108, 101]⟩ : ByteArray) [.string (⟨#[101, 110, 97, 98, 108, 101]⟩ : ByteArray)] from rfl) (Reps.one (show Kd.M Kd.string _ _ _ (⟨#[100, 105, 115, 97, 98, 108, 101]⟩ : ByteArray) [.string (⟨#[100, 105, 115, 97, 98, 108, 101]⟩ : ByteArray)] from rfl) (Reps.one (show Kd.M Kd.string _ _ _ (⟨#[99, 104, 101, 99, 107]⟩ : ByteArray) [.string (⟨#[99, 104, 101, 99, 107]⟩ : ByteArray)] from rfl) (Reps.one (show Kd.M Kd.string _ _ _ (⟨#[114, 101, 115, 117, 108, 116]⟩ : ByteArray) [.string (⟨#[114, 101, 115, 117, 108, 116]⟩ : ByteArray)] from rfl) (Reps.one (show Kd.M Kd.string _ _ _ (⟨#[116, 101, 108, 108]⟩ : ByteArray) [.string (⟨#[116, 101, 108, 108]⟩ : ByteArray)] from rfl) (Reps.none _ _)))))))))))); intro v428 w2 ho3 hb hg_ hnew_; clear hg_ hnew_; (first | rw [← Ny427.out] at ho3 | (simp only [Int.reduceToNat] at ho3; rw [← Ny427.out] at ho3)); have HO429 := As (Kd.R_lower ho3 (XZ (be HB.out))); replace HB := As (XT (be HB.out) hb); clear hb ho3) | ((with_reducible refine gate_dst (N := 8) rfl ?_); refine Kd.R_lit Kd.string _ 9 ?hg (N := 8) ?hd (xs := ([(⟨#[]⟩ : ByteArray), (⟨#[111, 109, 109, 102, 115, 110]⟩ : ByteArray), (⟨#[105]⟩ : ByteArray), (⟨#[111, 102]⟩ : ByteArray), (⟨#[111]⟩ : ByteArray), (⟨#[111, 98]⟩ : ByteArray), (⟨#[111, 98]⟩ : ByteArray), (⟨#[111, 109]⟩ : ByteArray), (⟨#[111, 120, 116]⟩ : ByteArray), (⟨#[111, 97, 116]⟩ : ByteArray)] : List ByteArray)) (inner := [.string (⟨#[]⟩ : ByteArray), .string (⟨#[111, 109, 109, 102, 115, 110]⟩ : ByteArray), .string (⟨#[105]⟩ : ByteArray), .string (⟨#[111, 102]⟩ : ByteArray), .string (⟨#[111]⟩ : ByteArray), .string (⟨#[111, 98]⟩ : ByteArray), .string (⟨#[111, 98]⟩ : ByteArray), .string (⟨#[111, 109]⟩ : ByteArray), .string (⟨#[111, 120, 116]⟩ : ByteArray), .string (⟨#[111, 97, 116]⟩ : ByteArray)]) (ok := fun _ => True) (okp := fun _ => True) ?hr ?hp (fun _ hk => hk) trivial (Below.refl _ _) (Nat.le_refl _) (by simp) ?_; (case hd => rfl); (case hg => rfl); (case hr => first | (go_simp; done) | (go_simp; rfl)); (case hp => exact (Reps.one (show Kd.M Kd.string _ _ _ (⟨#[]⟩ : ByteArray) [.string (⟨#[]⟩ : ByteArray)] from rfl) (Reps.one (show Kd.M Kd.string _ _ _ (⟨#[111, 109, 109, 102, 115, 110]⟩ : ByteArray) [.string (⟨#[111, 109, 109, 102, 115, 110]⟩ : ByteArray)] from rfl) (Reps.one (show Kd.M Kd.string _ _ _ (⟨#[105]⟩ : ByteArray) [.string (⟨#[105]⟩ : ByteArray)] from rfl) (Reps.one (show Kd.M Kd.string _ _ _ (⟨#[111, 102]⟩ : ByteArray) [.string (⟨#[111, 102]⟩ : ByteArray)] from rfl) (Reps.one (show Kd.M Kd.string _ _ _ (⟨#[111]⟩ : ByteArray) [.string (⟨#[111]⟩ : ByteArray)] from rfl) (Reps.one (show Kd.M Kd.string _ _ _ (⟨#[111, 98]⟩ : ByteArray) [.string (⟨#[111, 98]⟩ : ByteArray)] from rfl) (Reps.one (show Kd.M Kd.string _ _ _ (⟨#[111, 98]⟩ : ByteArray) [.string (⟨#[111, 98]⟩ : ByteArray)] from rfl) (Reps.one (show Kd.M Kd.string _ _ _ (⟨#[111, 109]⟩ : ByteArray) [.string (⟨#[111, 109]⟩ : ByteArray)] from rfl) (Reps.one (show Kd.M Kd.string _ _ _ (⟨#[111, 120, 116]⟩ : ByteArray) [.string (⟨#[111, 120, 116]⟩ : ByteArray)] from rfl) (Reps.one (show Kd.M Kd.string _ _ _ (⟨#[111, 97, 116]⟩ : ByteArray) [.string (⟨#[111, 97, 116]⟩ : ByteArray)] from rfl) (Reps.none _ _)))))))))))); intro v431 w4 ho5 hb hg_ hnew_; clear hg_ hnew_; (first | rw [← Ny430.out] at ho5 | (simp only [Int.reduceToNat] at ho5; rw [← Ny430.out] at ho5)); have HO432 := As (Kd.R_lower (Kd.R_new' ho5 (Kd.R_lt (ro HO429.out))) (XZ (be HB.out))); replace HO429 := As (Kd.R_elder' (ro HO429.out) (Kd.R_base ho5) hb); replace HB := As (XT (be HB.out) hb); clear hb ho5)) | have stop_ := trivial)
 clear stop_
 go_loopg [6] k (fun kq v6 w' => ∃ (x6_1 : Int), v6 = .int .i64 x6_1 ∧ Aside0 (qS.l0 kq a0 y427 y430 x6_1 = some (r1, r2)) ∧ Aside0 (kq ≤ k) ∧ Aside0 (Kd.R Kd.string 9 w' w.heap.size (fun k_ => some k_ ≠ (v431 : Value).ownBlock) v428 y427) ∧ Aside0 (Kd.R Kd.string 9 w' w.heap.size (fun k_ => some k_ ≠ (v428 : Value).ownBlock) v431 y430) ∧ Aside0 (Below w.heap.size w w'))
 case atStart => exact ⟨(1), sw, H', ⟨Nat.le_refl _⟩, ⟨by (with_reducible repeat (first | apply RA | apply RN | apply RD)); exact RM HO429.out (fun _ hk => hk.2)⟩, ⟨by (with_reducible repeat (first | apply RA | apply RN | apply RD)); exact RM HO432.out (fun _ hk => hk.2)⟩, ⟨by repeat (first | (with_reducible first | exact HB.out | apply XA | apply XN | apply XD) | exact HB.out)⟩⟩
 case round =>
  clear H'
  try clear c2
  try clear p2
  obtain ⟨x6_1, rfl, HA, HK1, HO_4, HO_5, HB⟩ := hrel
  cases gk with
  | zero => exact absurd HA.out (by simp [qS.l0])
  | succ k1 =>
   have H := HA.out;clear HA;simp only [qS.l0] at H
   by_cases c6 : x6_1 < 10
   focus
    rw [if_pos c6] at H;have c6b0 : decide (x6_1 < 10) = true := dY c6;clear c6
    by_cases c7 : 0 ≤ x6_1
    rotate_left
    ·rw [if_neg c7] at H;exact absurd H (by simp)
    rw [if_pos c7] at H;have c7b0 : decide (0 ≤ x6_1) = true := dY c7;clear c7
    by_cases c8 : x6_1 < (y427.length : Int)
    rotate_left
    ·rw [if_neg c8] at H;exact absurd H (by simp)
    rw [if_pos c8] at H;have c8b0 : decide (x6_1 < (y427.length : Int)) = true := dY c8;clear c8
    by_cases c9 : (rdOf ByteArray.empty y427 x6_1).toList = a0.toList
    focus
     rw [if_pos c9] at H;have c9b0 : ((rdOf ByteArray.empty y427 x6_1).toList == a0.toList) = true := beq_iff_eq.mpr c9;have c9b1 : ((rdOf ByteArray.empty y427 x6_1).toList != a0.toList) = false := bne_eq_false_iff_eq.mpr c9;clear c9
     by_cases c10 : x6_1 < (y430.length : Int)
     rotate_left
     ·rw [if_neg c10] at H;exact absurd H (by simp)
     rw [if_pos c10] at H;have c10b0 : decide (x6_1 < (y430.length : Int)) = true := dY c10;clear c10;simp only [Option.some.injEq, Prod.mk.injEq] at H;obtain ⟨rfl, rfl⟩ := H;obtain ⟨Ao11, co11, eo11⟩ := Kd.R_slice HO_4.out;subst eo11;have p433 : 0 ≤ (x6_1 : Int) := dT hy;have q433 : x6_1 < (y427.length : Int) := dT hy;obtain ⟨ad433, e433, hx433_0⟩ := Kd.at_string (RR HO_4.out).2.2 x6_1 p433 q433
     cases e433
     replace p433 := eq_true p433;replace q433 := eq_true q433;obtain ⟨Ao12, co12, eo12⟩ := Kd.R_slice HO_5.out;subst eo12;have p434 : 0 ≤ (x6_1 : Int) := dT hy;have q434 : x6_1 < (y430.length : Int) := dT hy;obtain ⟨ad434, e434, hx434_0⟩ := Kd.at_string (RR HO_5.out).2.2 x6_1 p434 q434
     cases e434
     replace p434 := eq_true p434;replace q434 := eq_true q434
     have m2_ := trivial
    rotate_left
    rw [if_neg c9] at H;have c9b0 : ((rdOf ByteArray.empty y427 x6_1).toList == a0.toList) = false := beq_eq_false_iff_ne.mpr c9;have c9b1 : ((rdOf ByteArray.empty y427 x6_1).toList != a0.toList) = true := bne_iff_ne.mpr c9;have H' := As H;clear H;obtain ⟨Ao13, co13, eo13⟩ := Kd.R_slice HO_4.out;subst eo13;have p433 : 0 ≤ (x6_1 : Int) := dT hy;have q433 : x6_1 < (y427.length : Int) := dT hy;obtain ⟨ad433, e433, hx433_0⟩ := Kd.at_string (RR HO_4.out).2.2 x6_1 p433 q433
    cases e433
    replace p433 := eq_true p433;replace q433 := eq_true q433
   rotate_left 2
   rw [if_neg c6] at H;have c6b0 : decide (x6_1 < 10) = false := dN c6;clear c6;simp only [Option.some.injEq, Prod.mk.injEq] at H;obtain ⟨rfl, rfl⟩ := H
   have m1_ := trivial
   all_goals
    go_wp2
    repeat (go_quiet (fail); try go_wp2)
   all_goals try
    first | (clear m1_; have m1_ := trivial) | (clear m2_; have m2_ := trivial)
    go_ret2
    exact ⟨by first | rfl | (simp [errW_none, errW_some] <;> rfl) | (simp [*, errW_none, errW_some] <;> rfl), by repeat (first | (with_reducible first | exact HB.out | apply XA | apply XN | apply XD) | exact HB.out)⟩
   ·go_roundg k1
    case measure => have := HK1.out; omega
    case rel => exact ⟨(wrap64 (x6_1 + 1)), sw, H', ⟨by have := HK1.out; omega⟩, ⟨by (with_reducible repeat (first | apply RA | apply RN | apply RD)); exact HO_4.out⟩, ⟨by (with_reducible repeat (first | apply RA | apply RN | apply RD)); exact HO_5.out⟩, ⟨by repeat (first | (with_reducible first | exact HB.out | apply XA | apply XN | apply XD) | exact HB.out)⟩⟩

end Go.Proofs.YtdakfmldbddokaaGreatDoor.P
-- SHRUNK
-- PACKED
-- PACKED2
