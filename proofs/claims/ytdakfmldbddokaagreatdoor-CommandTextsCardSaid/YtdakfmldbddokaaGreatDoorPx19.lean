-- written by myprint.py (this claim's own program, after the kit's print)
import Derived.Test.YtdakfmldbddokaaGreatDoorPx0
import Derived.Test.YtdakfmldbddokaaGreatDoorPx16
import Derived.Test.YtdakfmldbddokaaGreatDoorPx16
import Derived.Test.YtdakfmldbddokaaGreatDoorPack
namespace Go.Proofs.YtdakfmldbddokaaGreatDoor.P
open Go.RowKit Go.Proofs.YtdakfmldbddokaaGreatDoorW.PrintWords Go.Proofs.YtdakfmldbddokaaGreatDoorW.PrintLast Go.Proofs.YtdakfmldbddokaaGreatDoorW.PrintMore
attribute [local go_sem] max2_int min2_int max_two min_two max_three min_three max_four min_four   -- for this text's walks alone
set_option linter.unusedVariables false
set_option linter.unusedSimpArgs false

/-! ### vL: function 29 -/
mutual
def vL.j0 : Nat → Int → ByteArray → Bool → Option (ByteArray × Int)
 | 0, _, _, _ => none
 | k + 1, x0, x1, x19 => if x19 = true then (some ((⟨#[]⟩ : ByteArray), 1)) else (vL.l0 k x0 x1 (⟨#[]⟩ : ByteArray) 0)
def vL.l0 : Nat → Int → ByteArray → ByteArray → Int → Option (ByteArray × Int)
 | 0, _, _, _, _ => none
 | k + 1, x0, x1, x6, x7 => if x7 < (x1.size : Int) then (if (Int.tmod x0 2) = 1 then (if x6.size + 1 ≤ 9223372036854775807 then (if 0 ≤ x7 then (if x7 ≤ (wrap64 (x7 + 1)) then (if (wrap64 (x7 + 1)) ≤ (x1.size : Int) then (if (x6 ++ (⟨#[44]⟩ : ByteArray)).size + (x1.extract (x7 : Int).toNat ((wrap64 (x7 + 1)) : Int).toNat).size ≤ 9223372036854775807 then (vL.l0 k (wrap64 (Int.tdiv x0 2)) x1 ((x6 ++ (⟨#[44]⟩ : ByteArray)) ++ (x1.extract (x7 : Int).toNat ((wrap64 (x7 + 1)) : Int).toNat)) (wrap64 (x7 + 1))) else (none)) else (none)) else (none)) else (none)) else (none)) else (vL.l0 k (wrap64 (Int.tdiv x0 2)) x1 x6 (wrap64 (x7 + 1)))) else (if x0 > 0 then (some ((⟨#[]⟩ : ByteArray), 1)) else (if x6.toList = ([] : List UInt8) then (some ((⟨#[110]⟩ : ByteArray), 0)) else (if 1 ≤ (x6.size : Int) then (some (x6.extract 1 x6.size, 0)) else (none))))
end
def vL.f (k : Nat) (a0 : Int) (a1 : ByteArray) : Option (ByteArray × Int) := (vM.f k a1).bind fun t545 => (if t545 = true then ((vAt.f k a1 110).bind fun t546 => (if t546 ≥ 0 then (vL.j0 k a0 a1 true) else (vL.j0 k a0 a1 (decide (a0 < 0))))) else (vL.j0 k a0 a1 true))
theorem vL.mono_l : ∀ k, (∀ y0 y1 y2, LeO (vL.j0 k y0 y1 y2) (vL.j0 (k + 1) y0 y1 y2)) ∧ (∀ y0 y1 y2 y3, LeO (vL.l0 k y0 y1 y2 y3) (vL.l0 (k + 1) y0 y1 y2 y3))
 | 0 => ⟨fun _ _ _ r h => by simp [vL.j0] at h, fun _ _ _ _ r h => by simp [vL.l0] at h⟩
 | k + 1 => by
  obtain ⟨ih0, ih1⟩ := vL.mono_l k;refine ⟨?_, ?_⟩
  ·intro y0 y1 y2;unfold vL.j0
   repeat' (with_reducible first|apply ih0|apply ih1|apply vM.mono|apply vAt.mono|apply LeO.refl|apply LeO.none|refine LeO.ite ?_ ?_|refine LeO.bind ?_ (fun _=>?_))
  ·intro y0 y1 y2 y3;unfold vL.l0
   repeat' (with_reducible first|apply ih0|apply ih1|apply vM.mono|apply vAt.mono|apply LeO.refl|apply LeO.none|refine LeO.ite ?_ ?_|refine LeO.bind ?_ (fun _=>?_))
theorem vL.mono : ∀ a0 a1 k, LeO (vL.f k a0 a1) (vL.f (k + 1) a0 a1) := by
 intro a0 a1 k;obtain ⟨ih0, ih1⟩ := vL.mono_l k;unfold vL.f
 repeat' (with_reducible first|apply ih0|apply ih1|apply vM.mono|apply vAt.mono|apply LeO.refl|apply LeO.none|refine LeO.ite ?_ ?_|refine LeO.bind ?_ (fun _=>?_))
set_option maxHeartbeats 8000000 in
set_option maxRecDepth 100000 in
theorem vL.calls (k : Nat) (a0 : Int) (a1 : ByteArray) (r1 : ByteArray) (r2 : Int) (w : World) (h : vL.f k a0 a1 = some (r1, r2)) :
  Calls Tryz.prog 29 #[.int .i64 a0, .string a1] w fun e w' => e = .returned (.tuple #[.string r1, .int .i64 r2]) ∧ Drawn0 w w' := by
 have H : ((vM.f k a1).bind fun t545 => (if t545 = true then ((vAt.f k a1 110).bind fun t546 => (if t546 ≥ 0 then (vL.j0 k a0 a1 true) else (vL.j0 k a0 a1 (decide (a0 < 0))))) else (vL.j0 k a0 a1 true))) = some (r1, r2) := h;clear h;have HC3 := As H;clear H
 go_enter Tryz.func29, Tryz.ntmps29
 go_upto_region 1 with (fail)
 go_cut [19] (fun v19 wc => ∃ (kq : Nat) (x19_2 : Bool), v19 = .bool x19_2 ∧ Aside0 (vL.j0 kq a0 a1 x19_2 = some (r1, r2)) ∧ Aside0 (kq ≤ k) ∧ Drawn0 w wc)
 case first =>
  have H := HC3.out;clear HC3;replace H := bE H;obtain ⟨t545, A40, H⟩ := H;replace H : (if t545 = true then ((vAt.f k a1 110).bind fun t546 => (if t546 ≥ 0 then (vL.j0 k a0 a1 true) else (vL.j0 k a0 a1 (decide (a0 < 0))))) else (vL.j0 k a0 a1 true)) = some (r1, r2) := H;have A4 := As A40;clear A40
  by_cases c5 : t545 = true
  focus
   subst c5
   have H1 : ((vAt.f k a1 110).bind fun t546 => (if t546 ≥ 0 then (vL.j0 k a0 a1 true) else (vL.j0 k a0 a1 (decide (a0 < 0))))) = some (r1, r2) := by rw [if_pos rfl] at H; exact H
   clear H;have H := H1;clear H1;replace H := bE H;obtain ⟨t546, A60, H⟩ := H;replace H : (if t546 ≥ 0 then (vL.j0 k a0 a1 true) else (vL.j0 k a0 a1 (decide (a0 < 0)))) = some (r1, r2) := H;have A6 := As A60;clear A60
   by_cases c7 : t546 ≥ 0
   rw [if_pos c7] at H;have c7b0 : decide (0 ≤ t546) = true := dY c7;clear c7
   (first | rw [c7b0] | (simp only [i64_w, i32_w]; rw [c7b0]) | skip)
   have H' := As H;clear H
   have m2_ := trivial
   rotate_left
   rw [if_neg c7] at H;have c7b0 : decide (0 ≤ t546) = false := dN c7;clear c7
   (first | rw [c7b0] | (simp only [i64_w, i32_w]; rw [c7b0]) | skip)
   have H' := As H;clear H
  rotate_left 2
  replace c5 := Bool.eq_false_iff.mpr c5;subst c5
  have H1 : (vL.j0 k a0 a1 true) = some (r1, r2) := by rw [if_neg (show ¬ (false = true) by decide)] at H; exact H
  clear H;have H := H1;clear H1;have H' := As H;clear H
  have m1_ := trivial
  all_goals
   go_wp2_with (first | ((with_reducible refine gate_callee (f := 52) rfl ?_); refine goesL_ (some 9) rfl rfl Tryz.func52 kr rfl #[.string a1] rfl sa ?_; (with_reducible refine (vM.calls k a1 _ _ A4.out).mono ?_); rintro e w' ⟨rfl, ⟨nd, rfl⟩⟩; refine ⟨_, rfl, ?_⟩) | (go_at_call 53; (with_reducible refine (vAt.calls k a1 110 _ _ A6.out).mono ?_); rintro e w' ⟨rfl, ⟨nd, rfl⟩⟩))
   go_meet
  all_goals try
   first | (clear m1_; have m1_ := trivial) | (clear m2_; have m2_ := trivial)
   case rel => exact ⟨_, (true), sw, H', ⟨by first | omega | exact Nat.le_refl _⟩, by repeat (first | exact Drawn0.refl _ | apply Drawn0.step)⟩
  ·case rel => exact ⟨_, (decide (a0 < 0)), sw, H', ⟨by first | omega | exact Nat.le_refl _⟩, by repeat (first | exact Drawn0.refl _ | apply Drawn0.step)⟩
 case rest =>
  clear HC3
  try clear c2
  try clear p2
  try clear c5
  try clear p6
  try clear c7
  try clear c7b0
  obtain ⟨kq, x19_2, rfl, HA, HJ2, ⟨mc2, rfl⟩⟩ := hcut
  cases kq with
  | zero => exact absurd HA.out (by simp [vL.j0])
  | succ kj2 =>
   have H := HA.out;clear HA;simp only [vL.j0] at H
   by_cases c8 : x19_2 = true
   ·subst c8
    have H1 : (some ((⟨#[]⟩ : ByteArray), 1)) = some (r1, r2) := by rw [if_pos rfl] at H; exact H
    clear H;have H := H1;clear H1;simp only [Option.some.injEq, Prod.mk.injEq] at H;obtain ⟨rfl, rfl⟩ := H
    go_wp2
    go_ret2
    exact ⟨by first | rfl | (simp; done) | (simp [*]; done) | (simp; unfold wrap64; omega), by repeat (first | exact Drawn0.refl _ | apply Drawn0.step)⟩
   ·replace c8 := Bool.eq_false_iff.mpr c8;subst c8
    have H1 : (vL.l0 kj2 a0 a1 (⟨#[]⟩ : ByteArray) 0) = some (r1, r2) := by rw [if_neg (show ¬ (false = true) by decide)] at H; exact H
    clear H;have H := H1;clear H1;have H' := As H;clear H
    go_wp2
    go_loopg [0, 6, 7] kj2 (fun kq v0 v6 v7 w' => ∃ (x0_2 : Int) (x6_2 : ByteArray) (x7_2 : Int), v0 = .int .i64 x0_2 ∧ v6 = .string x6_2 ∧ v7 = .int .i64 x7_2 ∧ Aside0 (vL.l0 kq x0_2 a1 x6_2 x7_2 = some (r1, r2)) ∧ Aside0 (kq ≤ kj2) ∧ Drawn0 w w')
    case atStart => exact ⟨(a0), ((⟨#[]⟩ : ByteArray)), (0), sw, sw, sw, H', ⟨Nat.le_refl _⟩, by repeat (first | exact Drawn0.refl _ | apply Drawn0.step)⟩
    case round =>
     clear H'
     try clear c2
     try clear p2
     try clear c5
     try clear p6
     try clear c7
     try clear c7b0
     try clear c8
     try clear p2
     try clear p6
     obtain ⟨x0_2, x6_2, x7_2, rfl, rfl, rfl, HA, HK2, ⟨m2, rfl⟩⟩ := hrel
     cases gk with
     | zero => exact absurd HA.out (by simp [vL.l0])
     | succ k2 =>
      have H := HA.out;clear HA;simp only [vL.l0] at H
      by_cases c9 : x7_2 < (a1.size : Int)
      focus
       rw [if_pos c9] at H;have c9b0 : decide (x7_2 < (a1.size : Int)) = true := dY c9;clear c9
       by_cases c10 : (Int.tmod x0_2 2) = 1
       focus
        rw [if_pos c10] at H;have c10b0 : ((Int.tmod x0_2 2) == 1) = true := beq_iff_eq.mpr c10;have c10b1 : ((Int.tmod x0_2 2) != 1) = false := bne_eq_false_iff_eq.mpr c10;clear c10
        by_cases c11 : x6_2.size + 1 ≤ 9223372036854775807
        rotate_left
        ·rw [if_neg c11] at H;exact absurd H (by simp)
        rw [if_pos c11] at H;have c11b0 := eq_true c11;have c11b1 : decide (x6_2.size + 1 ≤ 9223372036854775807) = true := dY c11
        try have c11b2 : (9223372036854775807 < x6_2.size + 1) = False := eq_false (Nat.not_lt.2 c11)
        by_cases c12 : 0 ≤ x7_2
        rotate_left
        ·rw [if_neg c12] at H;exact absurd H (by simp)
        rw [if_pos c12] at H;have c12b0 := eq_true c12;have c12b1 : decide (0 ≤ x7_2) = true := dY c12;clear c12
        by_cases c13 : x7_2 ≤ (wrap64 (x7_2 + 1))
        rotate_left
        ·rw [if_neg c13] at H;exact absurd H (by simp)
        rw [if_pos c13] at H;have c13b0 := eq_true c13;have c13b1 : decide (x7_2 ≤ (wrap64 (x7_2 + 1))) = true := dY c13
        by_cases c14 : (wrap64 (x7_2 + 1)) ≤ (a1.size : Int)
        rotate_left
        ·rw [if_neg c14] at H;exact absurd H (by simp)
        rw [if_pos c14] at H;have c14b0 := eq_true c14;have c14b1 : decide ((wrap64 (x7_2 + 1)) ≤ (a1.size : Int)) = true := dY c14
        by_cases c15 : (x6_2 ++ (⟨#[44]⟩ : ByteArray)).size + (a1.extract (x7_2 : Int).toNat ((wrap64 (x7_2 + 1)) : Int).toNat).size ≤ 9223372036854775807
        rotate_left
        ·rw [if_neg c15] at H;exact absurd H (by simp)
        rw [if_pos c15] at H;have c15b0 := eq_true c15;have c15b1 : decide ((x6_2 ++ (⟨#[44]⟩ : ByteArray)).size + (a1.extract (x7_2 : Int).toNat ((wrap64 (x7_2 + 1)) : Int).toNat).size ≤ 9223372036854775807) = true := dY c15
        try have c15b2 : (9223372036854775807 < (x6_2 ++ (⟨#[44]⟩ : ByteArray)).size + (a1.extract (x7_2 : Int).toNat ((wrap64 (x7_2 + 1)) : Int).toNat).size) = False := eq_false (Nat.not_lt.2 c15)
        have H' := As H;clear H
        have m4_ := trivial
       rotate_left
       rw [if_neg c10] at H;have c10b0 : ((Int.tmod x0_2 2) == 1) = false := beq_eq_false_iff_ne.mpr c10;have c10b1 : ((Int.tmod x0_2 2) != 1) = true := bne_iff_ne.mpr c10;have H' := As H;clear H
       have m3_ := trivial
      rotate_left 2
      focus
       rw [if_neg c9] at H;have c9b0 : decide (x7_2 < (a1.size : Int)) = false := dN c9;clear c9
       by_cases c16 : x0_2 > 0
       rw [if_pos c16] at H;have c16b0 : decide (0 < x0_2) = true := dY c16;clear c16;simp only [Option.some.injEq, Prod.mk.injEq] at H;obtain ⟨rfl, rfl⟩ := H
       have m7_ := trivial
       rotate_left
       focus
        rw [if_neg c16] at H;have c16b0 : decide (0 < x0_2) = false := dN c16;clear c16
        by_cases c17 : x6_2.toList = ([] : List UInt8)
        rw [if_pos c17] at H;have c17b0 : (x6_2.toList == ([] : List UInt8)) = true := beq_iff_eq.mpr c17;have c17b1 : (x6_2.toList != ([] : List UInt8)) = false := bne_eq_false_iff_eq.mpr c17;clear c17;simp only [Option.some.injEq, Prod.mk.injEq] at H;obtain ⟨rfl, rfl⟩ := H
        have m6_ := trivial
        rotate_left
        focus
         rw [if_neg c17] at H;have c17b0 : (x6_2.toList == ([] : List UInt8)) = false := beq_eq_false_iff_ne.mpr c17;have c17b1 : (x6_2.toList != ([] : List UInt8)) = true := bne_iff_ne.mpr c17
         by_cases c18 : 1 ≤ (x6_2.size : Int)
         rotate_left
         ·rw [if_neg c18] at H;exact absurd H (by simp)
         rw [if_pos c18] at H;have c18b0 := eq_true c18;have c18b1 : decide (1 ≤ (x6_2.size : Int)) = true := dY c18;clear c18;simp only [Option.some.injEq, Prod.mk.injEq] at H;obtain ⟨rfl, rfl⟩ := H
         have m5_ := trivial
      all_goals go_wp2
      all_goals try
       first | (clear m3_; have m3_ := trivial) | (clear m4_; have m4_ := trivial)
       go_roundg k2
       case measure => have := HJ2.out; have := HK2.out; omega
      all_goals try
       first | (clear m5_; have m5_ := trivial) | (clear m6_; have m6_ := trivial) | (clear m7_; have m7_ := trivial)
       go_ret2
       exact ⟨by first | rfl | (simp; done) | (simp [*]; done) | (simp; unfold wrap64; omega), by repeat (first | exact Drawn0.refl _ | apply Drawn0.step)⟩
      ·case rel => exact ⟨(wrap64 (Int.tdiv x0_2 2)), (x6_2), (wrap64 (x7_2 + 1)), sw, sw, sw, H', ⟨by have := HJ2.out; have := HK2.out; omega⟩, by repeat (first | exact Drawn0.refl _ | apply Drawn0.step)⟩
      ·case rel => exact ⟨(wrap64 (Int.tdiv x0_2 2)), ((x6_2 ++ (⟨#[44]⟩ : ByteArray)) ++ (a1.extract (x7_2 : Int).toNat ((wrap64 (x7_2 + 1)) : Int).toNat)), (wrap64 (x7_2 + 1)), sw, sw, sw, H', ⟨by have := HJ2.out; have := HK2.out; omega⟩, by repeat (first | exact Drawn0.refl _ | apply Drawn0.step)⟩

/-! ### qd: function 30 -/
def qd.l0 : Nat → Int → ByteArray → Option (ByteArray)
 | 0, _, _ => none
 | k + 1, x0, x3 => if x0 > 0 then (if 0 ≤ (Int.tmod x0 10) then (if (Int.tmod x0 10) ≤ (wrap64 ((Int.tmod x0 10) + 1)) then (if (wrap64 ((Int.tmod x0 10) + 1)) ≤ 10 then (if ((⟨#[48, 49, 50, 51, 52, 53, 54, 55, 56, 57]⟩ : ByteArray).extract ((Int.tmod x0 10) : Int).toNat ((wrap64 ((Int.tmod x0 10) + 1)) : Int).toNat).size + x3.size ≤ 9223372036854775807 then (qd.l0 k (wrap64 (Int.tdiv x0 10)) (((⟨#[48, 49, 50, 51, 52, 53, 54, 55, 56, 57]⟩ : ByteArray).extract ((Int.tmod x0 10) : Int).toNat ((wrap64 ((Int.tmod x0 10) + 1)) : Int).toNat) ++ x3)) else (none)) else (none)) else (none)) else (none)) else (if x3.toList = ([] : List UInt8) then (if 0 ≤ (Int.tmod x0 10) then (if (Int.tmod x0 10) ≤ (wrap64 ((Int.tmod x0 10) + 1)) then (if (wrap64 ((Int.tmod x0 10) + 1)) ≤ 10 then (if ((⟨#[48, 49, 50, 51, 52, 53, 54, 55, 56, 57]⟩ : ByteArray).extract ((Int.tmod x0 10) : Int).toNat ((wrap64 ((Int.tmod x0 10) + 1)) : Int).toNat).size + x3.size ≤ 9223372036854775807 then (qd.l0 k (wrap64 (Int.tdiv x0 10)) (((⟨#[48, 49, 50, 51, 52, 53, 54, 55, 56, 57]⟩ : ByteArray).extract ((Int.tmod x0 10) : Int).toNat ((wrap64 ((Int.tmod x0 10) + 1)) : Int).toNat) ++ x3)) else (none)) else (none)) else (none)) else (none)) else (some x3))
def qd.f (k : Nat) (a0 : Int) : Option (ByteArray) := if a0 < 0 then (some (⟨#[45]⟩ : ByteArray)) else (qd.l0 k a0 (⟨#[]⟩ : ByteArray))
theorem qd.mono_l : ∀ k, (∀ y0 y1, LeO (qd.l0 k y0 y1) (qd.l0 (k + 1) y0 y1))
 | 0 => fun _ _ r h => by simp [qd.l0] at h
 | k + 1 => by
  have ih0 := qd.mono_l k
  ·intro y0 y1;unfold qd.l0
   repeat' (with_reducible first|apply ih0|apply LeO.refl|apply LeO.none|refine LeO.ite ?_ ?_|refine LeO.bind ?_ (fun _=>?_))
theorem qd.mono : ∀ a0 k, LeO (qd.f k a0) (qd.f (k + 1) a0) := by
 intro a0 k;have ih0 := qd.mono_l k;unfold qd.f
 repeat' (with_reducible first|apply ih0|apply LeO.refl|apply LeO.none|refine LeO.ite ?_ ?_|refine LeO.bind ?_ (fun _=>?_))
set_option maxHeartbeats 8000000 in
set_option maxRecDepth 100000 in
theorem qd.calls (k : Nat) (a0 : Int) (r : ByteArray) (w : World) (h : qd.f k a0 = some r) :
  Calls Tryz.prog 30 #[.int .i64 a0] w fun e w' => e = .returned (.string r) ∧ Drawn0 w w' := by
 have H : (if a0 < 0 then (some (⟨#[45]⟩ : ByteArray)) else (qd.l0 k a0 (⟨#[]⟩ : ByteArray))) = some r := h;clear h
 by_cases c2 : a0 < 0
 ·rw [if_pos c2] at H;have c2b0 : decide (a0 < 0) = true := dY c2;clear c2;obtain rfl := Option.some.inj H
  go_enter Tryz.func30, Tryz.ntmps30
  go_wp2
  go_ret
  exact ⟨by first | rfl | (simp; done) | (simp [*]; done) | (simp; unfold wrap64; omega), by repeat (first | exact Drawn0.refl _ | apply Drawn0.step)⟩
 ·rw [if_neg c2] at H;have c2b0 : decide (a0 < 0) = false := dN c2;clear c2;have H' := As H;clear H
  go_enter Tryz.func30, Tryz.ntmps30
  go_wp2
  go_loopg [0, 3] k (fun kq v0 v3 w' => ∃ (x0_1 : Int) (x3_1 : ByteArray), v0 = .int .i64 x0_1 ∧ v3 = .string x3_1 ∧ Aside0 (qd.l0 kq x0_1 x3_1 = some r) ∧ Aside0 (kq ≤ k) ∧ Drawn0 w w')
  case atStart => exact ⟨(a0), ((⟨#[]⟩ : ByteArray)), sw, sw, H', ⟨Nat.le_refl _⟩, by repeat (first | exact Drawn0.refl _ | apply Drawn0.step)⟩
  case round =>
   clear H'
   try clear c2
   try clear c2b0
   try clear p2
   obtain ⟨x0_1, x3_1, rfl, rfl, HA, HK1, ⟨m1, rfl⟩⟩ := hrel
   cases gk with
   | zero => exact absurd HA.out (by simp [qd.l0])
   | succ k1 =>
    have H := HA.out;clear HA;simp only [qd.l0] at H
    by_cases c3 : x0_1 > 0
    focus
     rw [if_pos c3] at H;have c3b0 : decide (0 < x0_1) = true := dY c3;clear c3
     obtain ⟨ji10, hji10⟩ : ∃ j_ : Int, (Int.tmod x0_1 10) = j_ := ⟨_, rfl⟩
     replace H : (if 0 ≤ (ji10) then (if (ji10) ≤ (wrap64 ((ji10) + 1)) then (if (wrap64 ((ji10) + 1)) ≤ 10 then (if ((⟨#[48, 49, 50, 51, 52, 53, 54, 55, 56, 57]⟩ : ByteArray).extract ((ji10) : Int).toNat ((wrap64 ((ji10) + 1)) : Int).toNat).size + x3_1.size ≤ 9223372036854775807 then (qd.l0 k1 (wrap64 (Int.tdiv x0_1 10)) (((⟨#[48, 49, 50, 51, 52, 53, 54, 55, 56, 57]⟩ : ByteArray).extract ((ji10) : Int).toNat ((wrap64 ((ji10) + 1)) : Int).toNat) ++ x3_1)) else (none)) else (none)) else (none)) else (none)) = some r := by first | (rw [hji10] at H; exact H) | (simp only [hji10] at H ⊢; exact H)
     by_cases c5 : 0 ≤ (ji10)
     rotate_left
     ·rw [if_neg c5] at H;exact absurd H (by simp)
     rw [if_pos c5] at H;have c5b0 := eq_true c5;have c5b1 : decide (0 ≤ (ji10)) = true := dY c5;clear c5
     by_cases c6 : (ji10) ≤ (wrap64 ((ji10) + 1))
     rotate_left
     ·rw [if_neg c6] at H;exact absurd H (by simp)
     rw [if_pos c6] at H;have c6b0 := eq_true c6;have c6b1 : decide ((ji10) ≤ (wrap64 ((ji10) + 1))) = true := dY c6
     by_cases c7 : (wrap64 ((ji10) + 1)) ≤ 10
     rotate_left
     ·rw [if_neg c7] at H;exact absurd H (by simp)
     rw [if_pos c7] at H;have c7b0 := eq_true c7;have c7b1 : decide ((wrap64 ((ji10) + 1)) ≤ 10) = true := dY c7
     by_cases c8 : ((⟨#[48, 49, 50, 51, 52, 53, 54, 55, 56, 57]⟩ : ByteArray).extract ((ji10) : Int).toNat ((wrap64 ((ji10) + 1)) : Int).toNat).size + x3_1.size ≤ 9223372036854775807
     rotate_left
     ·rw [if_neg c8] at H;exact absurd H (by simp)
     rw [if_pos c8] at H;have c8b0 := eq_true c8;have c8b1 : decide (((⟨#[48, 49, 50, 51, 52, 53, 54, 55, 56, 57]⟩ : ByteArray).extract ((ji10) : Int).toNat ((wrap64 ((ji10) + 1)) : Int).toNat).size + x3_1.size ≤ 9223372036854775807) = true := dY c8
     try have c8b2 : (9223372036854775807 < ((⟨#[48, 49, 50, 51, 52, 53, 54, 55, 56, 57]⟩ : ByteArray).extract ((ji10) : Int).toNat ((wrap64 ((ji10) + 1)) : Int).toNat).size + x3_1.size) = False := eq_false (Nat.not_lt.2 c8)
     have H' := As H;clear H
     have m2_ := trivial
    rotate_left
    focus
     rw [if_neg c3] at H;have c3b0 : decide (0 < x0_1) = false := dN c3;clear c3
     by_cases c9 : x3_1.toList = ([] : List UInt8)
     focus
      rw [if_pos c9] at H;have c9b0 : (x3_1.toList == ([] : List UInt8)) = true := beq_iff_eq.mpr c9;have c9b1 : (x3_1.toList != ([] : List UInt8)) = false := bne_eq_false_iff_eq.mpr c9;clear c9
      obtain ⟨ji10, hji10⟩ : ∃ j_ : Int, (Int.tmod x0_1 10) = j_ := ⟨_, rfl⟩
      replace H : (if 0 ≤ (ji10) then (if (ji10) ≤ (wrap64 ((ji10) + 1)) then (if (wrap64 ((ji10) + 1)) ≤ 10 then (if ((⟨#[48, 49, 50, 51, 52, 53, 54, 55, 56, 57]⟩ : ByteArray).extract ((ji10) : Int).toNat ((wrap64 ((ji10) + 1)) : Int).toNat).size + x3_1.size ≤ 9223372036854775807 then (qd.l0 k1 (wrap64 (Int.tdiv x0_1 10)) (((⟨#[48, 49, 50, 51, 52, 53, 54, 55, 56, 57]⟩ : ByteArray).extract ((ji10) : Int).toNat ((wrap64 ((ji10) + 1)) : Int).toNat) ++ x3_1)) else (none)) else (none)) else (none)) else (none)) = some r := by first | (rw [hji10] at H; exact H) | (simp only [hji10] at H ⊢; exact H)
      by_cases c11 : 0 ≤ (ji10)
      rotate_left
      ·rw [if_neg c11] at H;exact absurd H (by simp)
      rw [if_pos c11] at H;have c11b0 := eq_true c11;have c11b1 : decide (0 ≤ (ji10)) = true := dY c11;clear c11
      by_cases c12 : (ji10) ≤ (wrap64 ((ji10) + 1))
      rotate_left
      ·rw [if_neg c12] at H;exact absurd H (by simp)
      rw [if_pos c12] at H;have c12b0 := eq_true c12;have c12b1 : decide ((ji10) ≤ (wrap64 ((ji10) + 1))) = true := dY c12
      by_cases c13 : (wrap64 ((ji10) + 1)) ≤ 10
      rotate_left
      ·rw [if_neg c13] at H;exact absurd H (by simp)
      rw [if_pos c13] at H;have c13b0 := eq_true c13;have c13b1 : decide ((wrap64 ((ji10) + 1)) ≤ 10) = true := dY c13
      by_cases c14 : ((⟨#[48, 49, 50, 51, 52, 53, 54, 55, 56, 57]⟩ : ByteArray).extract ((ji10) : Int).toNat ((wrap64 ((ji10) + 1)) : Int).toNat).size + x3_1.size ≤ 9223372036854775807
      rotate_left
      ·rw [if_neg c14] at H;exact absurd H (by simp)
      rw [if_pos c14] at H;have c14b0 := eq_true c14;have c14b1 : decide (((⟨#[48, 49, 50, 51, 52, 53, 54, 55, 56, 57]⟩ : ByteArray).extract ((ji10) : Int).toNat ((wrap64 ((ji10) + 1)) : Int).toNat).size + x3_1.size ≤ 9223372036854775807) = true := dY c14
      try have c14b2 : (9223372036854775807 < ((⟨#[48, 49, 50, 51, 52, 53, 54, 55, 56, 57]⟩ : ByteArray).extract ((ji10) : Int).toNat ((wrap64 ((ji10) + 1)) : Int).toNat).size + x3_1.size) = False := eq_false (Nat.not_lt.2 c14)
      have H' := As H;clear H
      have m1_ := trivial
     rotate_left
     rw [if_neg c9] at H;have c9b0 : (x3_1.toList == ([] : List UInt8)) = false := beq_eq_false_iff_ne.mpr c9;have c9b1 : (x3_1.toList != ([] : List UInt8)) = true := bne_iff_ne.mpr c9;obtain rfl := Option.some.inj H
    all_goals go_wp2
    all_goals try
     first | (clear m1_; have m1_ := trivial) | (clear m2_; have m2_ := trivial)
     go_roundg k1
     case measure => have := HK1.out; omega
     case rel => exact ⟨(wrap64 (Int.tdiv x0_1 10)), (((⟨#[48, 49, 50, 51, 52, 53, 54, 55, 56, 57]⟩ : ByteArray).extract ((ji10) : Int).toNat ((wrap64 ((ji10) + 1)) : Int).toNat) ++ x3_1), sw, (by first | rfl | (simp; done) | (simp only [← hji10] <;> (first | rfl | simp)) | (simp [*]; done)), H', ⟨by have := HK1.out; omega⟩, by repeat (first | exact Drawn0.refl _ | apply Drawn0.step)⟩
    ·go_ret
     exact ⟨by first | rfl | (simp; done) | (simp [*]; done) | (simp; unfold wrap64; omega), by repeat (first | exact Drawn0.refl _ | apply Drawn0.step)⟩

end Go.Proofs.YtdakfmldbddokaaGreatDoor.P
-- SHRUNK
-- PACKED
-- PACKED2
