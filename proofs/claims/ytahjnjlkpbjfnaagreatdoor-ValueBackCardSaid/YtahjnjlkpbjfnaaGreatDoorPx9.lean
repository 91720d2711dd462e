-- written by myprint.py (this claim's own program, after the kit's print)
import Derived.Test.YtahjnjlkpbjfnaaGreatDoorPx0
import Derived.Test.YtahjnjlkpbjfnaaGreatDoorPx8
import Derived.Test.YtahjnjlkpbjfnaaGreatDoorPack
namespace Go.Proofs.YtahjnjlkpbjfnaaGreatDoor.P
open Go.RowKit Go.Proofs.YtahjnjlkpbjfnaaGreatDoorW.PrintWords Go.Proofs.YtahjnjlkpbjfnaaGreatDoorW.PrintLast Go.Proofs.YtahjnjlkpbjfnaaGreatDoorW.PrintMore
attribute [local go_sem] max2_int min2_int max_two min_two max_three min_three max_four min_four   -- for this text's walks alone
set_option linter.unusedVariables false
set_option linter.unusedSimpArgs false

/-! ### belvedereref10_check: function 40 -/
mutual
def belvedereref10_check.l0 : Nat → List ByteArray → Int → Option (Int)
 | 0, _, _ => none
 | k + 1, x0, x3 => if x3 < (x0.length : Int) then (if 0 ≤ x3 then (if (rdOf ByteArray.empty x0 x3).toList = ([] : List UInt8) then (some 3) else (belvedereref10_check.l0 k x0 (wrap64 (x3 + 1)))) else (none)) else (belvedereref10_check.l1 k x0 0)
def belvedereref10_check.l1 : Nat → List ByteArray → Int → Option (Int)
 | 0, _, _ => none
 | k + 1, x0, x4 => if x4 < (x0.length : Int) then (belvedereref10_check.l2 k x0 x4 0) else (if (x0.length : Int) > 4096 then (some 2) else (some 0))
def belvedereref10_check.l2 : Nat → List ByteArray → Int → Int → Option (Int)
 | 0, _, _, _ => none
 | k + 1, x0, x4, x5 => if x5 < x4 then (if 0 ≤ x4 then (if x4 < (x0.length : Int) then (if 0 ≤ x5 then (if x5 < (x0.length : Int) then (if (rdOf ByteArray.empty x0 x4).toList = (rdOf ByteArray.empty x0 x5).toList then (some 7) else (belvedereref10_check.l2 k x0 x4 (wrap64 (x5 + 1)))) else (none)) else (none)) else (none)) else (none)) else (belvedereref10_check.l1 k x0 (wrap64 (x4 + 1)))
end
def belvedereref10_check.f (k : Nat) (l0 : List ByteArray) : Option (Int) := belvedereref10_check.l0 k l0 0
theorem belvedereref10_check.mono_l : ∀ k, (∀ y0 y1, LeO (belvedereref10_check.l0 k y0 y1) (belvedereref10_check.l0 (k + 1) y0 y1)) ∧ (∀ y0 y1, LeO (belvedereref10_check.l1 k y0 y1) (belvedereref10_check.l1 (k + 1) y0 y1)) ∧ (∀ y0 y1 y2, LeO (belvedereref10_check.l2 k y0 y1 y2) (belvedereref10_check.l2 (k + 1) y0 y1 y2))
 | 0 => ⟨fun _ _ r h => by simp [belvedereref10_check.l0] at h, fun _ _ r h => by simp [belvedereref10_check.l1] at h, fun _ _ _ r h => by simp [belvedereref10_check.l2] at h⟩
 | k + 1 => by
  obtain ⟨ih0, ih1, ih2⟩ := belvedereref10_check.mono_l k;refine ⟨?_, ?_, ?_⟩
  ·intro y0 y1;unfold belvedereref10_check.l0
   repeat' first
   | (with_reducible exact ih0 _ _)
   | (with_reducible exact ih1 _ _)
   | (with_reducible exact ih2 _ _ _)
   | (with_reducible exact LeO.refl _)
   | (with_reducible exact LeO.none _)
   | (with_reducible refine LeO.ite ?_ ?_)
   | (with_reducible refine LeO.bind ?_ (fun _ => ?_))
   | exact ih0 _ _
   | exact ih1 _ _
   | exact ih2 _ _ _
   | exact LeO.none _
   | refine LeO.ite ?_ ?_
   | refine LeO.bind ?_ (fun _ => ?_)
  ·intro y0 y1;unfold belvedereref10_check.l1
   repeat' first
   | (with_reducible exact ih0 _ _)
   | (with_reducible exact ih1 _ _)
   | (with_reducible exact ih2 _ _ _)
   | (with_reducible exact LeO.refl _)
   | (with_reducible exact LeO.none _)
   | (with_reducible refine LeO.ite ?_ ?_)
   | (with_reducible refine LeO.bind ?_ (fun _ => ?_))
   | exact ih0 _ _
   | exact ih1 _ _
   | exact ih2 _ _ _
   | exact LeO.none _
   | refine LeO.ite ?_ ?_
   | refine LeO.bind ?_ (fun _ => ?_)
  ·intro y0 y1 y2;unfold belvedereref10_check.l2
   repeat' first
   | (with_reducible exact ih0 _ _)
   | (with_reducible exact ih1 _ _)
   | (with_reducible exact ih2 _ _ _)
   | (with_reducible exact LeO.refl _)
   | (with_reducible exact LeO.none _)
   | (with_reducible refine LeO.ite ?_ ?_)
   | (with_reducible refine LeO.bind ?_ (fun _ => ?_))
   | exact ih0 _ _
   | exact ih1 _ _
   | exact ih2 _ _ _
   | exact LeO.none _
   | refine LeO.ite ?_ ?_
   | refine LeO.bind ?_ (fun _ => ?_)
theorem belvedereref10_check.mono : ∀ a0 k, LeO (belvedereref10_check.f k a0) (belvedereref10_check.f (k + 1) a0) := by
 intro a0 k;obtain ⟨ih0, ih1, ih2⟩ := belvedereref10_check.mono_l k;unfold belvedereref10_check.f
 repeat' first
   | (with_reducible exact ih0 _ _)
   | (with_reducible exact ih1 _ _)
   | (with_reducible exact ih2 _ _ _)
   | (with_reducible exact LeO.refl _)
   | (with_reducible exact LeO.none _)
   | (with_reducible refine LeO.ite ?_ ?_)
   | (with_reducible refine LeO.bind ?_ (fun _ => ?_))
   | exact ih0 _ _
   | exact ih1 _ _
   | exact ih2 _ _ _
   | exact LeO.none _
   | refine LeO.ite ?_ ?_
   | refine LeO.bind ?_ (fun _ => ?_)
set_option maxHeartbeats 8000000 in
set_option maxRecDepth 100000 in
theorem belvedereref10_check.calls (k : Nat) (A0 : Option Addr) (c0 : Nat) (l0 : List ByteArray) (r : Int) (w : World) (hr0 : Kd.C Kd.string w A0 l0.length l0) (hc0 : l0.length ≤ c0) (h : belvedereref10_check.f k l0 = some r) :
  Calls Tryz.prog 40 #[.slice A0 l0.length c0] w fun e w' => e = .returned (.int .i64 r) ∧ Drawn0 w w' := by
 have HR0 := As hr0;have HC0 := As hc0;clear hr0 hc0;have H : (belvedereref10_check.l0 k l0 0) = some r := h;clear h;have H' := As H;clear H
 go_enter Tryz.func40, Tryz.ntmps40
 go_wp2
 repeat (go_quiet (fail); try go_wp2)
 go_loopg [3] k (fun kq v3 w' => ∃ (x3_1 : Int), v3 = .int .i64 x3_1 ∧ Aside0 (belvedereref10_check.l0 kq l0 x3_1 = some r) ∧ Aside0 (kq ≤ k) ∧ Drawn0 w w')
 case atStart => exact ⟨(0), sw, H', ⟨Nat.le_refl _⟩, by repeat (first | exact Drawn0.refl _ | apply Drawn0.step)⟩
 case round =>
  clear H';obtain ⟨x3_1, rfl, HA, HK1, ⟨m1, rfl⟩⟩ := hrel
  cases gk with
  | zero => exact absurd HA.out (by simp [belvedereref10_check.l0])
  | succ k1 =>
   have H := HA.out;clear HA;simp only [belvedereref10_check.l0] at H
   by_cases c2 : x3_1 < (l0.length : Int)
   ·rw [if_pos c2] at H;have c2b0 : decide (x3_1 < (l0.length : Int)) = true := dY c2;clear c2
    by_cases c3 : 0 ≤ x3_1
    ·rw [if_pos c3] at H;have c3b0 : decide (0 ≤ x3_1) = true := dY c3;clear c3
     by_cases c4 : (rdOf ByteArray.empty l0 x3_1).toList = ([] : List UInt8)
     ·rw [if_pos c4] at H;have c4b0 : ((rdOf ByteArray.empty l0 x3_1).toList == ([] : List UInt8)) = true := beq_iff_eq.mpr c4;have c4b1 : ((rdOf ByteArray.empty l0 x3_1).toList != ([] : List UInt8)) = false := bne_eq_false_iff_eq.mpr c4;clear c4;obtain rfl := Option.some.inj H;have p201 : 0 ≤ (x3_1 : Int) := dT hy;have q201 : x3_1 < (l0.length : Int) := dT hy;obtain ⟨ad201, e201, hx201_0⟩ := Kd.at_string HR0.out x3_1 p201 q201
      cases e201
      replace p201 := eq_true p201;replace q201 := eq_true q201
      go_wp2
      repeat (go_quiet (fail); try go_wp2)
      go_ret
      exact ⟨by first | rfl | (simp; done) | (simp [*]; done) | (simp; unfold wrap64; omega), by repeat (first | exact Drawn0.refl _ | apply Drawn0.step)⟩
     ·rw [if_neg c4] at H;have c4b0 : ((rdOf ByteArray.empty l0 x3_1).toList == ([] : List UInt8)) = false := beq_eq_false_iff_ne.mpr c4;have c4b1 : ((rdOf ByteArray.empty l0 x3_1).toList != ([] : List UInt8)) = true := bne_iff_ne.mpr c4;have H' := As H;clear H;have p201 : 0 ≤ (x3_1 : Int) := dT hy;have q201 : x3_1 < (l0.length : Int) := dT hy;obtain ⟨ad201, e201, hx201_0⟩ := Kd.at_string HR0.out x3_1 p201 q201
      cases e201
      replace p201 := eq_true p201;replace q201 := eq_true q201
      go_wp2
      repeat (go_quiet (fail); try go_wp2)
      go_roundg k1
      case measure => have := HK1.out; omega
      case rel => exact ⟨(wrap64 (x3_1 + 1)), sw, H', ⟨by have := HK1.out; omega⟩, by repeat (first | exact Drawn0.refl _ | apply Drawn0.step)⟩
    ·rw [if_neg c3] at H;exact absurd H (by simp)
   ·rw [if_neg c2] at H;have c2b0 : decide (x3_1 < (l0.length : Int)) = false := dN c2;clear c2;have H' := As H;clear H
    go_wp2
    repeat (go_quiet (fail); try go_wp2)
    go_loopg [4] k1 (fun kq v4 w' => ∃ (x4_2 : Int), v4 = .int .i64 x4_2 ∧ Aside0 (belvedereref10_check.l1 kq l0 x4_2 = some r) ∧ Aside0 (kq ≤ k1) ∧ Drawn0 w w')
    case atStart => exact ⟨(0), sw, H', ⟨Nat.le_refl _⟩, by repeat (first | exact Drawn0.refl _ | apply Drawn0.step)⟩
    case round =>
     clear H'
     try clear c2
     try clear c2b0
     try clear p2
     try clear q2
     try clear hx2
     try clear c3
     try clear c3b0
     try clear c4
     try clear c4b0
     try clear c4b1
     try clear hx201_0
     try clear p201
     try clear q201
     obtain ⟨x4_2, rfl, HA, HK2, ⟨m2, rfl⟩⟩ := hrel
     cases gk with
     | zero => exact absurd HA.out (by simp [belvedereref10_check.l1])
     | succ k2 =>
      have H := HA.out;clear HA;simp only [belvedereref10_check.l1] at H
      by_cases c5 : x4_2 < (l0.length : Int)
      ·rw [if_pos c5] at H;have c5b0 : decide (x4_2 < (l0.length : Int)) = true := dY c5;clear c5;have H' := As H;clear H
       go_wp2
       repeat (go_quiet (fail); try go_wp2)
       go_loopg [5] k2 (fun kq v5 w' => ∃ (x5_3 : Int), v5 = .int .i64 x5_3 ∧ Aside0 (belvedereref10_check.l2 kq l0 x4_2 x5_3 = some r) ∧ Aside0 (kq ≤ k2) ∧ Drawn0 w w')
       case atStart => exact ⟨(0), sw, H', ⟨Nat.le_refl _⟩, by repeat (first | exact Drawn0.refl _ | apply Drawn0.step)⟩
       case round =>
        clear H'
        try clear c2
        try clear c2b0
        try clear p2
        try clear q2
        try clear hx2
        try clear c3
        try clear c3b0
        try clear c4
        try clear c4b0
        try clear c4b1
        try clear c5
        try clear c5b0
        try clear hx201_0
        try clear p2
        try clear p201
        try clear q2
        try clear q201
        obtain ⟨x5_3, rfl, HA, HK3, ⟨m3, rfl⟩⟩ := hrel
        cases gk with
        | zero => exact absurd HA.out (by simp [belvedereref10_check.l2])
        | succ k3 =>
         have H := HA.out;clear HA;simp only [belvedereref10_check.l2] at H
         by_cases c6 : x5_3 < x4_2
         ·rw [if_pos c6] at H;have c6b0 : decide (x5_3 < x4_2) = true := dY c6;clear c6
          by_cases c7 : 0 ≤ x4_2
          ·rw [if_pos c7] at H;have c7b0 : decide (0 ≤ x4_2) = true := dY c7;clear c7
           by_cases c8 : x4_2 < (l0.length : Int)
           ·rw [if_pos c8] at H;have c8b0 : decide (x4_2 < (l0.length : Int)) = true := dY c8;clear c8
            by_cases c9 : 0 ≤ x5_3
            ·rw [if_pos c9] at H;have c9b0 : decide (0 ≤ x5_3) = true := dY c9;clear c9
             by_cases c10 : x5_3 < (l0.length : Int)
             ·rw [if_pos c10] at H;have c10b0 : decide (x5_3 < (l0.length : Int)) = true := dY c10;clear c10
              by_cases c11 : (rdOf ByteArray.empty l0 x4_2).toList = (rdOf ByteArray.empty l0 x5_3).toList
              ·rw [if_pos c11] at H;have c11b0 : ((rdOf ByteArray.empty l0 x4_2).toList == (rdOf ByteArray.empty l0 x5_3).toList) = true := beq_iff_eq.mpr c11;have c11b1 : ((rdOf ByteArray.empty l0 x4_2).toList != (rdOf ByteArray.empty l0 x5_3).toList) = false := bne_eq_false_iff_eq.mpr c11;clear c11;obtain rfl := Option.some.inj H;have p202 : 0 ≤ (x4_2 : Int) := dT hy;have q202 : x4_2 < (l0.length : Int) := dT hy;obtain ⟨ad202, e202, hx202_0⟩ := Kd.at_string HR0.out x4_2 p202 q202
               cases e202
               replace p202 := eq_true p202;replace q202 := eq_true q202;have p203 : 0 ≤ (x5_3 : Int) := dT hy;have q203 : x5_3 < (l0.length : Int) := dT hy;obtain ⟨ad203, e203, hx203_0⟩ := Kd.at_string HR0.out x5_3 p203 q203
               obtain rfl : ad202 = ad203 := (by injection e203)
               replace p203 := eq_true p203;replace q203 := eq_true q203
               go_wp2
               repeat (go_quiet (fail); try go_wp2)
               go_ret
               exact ⟨by first | rfl | (simp; done) | (simp [*]; done) | (simp; unfold wrap64; omega), by repeat (first | exact Drawn0.refl _ | apply Drawn0.step)⟩
              ·rw [if_neg c11] at H;have c11b0 : ((rdOf ByteArray.empty l0 x4_2).toList == (rdOf ByteArray.empty l0 x5_3).toList) = false := beq_eq_false_iff_ne.mpr c11;have c11b1 : ((rdOf ByteArray.empty l0 x4_2).toList != (rdOf ByteArray.empty l0 x5_3).toList) = true := bne_iff_ne.mpr c11;have H' := As H;clear H;have p202 : 0 ≤ (x4_2 : Int) := dT hy;have q202 : x4_2 < (l0.length : Int) := dT hy;obtain ⟨ad202, e202, hx202_0⟩ := Kd.at_string HR0.out x4_2 p202 q202
               cases e202
               replace p202 := eq_true p202;replace q202 := eq_true q202;have p203 : 0 ≤ (x5_3 : Int) := dT hy;have q203 : x5_3 < (l0.length : Int) := dT hy;obtain ⟨ad203, e203, hx203_0⟩ := Kd.at_string HR0.out x5_3 p203 q203
               obtain rfl : ad202 = ad203 := (by injection e203)
               replace p203 := eq_true p203;replace q203 := eq_true q203
               go_wp2
               repeat (go_quiet (fail); try go_wp2)
               go_roundg k3
               case measure => have := HK1.out; have := HK2.out; have := HK3.out; omega
               case rel => exact ⟨(wrap64 (x5_3 + 1)), sw, H', ⟨by have := HK1.out; have := HK2.out; have := HK3.out; omega⟩, by repeat (first | exact Drawn0.refl _ | apply Drawn0.step)⟩
             ·rw [if_neg c10] at H;exact absurd H (by simp)
            ·rw [if_neg c9] at H;exact absurd H (by simp)
           ·rw [if_neg c8] at H;exact absurd H (by simp)
          ·rw [if_neg c7] at H;exact absurd H (by simp)
         ·rw [if_neg c6] at H;have c6b0 : decide (x5_3 < x4_2) = false := dN c6;clear c6;have H' := As H;clear H
          go_wp2
          repeat (go_quiet (fail); try go_wp2)
          go_roundg k3
          case measure => have := HK1.out; have := HK2.out; have := HK3.out; omega
          case rel => exact ⟨(wrap64 (x4_2 + 1)), sw, H', ⟨by have := HK1.out; have := HK2.out; have := HK3.out; omega⟩, by repeat (first | exact Drawn0.refl _ | apply Drawn0.step)⟩
      ·rw [if_neg c5] at H;have c5b0 : decide (x4_2 < (l0.length : Int)) = false := dN c5;clear c5
       by_cases c12 : (l0.length : Int) > 4096
       ·rw [if_pos c12] at H;have c12b0 : decide (4096 < (l0.length : Int)) = true := dY c12;have c12b1 : decide (4096 < l0.length) = true := dY (by omega);clear c12;obtain rfl := Option.some.inj H
        go_wp2
        repeat (go_quiet (fail); try go_wp2)
        go_ret
        exact ⟨by first | rfl | (simp; done) | (simp [*]; done) | (simp; unfold wrap64; omega), by repeat (first | exact Drawn0.refl _ | apply Drawn0.step)⟩
       ·rw [if_neg c12] at H;have c12b0 : decide (4096 < (l0.length : Int)) = false := dN c12;have c12b1 : decide (4096 < l0.length) = false := dN (by omega);clear c12;obtain rfl := Option.some.inj H
        go_wp2
        repeat (go_quiet (fail); try go_wp2)
        go_ret
        exact ⟨by first | rfl | (simp; done) | (simp [*]; done) | (simp; unfold wrap64; omega), by repeat (first | exact Drawn0.refl _ | apply Drawn0.step)⟩

/-! ### belvedereref10_List: function 21 -/
def belvedereref10_List.l0 : Nat → ByteArray → List ByteArray → Int → Int → Option (List ByteArray × Int)
 | 0, _, _, _, _ => none
 | k + 1, x0, x4, x5, x6 => if x6 ≤ (x0.size : Int) then (if x6 = (x0.size : Int) then (if 0 ≤ x5 then (if x5 ≤ x6 then ((belvedereref10_trim.f k (x0.extract (x5 : Int).toNat (x6 : Int).toNat)).bind fun t205 => (if x4.length < 8796093022208 then (belvedereref10_List.l0 k x0 (x4 ++ [t205]) (wrap64 (x6 + 1)) (wrap64 (x6 + 1))) else (none))) else (none)) else (none)) else (if 0 ≤ x6 then (if x6 < (x0.size : Int) then (if (bt x0 x6) = 44 then (if 0 ≤ x5 then (if x5 ≤ x6 then ((belvedereref10_trim.f k (x0.extract (x5 : Int).toNat (x6 : Int).toNat)).bind fun t209 => (if x4.length < 8796093022208 then (belvedereref10_List.l0 k x0 (x4 ++ [t209]) (wrap64 (x6 + 1)) (wrap64 (x6 + 1))) else (none))) else (none)) else (none)) else (belvedereref10_List.l0 k x0 x4 x5 (wrap64 (x6 + 1)))) else (none)) else (none))) else ((belvedereref10_check.f k x4).bind fun t213 => (if t213 = 0 then (some (x4, 0)) else (some (([] : List ByteArray), t213))))
def belvedereref10_List.f (k : Nat) (a0 : ByteArray) : Option (List ByteArray × Int) := (belvedereref10_trim.f k a0).bind fun t204 => (if t204.toList = ([] : List UInt8) then (some (([] : List ByteArray), 13)) else (belvedereref10_List.l0 k a0 ([] : List ByteArray) 0 0))
theorem belvedereref10_List.mono_l : ∀ k, (∀ y0 y1 y2 y3, LeO (belvedereref10_List.l0 k y0 y1 y2 y3) (belvedereref10_List.l0 (k + 1) y0 y1 y2 y3))
 | 0 => fun _ _ _ _ r h => by simp [belvedereref10_List.l0] at h
 | k + 1 => by
  have ih0 := belvedereref10_List.mono_l k
  ·intro y0 y1 y2 y3;unfold belvedereref10_List.l0
   repeat' first
   | (with_reducible exact ih0 _ _ _ _)
   | (with_reducible exact belvedereref10_check.mono _ _)
   | (with_reducible exact belvedereref10_trim.mono _ _)
   | (with_reducible exact LeO.refl _)
   | (with_reducible exact LeO.none _)
   | (with_reducible refine LeO.ite ?_ ?_)
   | (with_reducible refine LeO.bind ?_ (fun _ => ?_))
   | exact ih0 _ _ _ _
   | exact belvedereref10_check.mono _ _
   | exact belvedereref10_trim.mono _ _
   | exact LeO.none _
   | refine LeO.ite ?_ ?_
   | refine LeO.bind ?_ (fun _ => ?_)
theorem belvedereref10_List.mono : ∀ a0 k, LeO (belvedereref10_List.f k a0) (belvedereref10_List.f (k + 1) a0) := by
 intro a0 k;have ih0 := belvedereref10_List.mono_l k;unfold belvedereref10_List.f
 repeat' first
   | (with_reducible exact ih0 _ _ _ _)
   | (with_reducible exact belvedereref10_check.mono _ _)
   | (with_reducible exact belvedereref10_trim.mono _ _)
   | (with_reducible exact LeO.refl _)
   | (with_reducible exact LeO.none _)
   | (with_reducible refine LeO.ite ?_ ?_)
   | (with_reducible refine LeO.bind ?_ (fun _ => ?_))
   | exact ih0 _ _ _ _
   | exact belvedereref10_check.mono _ _
   | exact belvedereref10_trim.mono _ _
   | exact LeO.none _
   | refine LeO.ite ?_ ?_
   | refine LeO.bind ?_ (fun _ => ?_)
set_option maxHeartbeats 8000000 in
set_option maxRecDepth 100000 in
theorem belvedereref10_List.calls (k : Nat) (a0 : ByteArray) (r1 : List ByteArray) (r2 : Int) (w : World) (h : belvedereref10_List.f k a0 = some (r1, r2)) :
  Calls Tryz.prog 21 #[.string a0] w fun e w' => ∃ v0_ : Value, e = .returned (.tuple #[v0_, .int .i64 r2]) ∧ Kd.R Kd.string 9 w' w.heap.size (fun _ => True) v0_ r1 ∧ Below w.heap.size w w' := by
 have HB := As (Below.refl w.heap.size w);have H : ((belvedereref10_trim.f k a0).bind fun t204 => (if t204.toList = ([] : List UInt8) then (some (([] : List ByteArray), 13)) else (belvedereref10_List.l0 k a0 ([] : List ByteArray) 0 0))) = some (r1, r2) := h;clear h;replace H := bE H;obtain ⟨t204, A20, H⟩ := H;replace H : (if t204.toList = ([] : List UInt8) then (some (([] : List ByteArray), 13)) else (belvedereref10_List.l0 k a0 ([] : List ByteArray) 0 0)) = some (r1, r2) := H;have A2 := As A20;clear A20
 by_cases c3 : t204.toList = ([] : List UInt8)
 rw [if_pos c3] at H;have c3b0 : (t204.toList == ([] : List UInt8)) = true := beq_iff_eq.mpr c3;have c3b1 : (t204.toList != ([] : List UInt8)) = false := bne_eq_false_iff_eq.mpr c3;clear c3;simp only [Option.some.injEq, Prod.mk.injEq] at H;obtain ⟨rfl, rfl⟩ := H
 rotate_left
 rw [if_neg c3] at H;have c3b0 : (t204.toList == ([] : List UInt8)) = false := beq_eq_false_iff_ne.mpr c3;have c3b1 : (t204.toList != ([] : List UInt8)) = true := bne_iff_ne.mpr c3;have H' := As H;clear H
 all_goals
  go_enter Tryz.func21, Tryz.ntmps21
  go_wp2_with (first | ((with_reducible refine gate_callee (f := 39) rfl ?_); refine goesL_ (some 9) rfl rfl Tryz.func39 kr rfl #[.string a0] rfl sa ?_; (with_reducible refine (belvedereref10_trim.calls k a0 _ _ A2.out).mono ?_); rintro e w' ⟨rfl, ⟨nd, rfl⟩⟩; refine ⟨_, rfl, ?_⟩))
 ·go_loopg [4, 5, 6] k (fun kq v4 v5 v6 w' => ∃ (x4_1 : List ByteArray) (x5_1 : Int) (x6_1 : Int), v5 = .int .i64 x5_1 ∧ v6 = .int .i64 x6_1 ∧ Aside0 (belvedereref10_List.l0 kq a0 x4_1 x5_1 x6_1 = some (r1, r2)) ∧ Aside0 (kq ≤ k) ∧ Aside0 (Kd.R Kd.string 9 w' w.heap.size (fun _ => True) v4 x4_1) ∧ Aside0 (Below w.heap.size w w'))
  case atStart => exact ⟨(([] : List ByteArray)), (0), (0), sw, sw, H', ⟨Nat.le_refl _⟩, ⟨by first | exact Kd.R_nil _ _ _ _ _ | exact Kd.N_nil _ _ _ _ _ | exact Kd.V_nil _ _ _ _ _ | exact Kd.Q_nil _ _ _ _ _ | exact Kd.S_nil _ _ _ _ _⟩, ⟨by repeat (first | (with_reducible first | exact HB.out | apply XA | apply XN | apply XD) | exact HB.out)⟩⟩
  case round =>
   clear H'
   try clear c2
   try clear p2
   try clear c3
   try clear c3b0
   try clear c3b1
   obtain ⟨x4_1, x5_1, x6_1, rfl, rfl, HA, HK1, HO_4, HB⟩ := hrel
   cases gk with
   | zero => exact absurd HA.out (by simp [belvedereref10_List.l0])
   | succ k1 =>
    have H := HA.out;clear HA;simp only [belvedereref10_List.l0] at H
    by_cases c4 : x6_1 ≤ (a0.size : Int)
    focus
     rw [if_pos c4] at H;have c4b0 : decide (x6_1 ≤ (a0.size : Int)) = true := dY c4;clear c4
     by_cases c5 : x6_1 = (a0.size : Int)
     focus
      rw [if_pos c5] at H;have c5b0 : (x6_1 == (a0.size : Int)) = true := beq_iff_eq.mpr c5;have c5b1 : (x6_1 != (a0.size : Int)) = false := bne_eq_false_iff_eq.mpr c5;clear c5
      by_cases c6 : 0 ≤ x5_1
      rotate_left
      ·rw [if_neg c6] at H;exact absurd H (by simp)
      rw [if_pos c6] at H;have c6b0 := eq_true c6;have c6b1 : decide (0 ≤ x5_1) = true := dY c6;clear c6
      by_cases c7 : x5_1 ≤ x6_1
      rotate_left
      ·rw [if_neg c7] at H;exact absurd H (by simp)
      rw [if_pos c7] at H;have c7b0 := eq_true c7;have c7b1 : decide (x5_1 ≤ x6_1) = true := dY c7;clear c7;have c8b0 := eq_true (dT hy : x6_1 ≤ (a0.size : Int));replace H := bE H;obtain ⟨t209, A90, H⟩ := H;replace H : (if x4_1.length < 8796093022208 then (belvedereref10_List.l0 k1 a0 (x4_1 ++ [t209]) (wrap64 (x6_1 + 1)) (wrap64 (x6_1 + 1))) else (none)) = some (r1, r2) := H;have A19 := As A90;clear A90
      by_cases c10 : x4_1.length < 8796093022208
      rotate_left
      ·rw [if_neg c10] at H;exact absurd H (by simp)
      rw [if_pos c10] at H;have LMc20 := As c10;clear c10
      obtain ⟨y210, hy206⟩ : ∃ y_ : List ByteArray, y_ = (x4_1 ++ [t209]) := ⟨_, rfl⟩
      replace H : (belvedereref10_List.l0 k1 a0 y210 (wrap64 (x6_1 + 1)) (wrap64 (x6_1 + 1))) = some (r1, r2) := by first | (rw [hy206]; with_reducible exact H) | (have H2_ := (Option.bind_some _ _).symm.trans H; rw [hy206]; with_reducible exact H2_) | (have H2_ := (Option.bind_some _ _).symm.trans H; with_reducible exact H2_) | with_reducible exact H | (rw [hy206]; exact H) | exact H
      have Ny210 := As hy206;clear hy206;have H' := As H;clear H
      have m2_ := trivial
     rotate_left
     focus
      rw [if_neg c5] at H;have c5b0 : (x6_1 == (a0.size : Int)) = false := beq_eq_false_iff_ne.mpr c5;have c5b1 : (x6_1 != (a0.size : Int)) = true := bne_iff_ne.mpr c5
      by_cases c12 : 0 ≤ x6_1
      rotate_left
      ·rw [if_neg c12] at H;exact absurd H (by simp)
      rw [if_pos c12] at H;have c12b0 : decide (0 ≤ x6_1) = true := dY c12;clear c12
      by_cases c13 : x6_1 < (a0.size : Int)
      rotate_left
      ·rw [if_neg c13] at H;exact absurd H (by simp)
      rw [if_pos c13] at H;have c13b0 : decide (x6_1 < (a0.size : Int)) = true := dY c13;clear c13
      by_cases c15 : (bt a0 x6_1) = 44
      focus
       rw [if_pos c15] at H;have c15b0 : ((bt a0 x6_1) == 44) = true := beq_iff_eq.mpr c15;have c15b1 : ((bt a0 x6_1) != 44) = false := bne_eq_false_iff_eq.mpr c15;clear c15
       by_cases c16 : 0 ≤ x5_1
       rotate_left
       ·rw [if_neg c16] at H;exact absurd H (by simp)
       rw [if_pos c16] at H;have c16b0 := eq_true c16;have c16b1 : decide (0 ≤ x5_1) = true := dY c16;clear c16
       by_cases c17 : x5_1 ≤ x6_1
       rotate_left
       ·rw [if_neg c17] at H;exact absurd H (by simp)
       rw [if_pos c17] at H;have c17b0 := eq_true c17;have c17b1 : decide (x5_1 ≤ x6_1) = true := dY c17;clear c17;have c18b0 := eq_true (dT hy : x6_1 ≤ (a0.size : Int));replace H := bE H;obtain ⟨t209, A190, H⟩ := H;replace H : (if x4_1.length < 8796093022208 then (belvedereref10_List.l0 k1 a0 (x4_1 ++ [t209]) (wrap64 (x6_1 + 1)) (wrap64 (x6_1 + 1))) else (none)) = some (r1, r2) := H;have A19 := As A190;clear A190
       by_cases c20 : x4_1.length < 8796093022208
       rotate_left
       ·rw [if_neg c20] at H;exact absurd H (by simp)
       rw [if_pos c20] at H;have LMc20 := As c20;clear c20
       obtain ⟨y210, hy210⟩ : ∃ y_ : List ByteArray, y_ = (x4_1 ++ [t209]) := ⟨_, rfl⟩
       replace H : (belvedereref10_List.l0 k1 a0 y210 (wrap64 (x6_1 + 1)) (wrap64 (x6_1 + 1))) = some (r1, r2) := by first | (rw [hy210]; with_reducible exact H) | (have H2_ := (Option.bind_some _ _).symm.trans H; rw [hy210]; with_reducible exact H2_) | (have H2_ := (Option.bind_some _ _).symm.trans H; with_reducible exact H2_) | with_reducible exact H | (rw [hy210]; exact H) | exact H
       have Ny210 := As hy210;clear hy210;have H' := As H;clear H;have p14 : 0 ≤ (x6_1 : Int) := dT hy;have q14 : x6_1 < (a0.size : Int) := dT hy;have hx14 := bt_at a0 x6_1;replace p14 := eq_true p14;replace q14 := eq_true q14
       have m1_ := trivial
      rotate_left
      rw [if_neg c15] at H;have c15b0 : ((bt a0 x6_1) == 44) = false := beq_eq_false_iff_ne.mpr c15;have c15b1 : ((bt a0 x6_1) != 44) = true := bne_iff_ne.mpr c15;have H' := As H;clear H;have p14 : 0 ≤ (x6_1 : Int) := dT hy;have q14 : x6_1 < (a0.size : Int) := dT hy;have hx14 := bt_at a0 x6_1;replace p14 := eq_true p14;replace q14 := eq_true q14
    rotate_left 3
    focus
     rw [if_neg c4] at H;have c4b0 : decide (x6_1 ≤ (a0.size : Int)) = false := dN c4;clear c4;replace H := bE H;obtain ⟨t213, A220, H⟩ := H;replace H : (if t213 = 0 then (some (x4_1, 0)) else (some (([] : List ByteArray), t213))) = some (r1, r2) := H;have A22 := As A220;clear A220
     by_cases c23 : t213 = 0
     rw [if_pos c23] at H;have c23b0 : (t213 == 0) = true := beq_iff_eq.mpr c23;have c23b1 : (t213 != 0) = false := bne_eq_false_iff_eq.mpr c23;clear c23;simp only [Option.some.injEq, Prod.mk.injEq] at H;obtain ⟨rfl, rfl⟩ := H;obtain ⟨Ao25, co25, eo24⟩ := Kd.R_slice HO_4.out;subst eo24
     have m4_ := trivial
     rotate_left
     rw [if_neg c23] at H;have c23b0 : (t213 == 0) = false := beq_eq_false_iff_ne.mpr c23;have c23b1 : (t213 != 0) = true := bne_iff_ne.mpr c23;simp only [Option.some.injEq, Prod.mk.injEq] at H;obtain ⟨rfl, rfl⟩ := H;obtain ⟨Ao25, co25, eo25⟩ := Kd.R_slice HO_4.out;subst eo25
     have m3_ := trivial
    all_goals try
     first | (clear m1_; have m1_ := trivial) | (clear m2_; have m2_ := trivial)
     go_wp2_with (first | ((with_reducible refine gate_callee (f := 39) rfl ?_); refine goesL_ (some 32) rfl rfl Tryz.func39 kr rfl #[.string (a0.extract (x5_1 : Int).toNat (x6_1 : Int).toNat)] rfl sa ?_; (with_reducible refine (belvedereref10_trim.calls k1 (a0.extract (x5_1 : Int).toNat (x6_1 : Int).toNat) _ _ A19.out).mono ?_); rintro e w' ⟨rfl, ⟨nd, rfl⟩⟩; refine ⟨_, rfl, ?_⟩) | ((with_reducible refine gate_builtin (b := .append) (xs := #[.tmp 27, .tmp 33]) rfl ?_); at_builtin; refine Kd.R_append Kd.string (w0 := w) w.heap.size rfl (.tmp 27) (.tmp 33) 23 9 (.string ⟨#[]⟩) 16 rfl Tryz.underlying23 info9 rfl (by decide) (by omega) u4 x4_1 t209 [.string t209] (fun _ => True) (fun _ => False) rfl rfl ?aP (fun _ hk => hk.elim) ?aF ?aO ?aB ?aS ?aL ?_; (case aP => exact rfl); (case aB => exact (be HB.out)); (case aF => exact (fun _ _ => trivial)); (case aO => exact (ro HO_4.out)); (case aS => exact (XZ (be HB.out))); (case aL => have := LMc20.out; omega); intro v211 w21 ho hb hg hat; rw [← Ny210.out] at ho; have n0_ := As (hb); have n1_ := As (ho); clear HB; clear HO_4; have HB := n0_; have HO212 := n1_; clear n0_ n1_; clear ho hb hg hat))
     go_roundg k1
     case measure => have := HK1.out; omega
     case rel => exact ⟨(y210), (wrap64 (x6_1 + 1)), (wrap64 (x6_1 + 1)), sw, sw, H', ⟨by have := HK1.out; omega⟩, ⟨by (with_reducible repeat (first | apply RA | apply RN | apply RD)); exact HO212.out⟩, ⟨by repeat (first | (with_reducible first | exact HB.out | apply XA | apply XN | apply XD) | exact HB.out)⟩⟩
    all_goals try
     first | (clear m3_; have m3_ := trivial) | (clear m4_; have m4_ := trivial)
     go_wp2_with (first | ((with_reducible refine gate_callee (f := 40) rfl ?_); refine goesL_ (some 38) rfl rfl Tryz.func40 kr rfl #[.slice Ao25 x4_1.length co25] rfl sa ?_; (with_reducible refine (belvedereref10_check.calls k1 _ _ x4_1 _ _ ?side1 ?side2 A22.out).mono ?_); (case side1 => repeat (first | exact (RR HO_4.out).2.2 | (with_reducible refine Kd.C_alloc ?_ _) | (with_reducible refine Kd.C_drewN ?_ _) | (with_reducible refine Kd.C_drew ?_))); (case side2 => exact (RR HO_4.out).2.1); rintro e w' ⟨rfl, ⟨nd, rfl⟩⟩; refine ⟨_, rfl, ?_⟩))
     go_ret2
    ·exact ⟨_, by first | rfl | (simp [errW_none, errW_some] <;> rfl) | (simp [*, errW_none, errW_some] <;> rfl), by first | exact Kd.R_nil _ _ _ _ _ | exact Kd.N_nil _ _ _ _ _ | exact Kd.V_nil _ _ _ _ _ | exact Kd.Q_nil _ _ _ _ _ | exact Kd.S_nil _ _ _ _ _, by repeat (first | (with_reducible first | exact HB.out | apply XA | apply XN | apply XD) | exact HB.out)⟩
    ·exact ⟨_, by first | rfl | (simp [errW_none, errW_some] <;> rfl) | (simp [*, errW_none, errW_some] <;> rfl), by (with_reducible repeat (first | apply RA | apply RN | apply RD)); exact HO_4.out, by repeat (first | (with_reducible first | exact HB.out | apply XA | apply XN | apply XD) | exact HB.out)⟩
    ·go_wp2
     go_roundg k1
     case measure => have := HK1.out; omega
     case rel => exact ⟨(x4_1), (x5_1), (wrap64 (x6_1 + 1)), sw, sw, H', ⟨by have := HK1.out; omega⟩, ⟨by (with_reducible repeat (first | apply RA | apply RN | apply RD)); exact HO_4.out⟩, ⟨by repeat (first | (with_reducible first | exact HB.out | apply XA | apply XN | apply XD) | exact HB.out)⟩⟩
 ·go_ret2
  exact ⟨_, by first | rfl | (simp [errW_none, errW_some] <;> rfl) | (simp [*, errW_none, errW_some] <;> rfl), by first | exact Kd.R_nil _ _ _ _ _ | exact Kd.N_nil _ _ _ _ _ | exact Kd.V_nil _ _ _ _ _ | exact Kd.Q_nil _ _ _ _ _ | exact Kd.S_nil _ _ _ _ _, by repeat (first | (with_reducible first | exact HB.out | apply XA | apply XN | apply XD) | exact HB.out)⟩

/-! ### belvedereref10_at: function 33 -/
def belvedereref10_at.l0 : Nat → ByteArray → Int → Int → Option (Int)
 | 0, _, _, _ => none
 | k + 1, x0, x1, x5 => if x5 < (x0.size : Int) then (if 0 ≤ x5 then (if (bt x0 x5) = x1 then (some x5) else (belvedereref10_at.l0 k x0 x1 (wrap64 (x5 + 1)))) else (none)) else (some (-1))
def belvedereref10_at.f (k : Nat) (a0 : ByteArray) (a1 : Int) : Option (Int) := belvedereref10_at.l0 k a0 a1 0
theorem belvedereref10_at.mono_l : ∀ k, (∀ y0 y1 y2, LeO (belvedereref10_at.l0 k y0 y1 y2) (belvedereref10_at.l0 (k + 1) y0 y1 y2))
 | 0 => fun _ _ _ r h => by simp [belvedereref10_at.l0] at h
 | k + 1 => by
  have ih0 := belvedereref10_at.mono_l k
  ·intro y0 y1 y2;unfold belvedereref10_at.l0
   repeat' first
   | (with_reducible exact ih0 _ _ _)
   | (with_reducible exact LeO.refl _)
   | (with_reducible exact LeO.none _)
   | (with_reducible refine LeO.ite ?_ ?_)
   | (with_reducible refine LeO.bind ?_ (fun _ => ?_))
   | exact ih0 _ _ _
   | exact LeO.none _
   | refine LeO.ite ?_ ?_
   | refine LeO.bind ?_ (fun _ => ?_)
theorem belvedereref10_at.mono : ∀ a0 a1 k, LeO (belvedereref10_at.f k a0 a1) (belvedereref10_at.f (k + 1) a0 a1) := by
 intro a0 a1 k;have ih0 := belvedereref10_at.mono_l k;unfold belvedereref10_at.f
 repeat' first
   | (with_reducible exact ih0 _ _ _)
   | (with_reducible exact LeO.refl _)
   | (with_reducible exact LeO.none _)
   | (with_reducible refine LeO.ite ?_ ?_)
   | (with_reducible refine LeO.bind ?_ (fun _ => ?_))
   | exact ih0 _ _ _
   | exact LeO.none _
   | refine LeO.ite ?_ ?_
   | refine LeO.bind ?_ (fun _ => ?_)
set_option maxHeartbeats 8000000 in
set_option maxRecDepth 100000 in
theorem belvedereref10_at.calls (k : Nat) (a0 : ByteArray) (a1 : Int) (r : Int) (w : World) (h : belvedereref10_at.f k a0 a1 = some r) :
  Calls Tryz.prog 33 #[.string a0, .int .u8 a1] w fun e w' => e = .returned (.int .i64 r) ∧ Drawn0 w w' := by
 have H : (belvedereref10_at.l0 k a0 a1 0) = some r := h;clear h;have H' := As H;clear H
 go_enter Tryz.func33, Tryz.ntmps33
 go_wp2
 go_loopg [5] k (fun kq v5 w' => ∃ (x5_1 : Int), v5 = .int .i64 x5_1 ∧ Aside0 (belvedereref10_at.l0 kq a0 a1 x5_1 = some r) ∧ Aside0 (kq ≤ k) ∧ Drawn0 w w')
 case atStart => exact ⟨(0), sw, H', ⟨Nat.le_refl _⟩, by repeat (first | exact Drawn0.refl _ | apply Drawn0.step)⟩
 case round =>
  clear H'
  try clear p2
  obtain ⟨x5_1, rfl, HA, HK1, ⟨m1, rfl⟩⟩ := hrel
  cases gk with
  | zero => exact absurd HA.out (by simp [belvedereref10_at.l0])
  | succ k1 =>
   have H := HA.out;clear HA;simp only [belvedereref10_at.l0] at H
   by_cases c3 : x5_1 < (a0.size : Int)
   ·rw [if_pos c3] at H;have c3b0 : decide (x5_1 < (a0.size : Int)) = true := dY c3;clear c3
    by_cases c4 : 0 ≤ x5_1
    ·rw [if_pos c4] at H;have c4b0 : decide (0 ≤ x5_1) = true := dY c4;clear c4
     by_cases c6 : (bt a0 x5_1) = a1
     ·rw [if_pos c6] at H;have c6b0 : ((bt a0 x5_1) == a1) = true := beq_iff_eq.mpr c6;have c6b1 : ((bt a0 x5_1) != a1) = false := bne_eq_false_iff_eq.mpr c6;clear c6;obtain rfl := Option.some.inj H;have p5 : 0 ≤ (x5_1 : Int) := dT hy;have q5 : x5_1 < (a0.size : Int) := dT hy;have hx5 := bt_at a0 x5_1;replace p5 := eq_true p5;replace q5 := eq_true q5
      go_wp2
      go_ret
      exact ⟨by first | rfl | (simp; done) | (simp [*]; done) | (simp; unfold wrap64; omega), by repeat (first | exact Drawn0.refl _ | apply Drawn0.step)⟩
     ·rw [if_neg c6] at H;have c6b0 : ((bt a0 x5_1) == a1) = false := beq_eq_false_iff_ne.mpr c6;have c6b1 : ((bt a0 x5_1) != a1) = true := bne_iff_ne.mpr c6;have H' := As H;clear H;have p5 : 0 ≤ (x5_1 : Int) := dT hy;have q5 : x5_1 < (a0.size : Int) := dT hy;have hx5 := bt_at a0 x5_1;replace p5 := eq_true p5;replace q5 := eq_true q5
      go_wp2
      go_roundg k1
      case measure => have := HK1.out; omega
      case rel => exact ⟨(wrap64 (x5_1 + 1)), sw, H', ⟨by have := HK1.out; omega⟩, by repeat (first | exact Drawn0.refl _ | apply Drawn0.step)⟩
    ·rw [if_neg c4] at H;exact absurd H (by simp)
   ·rw [if_neg c3] at H;have c3b0 : decide (x5_1 < (a0.size : Int)) = false := dN c3;clear c3;obtain rfl := Option.some.inj H
    go_wp2
    go_ret
    exact ⟨by first | rfl | (simp; done) | (simp [*]; done) | (simp; unfold wrap64; omega), by repeat (first | exact Drawn0.refl _ | apply Drawn0.step)⟩

/-! ### belvedereref10_May: function 32 -/
def belvedereref10_May.l0 : Nat → ByteArray → Int → Option (Bool)
 | 0, _, _ => none
 | k + 1, x0, x3 => if x3 < (x0.size : Int) then (if 0 ≤ x3 then (if (bt x0 x3) < 97 then (some false) else (if (bt x0 x3) > 122 then (some false) else ((belvedereref10_at.f k x0 (bt x0 x3)).bind fun t214 => (if t214 = x3 then (belvedereref10_May.l0 k x0 (wrap64 (x3 + 1))) else (some false))))) else (none)) else (some (decide ((x0.size : Int) ≤ 16)))
def belvedereref10_May.f (k : Nat) (a0 : ByteArray) : Option (Bool) := belvedereref10_May.l0 k a0 0
theorem belvedereref10_May.mono_l : ∀ k, (∀ y0 y1, LeO (belvedereref10_May.l0 k y0 y1) (belvedereref10_May.l0 (k + 1) y0 y1))
 | 0 => fun _ _ r h => by simp [belvedereref10_May.l0] at h
 | k + 1 => by
  have ih0 := belvedereref10_May.mono_l k
  ·intro y0 y1;unfold belvedereref10_May.l0
   repeat' first
   | (with_reducible exact ih0 _ _)
   | (with_reducible exact belvedereref10_at.mono _ _ _)
   | (with_reducible exact LeO.refl _)
   | (with_reducible exact LeO.none _)
   | (with_reducible refine LeO.ite ?_ ?_)
   | (with_reducible refine LeO.bind ?_ (fun _ => ?_))
   | exact ih0 _ _
   | exact belvedereref10_at.mono _ _ _
   | exact LeO.none _
   | refine LeO.ite ?_ ?_
   | refine LeO.bind ?_ (fun _ => ?_)
theorem belvedereref10_May.mono : ∀ a0 k, LeO (belvedereref10_May.f k a0) (belvedereref10_May.f (k + 1) a0) := by
 intro a0 k;have ih0 := belvedereref10_May.mono_l k;unfold belvedereref10_May.f
 repeat' first
   | (with_reducible exact ih0 _ _)
   | (with_reducible exact belvedereref10_at.mono _ _ _)
   | (with_reducible exact LeO.refl _)
   | (with_reducible exact LeO.none _)
   | (with_reducible refine LeO.ite ?_ ?_)
   | (with_reducible refine LeO.bind ?_ (fun _ => ?_))
   | exact ih0 _ _
   | exact belvedereref10_at.mono _ _ _
   | exact LeO.none _
   | refine LeO.ite ?_ ?_
   | refine LeO.bind ?_ (fun _ => ?_)
set_option maxHeartbeats 8000000 in
set_option maxRecDepth 100000 in
theorem belvedereref10_May.calls (k : Nat) (a0 : ByteArray) (r : Bool) (w : World) (h : belvedereref10_May.f k a0 = some r) :
  Calls Tryz.prog 32 #[.string a0] w fun e w' => e = .returned (.bool r) ∧ Drawn0 w w' := by
 have H : (belvedereref10_May.l0 k a0 0) = some r := h;clear h;have H' := As H;clear H
 go_enter Tryz.func32, Tryz.ntmps32
 go_wp2
 go_loopg [3] k (fun kq v3 w' => ∃ (x3_1 : Int), v3 = .int .i64 x3_1 ∧ Aside0 (belvedereref10_May.l0 kq a0 x3_1 = some r) ∧ Aside0 (kq ≤ k) ∧ Drawn0 w w')
 case atStart => exact ⟨(0), sw, H', ⟨Nat.le_refl _⟩, by repeat (first | exact Drawn0.refl _ | apply Drawn0.step)⟩
 case round =>
  clear H';obtain ⟨x3_1, rfl, HA, HK1, ⟨m1, rfl⟩⟩ := hrel
  cases gk with
  | zero => exact absurd HA.out (by simp [belvedereref10_May.l0])
  | succ k1 =>
   have H := HA.out;clear HA;simp only [belvedereref10_May.l0] at H
   by_cases c2 : x3_1 < (a0.size : Int)
   focus
    rw [if_pos c2] at H;have c2b0 : decide (x3_1 < (a0.size : Int)) = true := dY c2;clear c2
    by_cases c3 : 0 ≤ x3_1
    rotate_left
    ·rw [if_neg c3] at H;exact absurd H (by simp)
    rw [if_pos c3] at H;have c3b0 : decide (0 ≤ x3_1) = true := dY c3;clear c3
    by_cases c5 : (bt a0 x3_1) < 97
    rw [if_pos c5] at H;have c5b0 : decide ((bt a0 x3_1) < 97) = true := dY c5;clear c5;obtain rfl := Option.some.inj H;have p4 : 0 ≤ (x3_1 : Int) := dT hy;have q4 : x3_1 < (a0.size : Int) := dT hy;have hx4 := bt_at a0 x3_1;replace p4 := eq_true p4;replace q4 := eq_true q4
    have m5_ := trivial
    rotate_left
    focus
     rw [if_neg c5] at H;have c5b0 : decide ((bt a0 x3_1) < 97) = false := dN c5;clear c5
     by_cases c7 : (bt a0 x3_1) > 122
     rw [if_pos c7] at H;have c7b0 : decide (122 < (bt a0 x3_1)) = true := dY c7;clear c7;obtain rfl := Option.some.inj H;have p4 : 0 ≤ (x3_1 : Int) := dT hy;have q4 : x3_1 < (a0.size : Int) := dT hy;have hx4 := bt_at a0 x3_1;replace p4 := eq_true p4;replace q4 := eq_true q4;have p6 : 0 ≤ (x3_1 : Int) := dT hy;have q6 : x3_1 < (a0.size : Int) := dT hy;have hx6 := bt_at a0 x3_1;replace p6 := eq_true p6;replace q6 := eq_true q6
     have m4_ := trivial
     rotate_left
     focus
      rw [if_neg c7] at H;have c7b0 : decide (122 < (bt a0 x3_1)) = false := dN c7;clear c7;replace H := bE H;obtain ⟨t214, A90, H⟩ := H;replace H : (if t214 = x3_1 then (belvedereref10_May.l0 k1 a0 (wrap64 (x3_1 + 1))) else (some false)) = some r := H;have A9 := As A90;clear A90
      by_cases c10 : t214 = x3_1
      rw [if_pos c10] at H;have c10b0 : (t214 == x3_1) = true := beq_iff_eq.mpr c10;have c10b1 : (t214 != x3_1) = false := bne_eq_false_iff_eq.mpr c10;clear c10;have H' := As H;clear H;have p4 : 0 ≤ (x3_1 : Int) := dT hy;have q4 : x3_1 < (a0.size : Int) := dT hy;have hx4 := bt_at a0 x3_1;replace p4 := eq_true p4;replace q4 := eq_true q4;have p6 : 0 ≤ (x3_1 : Int) := dT hy;have q6 : x3_1 < (a0.size : Int) := dT hy;have hx6 := bt_at a0 x3_1;replace p6 := eq_true p6;replace q6 := eq_true q6;have p8 : 0 ≤ (x3_1 : Int) := dT hy;have q8 : x3_1 < (a0.size : Int) := dT hy;have hx8 := bt_at a0 x3_1;replace p8 := eq_true p8;replace q8 := eq_true q8
      have m2_ := trivial
      rotate_left
      rw [if_neg c10] at H;have c10b0 : (t214 == x3_1) = false := beq_eq_false_iff_ne.mpr c10;have c10b1 : (t214 != x3_1) = true := bne_iff_ne.mpr c10;obtain rfl := Option.some.inj H;have p4 : 0 ≤ (x3_1 : Int) := dT hy;have q4 : x3_1 < (a0.size : Int) := dT hy;have hx4 := bt_at a0 x3_1;replace p4 := eq_true p4;replace q4 := eq_true q4;have p6 : 0 ≤ (x3_1 : Int) := dT hy;have q6 : x3_1 < (a0.size : Int) := dT hy;have hx6 := bt_at a0 x3_1;replace p6 := eq_true p6;replace q6 := eq_true q6;have p8 : 0 ≤ (x3_1 : Int) := dT hy;have q8 : x3_1 < (a0.size : Int) := dT hy;have hx8 := bt_at a0 x3_1;replace p8 := eq_true p8;replace q8 := eq_true q8
      have m1_ := trivial
   rotate_left 4
   rw [if_neg c2] at H;have c2b0 : decide (x3_1 < (a0.size : Int)) = false := dN c2;clear c2;obtain rfl := Option.some.inj H
   have m3_ := trivial
   all_goals try
    first | (clear m1_; have m1_ := trivial) | (clear m2_; have m2_ := trivial)
    go_wp2_with (first | (go_at_call 33; (with_reducible refine (belvedereref10_at.calls k1 a0 (bt a0 x3_1) _ _ A9.out).mono ?_); rintro e w' ⟨rfl, ⟨nd, rfl⟩⟩))
   all_goals try
    first | (clear m3_; have m3_ := trivial) | (clear m4_; have m4_ := trivial) | (clear m5_; have m5_ := trivial)
    go_wp2
    go_ret
    exact ⟨by first | rfl | (simp; done) | (simp [*]; done) | (simp; unfold wrap64; omega), by repeat (first | exact Drawn0.refl _ | apply Drawn0.step)⟩
   ·go_ret
    exact ⟨by first | rfl | (simp; done) | (simp [*]; done) | (simp; unfold wrap64; omega), by repeat (first | exact Drawn0.refl _ | apply Drawn0.step)⟩
   ·go_roundg k1
    case measure => have := HK1.out; omega
    case rel => exact ⟨(wrap64 (x3_1 + 1)), sw, H', ⟨by have := HK1.out; omega⟩, by repeat (first | exact Drawn0.refl _ | apply Drawn0.step)⟩

end Go.Proofs.YtahjnjlkpbjfnaaGreatDoor.P
-- SHRUNK
-- PACKED
-- PACKED2
