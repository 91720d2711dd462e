-- written by myprint.py (this claim's own program, after the kit's print)
import Derived.Test.YtegiikkbeknodaaDoorPx0
import Derived.Test.YtegiikkbeknodaaDoorPack
namespace Go.Proofs.YtegiikkbeknodaaDoor.P
open Go.RowKit Go.Proofs.YtegiikkbeknodaaDoorW.PrintWords Go.Proofs.YtegiikkbeknodaaDoorW.PrintLast Go.Proofs.YtegiikkbeknodaaDoorW.PrintMore
attribute [local go_sem] max2_int min2_int max_two min_two max_three min_three max_four min_four   -- for this text's walks alone
set_option linter.unusedVariables false
set_option linter.unusedSimpArgs false

/-! ### r5_digits: function 29 -/
def r5_digits.l0 : Nat → Int → Int → ByteArray → Option (ByteArray)
 | 0, _, _, _ => none
 | k + 1, x0, x1, x5 => if x0 > 0 then (if 0 ≤ (Int.tmod x0 10) then (if (Int.tmod x0 10) ≤ (wrap64 ((Int.tmod x0 10) + 1)) then (if (wrap64 ((Int.tmod x0 10) + 1)) ≤ 10 then (if ((⟨#[48, 49, 50, 51, 52, 53, 54, 55, 56, 57]⟩ : ByteArray).extract ((Int.tmod x0 10) : Int).toNat ((wrap64 ((Int.tmod x0 10) + 1)) : Int).toNat).size + x5.size ≤ 9223372036854775807 then (r5_digits.l0 k (wrap64 (Int.tdiv x0 10)) x1 (((⟨#[48, 49, 50, 51, 52, 53, 54, 55, 56, 57]⟩ : ByteArray).extract ((Int.tmod x0 10) : Int).toNat ((wrap64 ((Int.tmod x0 10) + 1)) : Int).toNat) ++ x5)) else (none)) else (none)) else (none)) else (none)) else (if (x5.size : Int) < x1 then (if 0 ≤ (Int.tmod x0 10) then (if (Int.tmod x0 10) ≤ (wrap64 ((Int.tmod x0 10) + 1)) then (if (wrap64 ((Int.tmod x0 10) + 1)) ≤ 10 then (if ((⟨#[48, 49, 50, 51, 52, 53, 54, 55, 56, 57]⟩ : ByteArray).extract ((Int.tmod x0 10) : Int).toNat ((wrap64 ((Int.tmod x0 10) + 1)) : Int).toNat).size + x5.size ≤ 9223372036854775807 then (r5_digits.l0 k (wrap64 (Int.tdiv x0 10)) x1 (((⟨#[48, 49, 50, 51, 52, 53, 54, 55, 56, 57]⟩ : ByteArray).extract ((Int.tmod x0 10) : Int).toNat ((wrap64 ((Int.tmod x0 10) + 1)) : Int).toNat) ++ x5)) else (none)) else (none)) else (none)) else (none)) else (some x5))
def r5_digits.f (k : Nat) (a0 : Int) (a1 : Int) : Option (ByteArray) := r5_digits.l0 k a0 a1 (⟨#[]⟩ : ByteArray)
theorem r5_digits.mono_l : ∀ k, (∀ y0 y1 y2, LeO (r5_digits.l0 k y0 y1 y2) (r5_digits.l0 (k + 1) y0 y1 y2))
 | 0 => fun _ _ _ r h => by simp [r5_digits.l0] at h
 | k + 1 => by
  have ih0 := r5_digits.mono_l k
  ·intro y0 y1 y2;unfold r5_digits.l0
   repeat' first
   | (with_reducible exact ih0 _ _ _)
   | (with_reducible exact LeO.refl _)
   | (with_reducible exact LeO.none _)
   | (with_reducible refine LeO.ite ?_ ?_)
   | (with_reducible refine LeO.bind ?_ (fun _ => ?_))
   | exact ih0 _ _ _
   | exact LeO.none _
   | refine LeO.ite ?_ ?_
   | refine LeO.bind ?_ (fun _ => ?_)
theorem r5_digits.mono : ∀ a0 a1 k, LeO (r5_digits.f k a0 a1) (r5_digits.f (k + 1) a0 a1) := by
 intro a0 a1 k;have ih0 := r5_digits.mono_l k;unfold r5_digits.f
 repeat' first
   | (with_reducible exact ih0 _ _ _)
   | (with_reducible exact LeO.refl _)
   | (with_reducible exact LeO.none _)
   | (with_reducible refine LeO.ite ?_ ?_)
   | (with_reducible refine LeO.bind ?_ (fun _ => ?_))
   | exact ih0 _ _ _
   | exact LeO.none _
   | refine LeO.ite ?_ ?_
   | refine LeO.bind ?_ (fun _ => ?_)
set_option maxHeartbeats 8000000 in
set_option maxRecDepth 100000 in
theorem r5_digits.calls (k : Nat) (a0 : Int) (a1 : Int) (r : ByteArray) (w : World) (h : r5_digits.f k a0 a1 = some r) :
  Calls Tryd.prog 29 #[.int .i64 a0, .int .i64 a1] w fun e w' => e = .returned (.string r) ∧ Drawn0 w w' := by
 have H : (r5_digits.l0 k a0 a1 (⟨#[]⟩ : ByteArray)) = some r := h;clear h;have H' := As H;clear H
 go_enter Tryd.func29, Tryd.ntmps29
 go_wp2
 go_loopg [0, 5] k (fun kq v0 v5 w' => ∃ (x0_1 : Int) (x5_1 : ByteArray), v0 = .int .i64 x0_1 ∧ v5 = .string x5_1 ∧ Aside0 (r5_digits.l0 kq x0_1 a1 x5_1 = some r) ∧ Aside0 (kq ≤ k) ∧ Drawn0 w w')
 case atStart => exact ⟨(a0), ((⟨#[]⟩ : ByteArray)), sw, sw, H', ⟨Nat.le_refl _⟩, by repeat (first | exact Drawn0.refl _ | apply Drawn0.step)⟩
 case round =>
  clear H'
  try clear c2
  try clear p2
  obtain ⟨x0_1, x5_1, rfl, rfl, HA, HK1, ⟨m1, rfl⟩⟩ := hrel
  cases gk with
  | zero => exact absurd HA.out (by simp [r5_digits.l0])
  | succ k1 =>
   have H := HA.out;clear HA;simp only [r5_digits.l0] at H
   by_cases c3 : x0_1 > 0
   focus
    rw [if_pos c3] at H;have c3b0 : decide (0 < x0_1) = true := dY c3;clear c3
    obtain ⟨ji10, hji10⟩ : ∃ j_ : Int, (Int.tmod x0_1 10) = j_ := ⟨_, rfl⟩
    replace H : (if 0 ≤ (ji10) then (if (ji10) ≤ (wrap64 ((ji10) + 1)) then (if (wrap64 ((ji10) + 1)) ≤ 10 then (if ((⟨#[48, 49, 50, 51, 52, 53, 54, 55, 56, 57]⟩ : ByteArray).extract ((ji10) : Int).toNat ((wrap64 ((ji10) + 1)) : Int).toNat).size + x5_1.size ≤ 9223372036854775807 then (r5_digits.l0 k1 (wrap64 (Int.tdiv x0_1 10)) a1 (((⟨#[48, 49, 50, 51, 52, 53, 54, 55, 56, 57]⟩ : ByteArray).extract ((ji10) : Int).toNat ((wrap64 ((ji10) + 1)) : Int).toNat) ++ x5_1)) else (none)) else (none)) else (none)) else (none)) = some r := by first | (rw [hji10] at H; exact H) | (simp only [hji10] at H ⊢; exact H)
    by_cases c5 : 0 ≤ (ji10)
    rotate_left
    ·rw [if_neg c5] at H;exact absurd H (by simp)
    rw [if_pos c5] at H;have c5b0 := eq_true c5;have c5b1 : decide (0 ≤ (ji10)) = true := dY c5;clear c5
    by_cases c6 : (ji10) ≤ (wrap64 ((ji10) + 1))
    rotate_left
    ·rw [if_neg c6] at H;exact absurd H (by simp)
    rw [if_pos c6] at H;have c6b0 := eq_true c6;have c6b1 : decide ((ji10) ≤ (wrap64 ((ji10) + 1))) = true := dY c6
    by_cases c7 : (wrap64 ((ji10) + 1)) ≤ 10
    rotate_left
    ·rw [if_neg c7] at H;exact absurd H (by simp)
    rw [if_pos c7] at H;have c7b0 := eq_true c7;have c7b1 : decide ((wrap64 ((ji10) + 1)) ≤ 10) = true := dY c7
    by_cases c8 : ((⟨#[48, 49, 50, 51, 52, 53, 54, 55, 56, 57]⟩ : ByteArray).extract ((ji10) : Int).toNat ((wrap64 ((ji10) + 1)) : Int).toNat).size + x5_1.size ≤ 9223372036854775807
    rotate_left
    ·rw [if_neg c8] at H;exact absurd H (by simp)
    rw [if_pos c8] at H;have c8b0 := eq_true c8;have c8b1 : decide (((⟨#[48, 49, 50, 51, 52, 53, 54, 55, 56, 57]⟩ : ByteArray).extract ((ji10) : Int).toNat ((wrap64 ((ji10) + 1)) : Int).toNat).size + x5_1.size ≤ 9223372036854775807) = true := dY c8
    try have c8b2 : (9223372036854775807 < ((⟨#[48, 49, 50, 51, 52, 53, 54, 55, 56, 57]⟩ : ByteArray).extract ((ji10) : Int).toNat ((wrap64 ((ji10) + 1)) : Int).toNat).size + x5_1.size) = False := eq_false (Nat.not_lt.2 c8)
    have H' := As H;clear H
    have m2_ := trivial
   rotate_left
   focus
    rw [if_neg c3] at H;have c3b0 : decide (0 < x0_1) = false := dN c3;clear c3
    by_cases c9 : (x5_1.size : Int) < a1
    focus
     rw [if_pos c9] at H;have c9b0 : decide ((x5_1.size : Int) < a1) = true := dY c9;clear c9
     obtain ⟨ji10, hji10⟩ : ∃ j_ : Int, (Int.tmod x0_1 10) = j_ := ⟨_, rfl⟩
     replace H : (if 0 ≤ (ji10) then (if (ji10) ≤ (wrap64 ((ji10) + 1)) then (if (wrap64 ((ji10) + 1)) ≤ 10 then (if ((⟨#[48, 49, 50, 51, 52, 53, 54, 55, 56, 57]⟩ : ByteArray).extract ((ji10) : Int).toNat ((wrap64 ((ji10) + 1)) : Int).toNat).size + x5_1.size ≤ 9223372036854775807 then (r5_digits.l0 k1 (wrap64 (Int.tdiv x0_1 10)) a1 (((⟨#[48, 49, 50, 51, 52, 53, 54, 55, 56, 57]⟩ : ByteArray).extract ((ji10) : Int).toNat ((wrap64 ((ji10) + 1)) : Int).toNat) ++ x5_1)) else (none)) else (none)) else (none)) else (none)) = some r := by first | (rw [hji10] at H; exact H) | (simp only [hji10] at H ⊢; exact H)
     by_cases c11 : 0 ≤ (ji10)
     rotate_left
     ·rw [if_neg c11] at H;exact absurd H (by simp)
     rw [if_pos c11] at H;have c11b0 := eq_true c11;have c11b1 : decide (0 ≤ (ji10)) = true := dY c11;clear c11
     by_cases c12 : (ji10) ≤ (wrap64 ((ji10) + 1))
     rotate_left
     ·rw [if_neg c12] at H;exact absurd H (by simp)
     rw [if_pos c12] at H;have c12b0 := eq_true c12;have c12b1 : decide ((ji10) ≤ (wrap64 ((ji10) + 1))) = true := dY c12
     by_cases c13 : (wrap64 ((ji10) + 1)) ≤ 10
     rotate_left
     ·rw [if_neg c13] at H;exact absurd H (by simp)
     rw [if_pos c13] at H;have c13b0 := eq_true c13;have c13b1 : decide ((wrap64 ((ji10) + 1)) ≤ 10) = true := dY c13
     by_cases c14 : ((⟨#[48, 49, 50, 51, 52, 53, 54, 55, 56, 57]⟩ : ByteArray).extract ((ji10) : Int).toNat ((wrap64 ((ji10) + 1)) : Int).toNat).size + x5_1.size ≤ 9223372036854775807
     rotate_left
     ·rw [if_neg c14] at H;exact absurd H (by simp)
     rw [if_pos c14] at H;have c14b0 := eq_true c14;have c14b1 : decide (((⟨#[48, 49, 50, 51, 52, 53, 54, 55, 56, 57]⟩ : ByteArray).extract ((ji10) : Int).toNat ((wrap64 ((ji10) + 1)) : Int).toNat).size + x5_1.size ≤ 9223372036854775807) = true := dY c14
     try have c14b2 : (9223372036854775807 < ((⟨#[48, 49, 50, 51, 52, 53, 54, 55, 56, 57]⟩ : ByteArray).extract ((ji10) : Int).toNat ((wrap64 ((ji10) + 1)) : Int).toNat).size + x5_1.size) = False := eq_false (Nat.not_lt.2 c14)
     have H' := As H;clear H
     have m1_ := trivial
    rotate_left
    rw [if_neg c9] at H;have c9b0 : decide ((x5_1.size : Int) < a1) = false := dN c9;clear c9;obtain rfl := Option.some.inj H
   all_goals go_wp2
   all_goals try
    first | (clear m1_; have m1_ := trivial) | (clear m2_; have m2_ := trivial)
    go_roundg k1
    case measure => have := HK1.out; omega
    case rel => exact ⟨(wrap64 (Int.tdiv x0_1 10)), (((⟨#[48, 49, 50, 51, 52, 53, 54, 55, 56, 57]⟩ : ByteArray).extract ((ji10) : Int).toNat ((wrap64 ((ji10) + 1)) : Int).toNat) ++ x5_1), sw, (by first | rfl | (simp; done) | (simp only [← hji10] <;> (first | rfl | simp)) | (simp [*]; done)), H', ⟨by have := HK1.out; omega⟩, by repeat (first | exact Drawn0.refl _ | apply Drawn0.step)⟩
   ·go_ret
    exact ⟨by first | rfl | (simp; done) | (simp [*]; done) | (simp; unfold wrap64; omega), by repeat (first | exact Drawn0.refl _ | apply Drawn0.step)⟩

/-! ### r5_Text: function 30 -/
def r5_Text.f (k : Nat) (a0 : Int) : Option (ByteArray) := (r5_digits.f k (wrap64 (Int.tdiv a0 3600)) 2).bind fun t140 => (if t140.size + 1 ≤ 9223372036854775807 then ((r5_digits.f k (Int.tmod (wrap64 (Int.tdiv a0 60)) 60) 2).bind fun t141 => (if (t140 ++ (⟨#[58]⟩ : ByteArray)).size + t141.size ≤ 9223372036854775807 then (if ((t140 ++ (⟨#[58]⟩ : ByteArray)) ++ t141).size + 1 ≤ 9223372036854775807 then ((r5_digits.f k (Int.tmod a0 60) 2).bind fun t142 => (if (((t140 ++ (⟨#[58]⟩ : ByteArray)) ++ t141) ++ (⟨#[58]⟩ : ByteArray)).size + t142.size ≤ 9223372036854775807 then (some ((((t140 ++ (⟨#[58]⟩ : ByteArray)) ++ t141) ++ (⟨#[58]⟩ : ByteArray)) ++ t142)) else (none))) else (none)) else (none))) else (none))
theorem r5_Text.mono : ∀ a0 k, LeO (r5_Text.f k a0) (r5_Text.f (k + 1) a0) := by
 intro a0 k;unfold r5_Text.f
 repeat' first
   | (with_reducible exact r5_digits.mono _ _ _)
   | (with_reducible exact LeO.refl _)
   | (with_reducible exact LeO.none _)
   | (with_reducible refine LeO.ite ?_ ?_)
   | (with_reducible refine LeO.bind ?_ (fun _ => ?_))
   | exact r5_digits.mono _ _ _
   | exact LeO.none _
   | refine LeO.ite ?_ ?_
   | refine LeO.bind ?_ (fun _ => ?_)
set_option maxHeartbeats 8000000 in
set_option maxRecDepth 100000 in
theorem r5_Text.calls (k : Nat) (a0 : Int) (r : ByteArray) (w : World) (h : r5_Text.f k a0 = some r) :
  Calls Tryd.prog 30 #[.int .i64 a0] w fun e w' => e = .returned (.string r) ∧ Drawn0 w w' := by
 have H : ((r5_digits.f k (wrap64 (Int.tdiv a0 3600)) 2).bind fun t140 => (if t140.size + 1 ≤ 9223372036854775807 then ((r5_digits.f k (Int.tmod (wrap64 (Int.tdiv a0 60)) 60) 2).bind fun t141 => (if (t140 ++ (⟨#[58]⟩ : ByteArray)).size + t141.size ≤ 9223372036854775807 then (if ((t140 ++ (⟨#[58]⟩ : ByteArray)) ++ t141).size + 1 ≤ 9223372036854775807 then ((r5_digits.f k (Int.tmod a0 60) 2).bind fun t142 => (if (((t140 ++ (⟨#[58]⟩ : ByteArray)) ++ t141) ++ (⟨#[58]⟩ : ByteArray)).size + t142.size ≤ 9223372036854775807 then (some ((((t140 ++ (⟨#[58]⟩ : ByteArray)) ++ t141) ++ (⟨#[58]⟩ : ByteArray)) ++ t142)) else (none))) else (none)) else (none))) else (none))) = some r := h;clear h;replace H := bE H;obtain ⟨t140, A20, H⟩ := H;replace H : (if t140.size + 1 ≤ 9223372036854775807 then ((r5_digits.f k (Int.tmod (wrap64 (Int.tdiv a0 60)) 60) 2).bind fun t141 => (if (t140 ++ (⟨#[58]⟩ : ByteArray)).size + t141.size ≤ 9223372036854775807 then (if ((t140 ++ (⟨#[58]⟩ : ByteArray)) ++ t141).size + 1 ≤ 9223372036854775807 then ((r5_digits.f k (Int.tmod a0 60) 2).bind fun t142 => (if (((t140 ++ (⟨#[58]⟩ : ByteArray)) ++ t141) ++ (⟨#[58]⟩ : ByteArray)).size + t142.size ≤ 9223372036854775807 then (some ((((t140 ++ (⟨#[58]⟩ : ByteArray)) ++ t141) ++ (⟨#[58]⟩ : ByteArray)) ++ t142)) else (none))) else (none)) else (none))) else (none)) = some r := H;have A2 := As A20;clear A20
 by_cases c3 : t140.size + 1 ≤ 9223372036854775807
 ·rw [if_pos c3] at H;have c3b0 := eq_true c3;have c3b1 : decide (t140.size + 1 ≤ 9223372036854775807) = true := dY c3
  try have c3b2 : (9223372036854775807 < t140.size + 1) = False := eq_false (Nat.not_lt.2 c3)
  replace H := bE H;obtain ⟨t141, A40, H⟩ := H;replace H : (if (t140 ++ (⟨#[58]⟩ : ByteArray)).size + t141.size ≤ 9223372036854775807 then (if ((t140 ++ (⟨#[58]⟩ : ByteArray)) ++ t141).size + 1 ≤ 9223372036854775807 then ((r5_digits.f k (Int.tmod a0 60) 2).bind fun t142 => (if (((t140 ++ (⟨#[58]⟩ : ByteArray)) ++ t141) ++ (⟨#[58]⟩ : ByteArray)).size + t142.size ≤ 9223372036854775807 then (some ((((t140 ++ (⟨#[58]⟩ : ByteArray)) ++ t141) ++ (⟨#[58]⟩ : ByteArray)) ++ t142)) else (none))) else (none)) else (none)) = some r := H;have A4 := As A40;clear A40
  by_cases c5 : (t140 ++ (⟨#[58]⟩ : ByteArray)).size + t141.size ≤ 9223372036854775807
  ·rw [if_pos c5] at H;have c5b0 := eq_true c5;have c5b1 : decide ((t140 ++ (⟨#[58]⟩ : ByteArray)).size + t141.size ≤ 9223372036854775807) = true := dY c5
   try have c5b2 : (9223372036854775807 < (t140 ++ (⟨#[58]⟩ : ByteArray)).size + t141.size) = False := eq_false (Nat.not_lt.2 c5)
   by_cases c6 : ((t140 ++ (⟨#[58]⟩ : ByteArray)) ++ t141).size + 1 ≤ 9223372036854775807
   ·rw [if_pos c6] at H;have c6b0 := eq_true c6;have c6b1 : decide (((t140 ++ (⟨#[58]⟩ : ByteArray)) ++ t141).size + 1 ≤ 9223372036854775807) = true := dY c6
    try have c6b2 : (9223372036854775807 < ((t140 ++ (⟨#[58]⟩ : ByteArray)) ++ t141).size + 1) = False := eq_false (Nat.not_lt.2 c6)
    replace H := bE H;obtain ⟨t142, A70, H⟩ := H;replace H : (if (((t140 ++ (⟨#[58]⟩ : ByteArray)) ++ t141) ++ (⟨#[58]⟩ : ByteArray)).size + t142.size ≤ 9223372036854775807 then (some ((((t140 ++ (⟨#[58]⟩ : ByteArray)) ++ t141) ++ (⟨#[58]⟩ : ByteArray)) ++ t142)) else (none)) = some r := H;have A7 := As A70;clear A70
    by_cases c8 : (((t140 ++ (⟨#[58]⟩ : ByteArray)) ++ t141) ++ (⟨#[58]⟩ : ByteArray)).size + t142.size ≤ 9223372036854775807
    ·rw [if_pos c8] at H;have c8b0 := eq_true c8;have c8b1 : decide ((((t140 ++ (⟨#[58]⟩ : ByteArray)) ++ t141) ++ (⟨#[58]⟩ : ByteArray)).size + t142.size ≤ 9223372036854775807) = true := dY c8
     try have c8b2 : (9223372036854775807 < (((t140 ++ (⟨#[58]⟩ : ByteArray)) ++ t141) ++ (⟨#[58]⟩ : ByteArray)).size + t142.size) = False := eq_false (Nat.not_lt.2 c8)
     obtain rfl := Option.some.inj H
     have z1 : (⟨#[58]⟩ : ByteArray).size = 1 := rfl
     simp only [ByteArray.size_append, z1] at c3b2 c5b2 c6b2 c8b2
     go_enter Tryd.func30, Tryd.ntmps30
     go_wp2_with (first | ((with_reducible refine gate_callee (f := 29) rfl ?_); refine goesL_ (some 5) rfl rfl Tryd.func29 kr rfl #[.int .i64 (wrap64 (Int.tdiv a0 3600)), .int .i64 2] rfl sa ?_; (with_reducible refine (r5_digits.calls k (wrap64 (Int.tdiv a0 3600)) 2 _ _ A2.out).mono ?_); rintro e w' ⟨rfl, ⟨nd, rfl⟩⟩; refine ⟨_, rfl, ?_⟩) | ((with_reducible refine gate_callee (f := 29) rfl ?_); refine goesL_ (some 10) rfl rfl Tryd.func29 kr rfl #[.int .i64 (Int.tmod (wrap64 (Int.tdiv a0 60)) 60), .int .i64 2] rfl sa ?_; (with_reducible refine (r5_digits.calls k (Int.tmod (wrap64 (Int.tdiv a0 60)) 60) 2 _ _ A4.out).mono ?_); rintro e w' ⟨rfl, ⟨nd, rfl⟩⟩; refine ⟨_, rfl, ?_⟩) | ((with_reducible refine gate_callee (f := 29) rfl ?_); refine goesL_ (some 15) rfl rfl Tryd.func29 kr rfl #[.int .i64 (Int.tmod a0 60), .int .i64 2] rfl sa ?_; (with_reducible refine (r5_digits.calls k (Int.tmod a0 60) 2 _ _ A7.out).mono ?_); rintro e w' ⟨rfl, ⟨nd, rfl⟩⟩; refine ⟨_, rfl, ?_⟩))
     go_ret
     exact ⟨by first | rfl | (simp; done) | (simp [*]; done) | (simp; unfold wrap64; omega), by repeat (first | exact Drawn0.refl _ | apply Drawn0.step)⟩
    ·rw [if_neg c8] at H;exact absurd H (by simp)
   ·rw [if_neg c6] at H;exact absurd H (by simp)
  ·rw [if_neg c5] at H;exact absurd H (by simp)
 ·rw [if_neg c3] at H;exact absurd H (by simp)

/-! ### r5_Hours: function 21 -/
def r5_Hours.j0 : Nat → Int → Bool → Option (ByteArray × Int)
 | 0, _, _ => none
 | k + 1, x0, x9 => if x9 = true then (some ((⟨#[]⟩ : ByteArray), 1)) else (if (Int.tmod x0 60) = 0 then ((r5_Text.f k x0).bind fun t143 => (if 0 ≤ 5 then (if 5 ≤ (t143.size : Int) then (some (t143.extract 0 5, 0)) else (none)) else (none))) else ((r5_Text.f k x0).bind fun t144 => (some (t144, 0))))
def r5_Hours.f (k : Nat) (a0 : Int) : Option (ByteArray × Int) := if a0 < 0 then (r5_Hours.j0 k a0 true) else (r5_Hours.j0 k a0 (decide (a0 > 86400)))
theorem r5_Hours.mono_l : ∀ k, (∀ y0 y1, LeO (r5_Hours.j0 k y0 y1) (r5_Hours.j0 (k + 1) y0 y1))
 | 0 => fun _ _ r h => by simp [r5_Hours.j0] at h
 | k + 1 => by
  have ih0 := r5_Hours.mono_l k
  ·intro y0 y1;unfold r5_Hours.j0
   repeat' first
   | (with_reducible exact ih0 _ _)
   | (with_reducible exact r5_Text.mono _ _)
   | (with_reducible exact LeO.refl _)
   | (with_reducible exact LeO.none _)
   | (with_reducible refine LeO.ite ?_ ?_)
   | (with_reducible refine LeO.bind ?_ (fun _ => ?_))
   | exact ih0 _ _
   | exact r5_Text.mono _ _
   | exact LeO.none _
   | refine LeO.ite ?_ ?_
   | refine LeO.bind ?_ (fun _ => ?_)
theorem r5_Hours.mono : ∀ a0 k, LeO (r5_Hours.f k a0) (r5_Hours.f (k + 1) a0) := by
 intro a0 k;have ih0 := r5_Hours.mono_l k;unfold r5_Hours.f
 repeat' first
   | (with_reducible exact ih0 _ _)
   | (with_reducible exact r5_Text.mono _ _)
   | (with_reducible exact LeO.refl _)
   | (with_reducible exact LeO.none _)
   | (with_reducible refine LeO.ite ?_ ?_)
   | (with_reducible refine LeO.bind ?_ (fun _ => ?_))
   | exact ih0 _ _
   | exact r5_Text.mono _ _
   | exact LeO.none _
   | refine LeO.ite ?_ ?_
   | refine LeO.bind ?_ (fun _ => ?_)
set_option maxHeartbeats 8000000 in
set_option maxRecDepth 100000 in
theorem r5_Hours.calls (k : Nat) (a0 : Int) (r1 : ByteArray) (r2 : Int) (w : World) (h : r5_Hours.f k a0 = some (r1, r2)) :
  Calls Tryd.prog 21 #[.int .i64 a0] w fun e w' => e = .returned (.tuple #[.string r1, .int .i64 r2]) ∧ Drawn0 w w' := by
 have H : (if a0 < 0 then (r5_Hours.j0 k a0 true) else (r5_Hours.j0 k a0 (decide (a0 > 86400)))) = some (r1, r2) := h;clear h;have HC2 := As H;clear H
 go_enter Tryd.func21, Tryd.ntmps21
 go_upto_region 1 with (fail)
 go_cut [9] (fun v9 wc => ∃ (kq : Nat) (x9_1 : Bool), v9 = .bool x9_1 ∧ Aside0 (r5_Hours.j0 kq a0 x9_1 = some (r1, r2)) ∧ Aside0 (kq ≤ k) ∧ Drawn0 w wc)
 case first =>
  have H := HC2.out;clear HC2
  by_cases c3 : a0 < 0
  ·rw [if_pos c3] at H;have c3b0 : decide (a0 < 0) = true := dY c3;clear c3
   (first | rw [c3b0] | (simp only [i64_w, i32_w]; rw [c3b0]) | skip)
   have H' := As H;clear H
   go_wp2
   go_meet
   case rel => exact ⟨_, (true), sw, H', ⟨by first | omega | exact Nat.le_refl _⟩, by repeat (first | exact Drawn0.refl _ | apply Drawn0.step)⟩
  ·rw [if_neg c3] at H;have c3b0 : decide (a0 < 0) = false := dN c3;clear c3
   (first | rw [c3b0] | (simp only [i64_w, i32_w]; rw [c3b0]) | skip)
   have H' := As H;clear H
   go_wp2
   go_meet
   case rel => exact ⟨_, (decide (a0 > 86400)), sw, H', ⟨by first | omega | exact Nat.le_refl _⟩, by repeat (first | exact Drawn0.refl _ | apply Drawn0.step)⟩
 case rest =>
  clear HC2
  try clear c2
  try clear p2
  try clear c3
  try clear c3b0
  obtain ⟨kq, x9_1, rfl, HA, HJ1, ⟨mc1, rfl⟩⟩ := hcut
  cases kq with
  | zero => exact absurd HA.out (by simp [r5_Hours.j0])
  | succ kj1 =>
   have H := HA.out;clear HA;simp only [r5_Hours.j0] at H
   by_cases c4 : x9_1 = true
   ·subst c4
    have H1 : (some ((⟨#[]⟩ : ByteArray), 1)) = some (r1, r2) := by rw [if_pos rfl] at H; exact H
    clear H;have H := H1;clear H1;simp only [Option.some.injEq, Prod.mk.injEq] at H;obtain ⟨rfl, rfl⟩ := H
    go_wp2
    go_ret2
    exact ⟨by first | rfl | (simp; done) | (simp [*]; done) | (simp; unfold wrap64; omega), by repeat (first | exact Drawn0.refl _ | apply Drawn0.step)⟩
   ·replace c4 := Bool.eq_false_iff.mpr c4;subst c4
    have H1 : (if (Int.tmod a0 60) = 0 then ((r5_Text.f kj1 a0).bind fun t143 => (if 0 ≤ 5 then (if 5 ≤ (t143.size : Int) then (some (t143.extract 0 5, 0)) else (none)) else (none))) else ((r5_Text.f kj1 a0).bind fun t144 => (some (t144, 0)))) = some (r1, r2) := by rw [if_neg (show ¬ (false = true) by decide)] at H; exact H
    clear H;have H := H1;clear H1
    by_cases c5 : (Int.tmod a0 60) = 0
    ·rw [if_pos c5] at H;have c5b0 : ((Int.tmod a0 60) == 0) = true := beq_iff_eq.mpr c5;have c5b1 : ((Int.tmod a0 60) != 0) = false := bne_eq_false_iff_eq.mpr c5;clear c5;replace H := bE H;obtain ⟨t143, A60, H⟩ := H;replace H : (if 0 ≤ 5 then (if 5 ≤ (t143.size : Int) then (some (t143.extract 0 5, 0)) else (none)) else (none)) = some (r1, r2) := H;have A6 := As A60;clear A60
     by_cases c7 : 0 ≤ 5
     ·rw [if_pos c7] at H;have c7b0 := eq_true c7;have c7b1 : decide (0 ≤ 5) = true := dY c7;clear c7
      by_cases c8 : 5 ≤ (t143.size : Int)
      ·rw [if_pos c8] at H;have c8b0 := eq_true c8;have c8b1 : decide (5 ≤ (t143.size : Int)) = true := dY c8;clear c8;simp only [Option.some.injEq, Prod.mk.injEq] at H;obtain ⟨rfl, rfl⟩ := H
       go_wp2_with (first | ((with_reducible refine gate_callee (f := 30) rfl ?_); refine goesL_ (some 14) rfl rfl Tryd.func30 kr rfl #[.int .i64 a0] rfl sa ?_; (with_reducible refine (r5_Text.calls kj1 a0 _ _ A6.out).mono ?_); rintro e w' ⟨rfl, ⟨nd, rfl⟩⟩; refine ⟨_, rfl, ?_⟩))
       go_ret2
       exact ⟨by first | rfl | (simp; done) | (simp [*]; done) | (simp; unfold wrap64; omega), by repeat (first | exact Drawn0.refl _ | apply Drawn0.step)⟩
      ·rw [if_neg c8] at H;exact absurd H (by simp)
     ·rw [if_neg c7] at H;exact absurd H (by simp)
    ·rw [if_neg c5] at H;have c5b0 : ((Int.tmod a0 60) == 0) = false := beq_eq_false_iff_ne.mpr c5;have c5b1 : ((Int.tmod a0 60) != 0) = true := bne_iff_ne.mpr c5;replace H := bE H;obtain ⟨t144, A90, H⟩ := H;replace H : (some (t144, 0)) = some (r1, r2) := H;have A9 := As A90;clear A90;simp only [Option.some.injEq, Prod.mk.injEq] at H;obtain ⟨rfl, rfl⟩ := H
     go_wp2_with (first | ((with_reducible refine gate_callee (f := 30) rfl ?_); refine goesL_ (some 17) rfl rfl Tryd.func30 kr rfl #[.int .i64 a0] rfl sa ?_; (with_reducible refine (r5_Text.calls kj1 a0 _ _ A9.out).mono ?_); rintro e w' ⟨rfl, ⟨nd, rfl⟩⟩; refine ⟨_, rfl, ?_⟩))
     go_ret2
     exact ⟨by first | rfl | (simp; done) | (simp [*]; done) | (simp; unfold wrap64; omega), by repeat (first | exact Drawn0.refl _ | apply Drawn0.step)⟩

end Go.Proofs.YtegiikkbeknodaaDoor.P
-- SHRUNK
-- PACKED
-- PACKED2
