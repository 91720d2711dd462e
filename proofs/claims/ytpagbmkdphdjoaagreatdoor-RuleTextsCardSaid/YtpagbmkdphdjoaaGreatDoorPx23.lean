-- written by myprint.py (this claim's own program, after the kit's print)
import Derived.Test.YtpagbmkdphdjoaaGreatDoorPx0
import Derived.Test.YtpagbmkdphdjoaaGreatDoorPx22
import Derived.Test.YtpagbmkdphdjoaaGreatDoorPack
namespace Go.Proofs.YtpagbmkdphdjoaaGreatDoor.P
open Go.RowKit Go.Proofs.YtpagbmkdphdjoaaGreatDoorW.PrintWords Go.Proofs.YtpagbmkdphdjoaaGreatDoorW.PrintLast Go.Proofs.YtpagbmkdphdjoaaGreatDoorW.PrintMore
attribute [local go_sem] max2_int min2_int max_two min_two max_three min_three max_four min_four   -- for this text's walks alone
set_option linter.unusedVariables false
set_option linter.unusedSimpArgs false

/-! ### r6_Text: function 16 -/
def r6_Text.f (k : Nat) (a0_0 : Int) (a0_1 : Int) (a0_2 : Int) (a0_3 : Int) (a0_4 : Int) (a0_5 : Int) (a0_6 : Int) (a0_7 : Int) (a0_8 : Int) (a0_9 : Int) : Option (ByteArray) := if a0_0 = 0 then ((r6_digits.f k a0_3).bind fun t318 => (if 8 + t318.size ≤ 9223372036854775807 then (some ((⟨#[119, 101, 101, 107, 100, 97, 121, 32]⟩ : ByteArray) ++ t318)) else (none))) else (if a0_0 = 1 then ((r6_digits.f k a0_1).bind fun t319 => (if 4 + t319.size ≤ 9223372036854775807 then (if ((⟨#[100, 97, 121, 32]⟩ : ByteArray) ++ t319).size + 1 ≤ 9223372036854775807 then ((r6_digits.f k a0_2).bind fun t320 => (if (((⟨#[100, 97, 121, 32]⟩ : ByteArray) ++ t319) ++ (⟨#[32]⟩ : ByteArray)).size + t320.size ≤ 9223372036854775807 then (some ((((⟨#[100, 97, 121, 32]⟩ : ByteArray) ++ t319) ++ (⟨#[32]⟩ : ByteArray)) ++ t320)) else (none))) else (none)) else (none))) else (if a0_0 = 2 then ((r6_digits.f k a0_1).bind fun t321 => (if 4 + t321.size ≤ 9223372036854775807 then (if ((⟨#[110, 116, 104, 32]⟩ : ByteArray) ++ t321).size + 1 ≤ 9223372036854775807 then ((r6_digits.f k a0_2).bind fun t322 => (if (((⟨#[110, 116, 104, 32]⟩ : ByteArray) ++ t321) ++ (⟨#[32]⟩ : ByteArray)).size + t322.size ≤ 9223372036854775807 then (if ((((⟨#[110, 116, 104, 32]⟩ : ByteArray) ++ t321) ++ (⟨#[32]⟩ : ByteArray)) ++ t322).size + 1 ≤ 9223372036854775807 then ((r6_digits.f k a0_3).bind fun t323 => (if (((((⟨#[110, 116, 104, 32]⟩ : ByteArray) ++ t321) ++ (⟨#[32]⟩ : ByteArray)) ++ t322) ++ (⟨#[32]⟩ : ByteArray)).size + t323.size ≤ 9223372036854775807 then (some ((((((⟨#[110, 116, 104, 32]⟩ : ByteArray) ++ t321) ++ (⟨#[32]⟩ : ByteArray)) ++ t322) ++ (⟨#[32]⟩ : ByteArray)) ++ t323)) else (none))) else (none)) else (none))) else (none)) else (none))) else ((r6_date.f k a0_4 a0_5 a0_6).bind fun t324 => (if 6 + t324.size ≤ 9223372036854775807 then (if ((⟨#[100, 97, 116, 101, 115, 32]⟩ : ByteArray) ++ t324).size + 1 ≤ 9223372036854775807 then ((r6_date.f k a0_7 a0_8 a0_9).bind fun t325 => (if (((⟨#[100, 97, 116, 101, 115, 32]⟩ : ByteArray) ++ t324) ++ (⟨#[32]⟩ : ByteArray)).size + t325.size ≤ 9223372036854775807 then (some ((((⟨#[100, 97, 116, 101, 115, 32]⟩ : ByteArray) ++ t324) ++ (⟨#[32]⟩ : ByteArray)) ++ t325)) else (none))) else (none)) else (none)))))
theorem r6_Text.mono : ∀ a0 a1 a2 a3 a4 a5 a6 a7 a8 a9 k, LeO (r6_Text.f k a0 a1 a2 a3 a4 a5 a6 a7 a8 a9) (r6_Text.f (k + 1) a0 a1 a2 a3 a4 a5 a6 a7 a8 a9) := by
 intro a0 a1 a2 a3 a4 a5 a6 a7 a8 a9 k;unfold r6_Text.f
 repeat' first
   | (with_reducible exact r6_date.mono _ _ _ _)
   | (with_reducible exact r6_digits.mono _ _)
   | (with_reducible exact LeO.refl _)
   | (with_reducible exact LeO.none _)
   | (with_reducible refine LeO.ite ?_ ?_)
   | (with_reducible refine LeO.bind ?_ (fun _ => ?_))
   | exact r6_date.mono _ _ _ _
   | exact r6_digits.mono _ _
   | exact LeO.none _
   | refine LeO.ite ?_ ?_
   | refine LeO.bind ?_ (fun _ => ?_)
def r6_Text.T5 : Bool × List (List Nat × List Nat) := (true, [([], []), ([0], [0]), ([1], [1]), ([2], [2]), ([3], [3]), ([], []), ([5], [5]), ([6, 2], [6]), ([4, 7], [4, 7]), ([8, 7, 0, 1, 2, 3, 4, 5, 6, 7, 8], [8])])
def r6_Text.B5 : List Nat := [0, 1, 3, 7, 15, 0, 32, 103, 255, 511]
theorem r6_Text.tab5 : rtab .any (opsOf Tryz.f16 5) = r6_Text.T5 := by kernel_rfl
theorem r6_Text.bits5 : waitsOk r6_Text.T5.2 r6_Text.B5 = true := by kernel_rfl
def r6_Text.T7 : Bool × List (List Nat × List Nat) := (true, [([], []), ([0], [0]), ([1], [1]), ([2], [2]), ([3], [3]), ([], []), ([5], [5]), ([6, 2], [6]), ([4, 7], [4, 7]), ([8], [8]), ([], []), ([10], [10]), ([11, 7], [11]), ([9, 12], [9, 12]), ([13, 12, 0, 1, 2, 3, 4, 5, 6, 7, 8, 9, 10, 11, 12, 13], [13])])
def r6_Text.B7 : List Nat := [0, 1, 3, 7, 15, 0, 32, 103, 255, 511, 0, 1024, 3303, 8191, 16383]
theorem r6_Text.tab7 : rtab .any (opsOf Tryz.f16 7) = r6_Text.T7 := by kernel_rfl
theorem r6_Text.bits7 : waitsOk r6_Text.T7.2 r6_Text.B7 = true := by kernel_rfl
def r6_Text.T8 : Bool × List (List Nat × List Nat) := (true, [([], []), ([0], [0]), ([1], [1]), ([2], [2]), ([3], [3]), ([], []), ([5], [5]), ([6, 2], [6]), ([4, 7], [4, 7]), ([8, 7, 0, 1, 2, 3, 4, 5, 6, 7, 8], [8])])
def r6_Text.B8 : List Nat := [0, 1, 3, 7, 15, 0, 32, 103, 255, 511]
theorem r6_Text.tab8 : rtab .any (opsOf Tryz.f16 8) = r6_Text.T8 := by kernel_rfl
theorem r6_Text.bits8 : waitsOk r6_Text.T8.2 r6_Text.B8 = true := by kernel_rfl
set_option maxHeartbeats 2000000 in
set_option maxRecDepth 100000 in
theorem r6_Text.calls (k : Nat) (a0_0 : Int) (a0_1 : Int) (a0_2 : Int) (a0_3 : Int) (a0_4 : Int) (a0_5 : Int) (a0_6 : Int) (a0_7 : Int) (a0_8 : Int) (a0_9 : Int) (r : ByteArray) (w : World) (h : r6_Text.f k a0_0 a0_1 a0_2 a0_3 a0_4 a0_5 a0_6 a0_7 a0_8 a0_9 = some r) :
  Calls Tryz.prog 16 #[.agg #[.int .i64 a0_0, .int .i64 a0_1, .int .i64 a0_2, .int .i64 a0_3, .int .i64 a0_4, .int .i64 a0_5, .int .i64 a0_6, .int .i64 a0_7, .int .i64 a0_8, .int .i64 a0_9]] w fun e w' => e = .returned (.string r) ∧ Below w.heap.size w w' := by
 have hu25 := Tryz.underlying25;have hu23 := Tryz.underlying23;have HB := As (Below.refl w.heap.size w);have H : (if a0_0 = 0 then ((r6_digits.f k a0_3).bind fun t318 => (if 8 + t318.size ≤ 9223372036854775807 then (some ((⟨#[119, 101, 101, 107, 100, 97, 121, 32]⟩ : ByteArray) ++ t318)) else (none))) else (if a0_0 = 1 then ((r6_digits.f k a0_1).bind fun t319 => (if 4 + t319.size ≤ 9223372036854775807 then (if ((⟨#[100, 97, 121, 32]⟩ : ByteArray) ++ t319).size + 1 ≤ 9223372036854775807 then ((r6_digits.f k a0_2).bind fun t320 => (if (((⟨#[100, 97, 121, 32]⟩ : ByteArray) ++ t319) ++ (⟨#[32]⟩ : ByteArray)).size + t320.size ≤ 9223372036854775807 then (some ((((⟨#[100, 97, 121, 32]⟩ : ByteArray) ++ t319) ++ (⟨#[32]⟩ : ByteArray)) ++ t320)) else (none))) else (none)) else (none))) else (if a0_0 = 2 then ((r6_digits.f k a0_1).bind fun t321 => (if 4 + t321.size ≤ 9223372036854775807 then (if ((⟨#[110, 116, 104, 32]⟩ : ByteArray) ++ t321).size + 1 ≤ 9223372036854775807 then ((r6_digits.f k a0_2).bind fun t322 => (if (((⟨#[110, 116, 104, 32]⟩ : ByteArray) ++ t321) ++ (⟨#[32]⟩ : ByteArray)).size + t322.size ≤ 9223372036854775807 then (if ((((⟨#[110, 116, 104, 32]⟩ : ByteArray) ++ t321) ++ (⟨#[32]⟩ : ByteArray)) ++ t322).size + 1 ≤ 9223372036854775807 then ((r6_digits.f k a0_3).bind fun t323 => (if (((((⟨#[110, 116, 104, 32]⟩ : ByteArray) ++ t321) ++ (⟨#[32]⟩ : ByteArray)) ++ t322) ++ (⟨#[32]⟩ : ByteArray)).size + t323.size ≤ 9223372036854775807 then (some ((((((⟨#[110, 116, 104, 32]⟩ : ByteArray) ++ t321) ++ (⟨#[32]⟩ : ByteArray)) ++ t322) ++ (⟨#[32]⟩ : ByteArray)) ++ t323)) else (none))) else (none)) else (none))) else (none)) else (none))) else ((r6_date.f k a0_4 a0_5 a0_6).bind fun t324 => (if 6 + t324.size ≤ 9223372036854775807 then (if ((⟨#[100, 97, 116, 101, 115, 32]⟩ : ByteArray) ++ t324).size + 1 ≤ 9223372036854775807 then ((r6_date.f k a0_7 a0_8 a0_9).bind fun t325 => (if (((⟨#[100, 97, 116, 101, 115, 32]⟩ : ByteArray) ++ t324) ++ (⟨#[32]⟩ : ByteArray)).size + t325.size ≤ 9223372036854775807 then (some ((((⟨#[100, 97, 116, 101, 115, 32]⟩ : ByteArray) ++ t324) ++ (⟨#[32]⟩ : ByteArray)) ++ t325)) else (none))) else (none)) else (none)))))) = some r := h;clear h
 by_cases c2 : a0_0 = 0
 focus
  rw [if_pos c2] at H;have c2b0 : (a0_0 == 0) = true := beq_iff_eq.mpr c2;have c2b1 : (a0_0 != 0) = false := bne_eq_false_iff_eq.mpr c2;clear c2;replace H := bE H;obtain ⟨t318, A30, H⟩ := H;replace H : (if 8 + t318.size ≤ 9223372036854775807 then (some ((⟨#[119, 101, 101, 107, 100, 97, 121, 32]⟩ : ByteArray) ++ t318)) else (none)) = some r := H;have A3 := As A30;clear A30
  by_cases c4 : 8 + t318.size ≤ 9223372036854775807
  rotate_left
  ·rw [if_neg c4] at H;exact absurd H (by simp)
  rw [if_pos c4] at H;have c4b0 := eq_true c4;have c4b1 : decide (8 + t318.size ≤ 9223372036854775807) = true := dY c4
  try have c4b2 : (9223372036854775807 < 8 + t318.size) = False := eq_false (Nat.not_lt.2 c4)
  obtain rfl := Option.some.inj H
 rotate_left
 focus
  rw [if_neg c2] at H;have c2b0 : (a0_0 == 0) = false := beq_eq_false_iff_ne.mpr c2;have c2b1 : (a0_0 != 0) = true := bne_iff_ne.mpr c2
  by_cases c8 : a0_0 = 1
  focus
   rw [if_pos c8] at H;have c8b0 : (a0_0 == 1) = true := beq_iff_eq.mpr c8;have c8b1 : (a0_0 != 1) = false := bne_eq_false_iff_eq.mpr c8;clear c8;replace H := bE H;obtain ⟨t319, A90, H⟩ := H;replace H : (if 4 + t319.size ≤ 9223372036854775807 then (if ((⟨#[100, 97, 121, 32]⟩ : ByteArray) ++ t319).size + 1 ≤ 9223372036854775807 then ((r6_digits.f k a0_2).bind fun t320 => (if (((⟨#[100, 97, 121, 32]⟩ : ByteArray) ++ t319) ++ (⟨#[32]⟩ : ByteArray)).size + t320.size ≤ 9223372036854775807 then (some ((((⟨#[100, 97, 121, 32]⟩ : ByteArray) ++ t319) ++ (⟨#[32]⟩ : ByteArray)) ++ t320)) else (none))) else (none)) else (none)) = some r := H;have A9 := As A90;clear A90
   by_cases c10 : 4 + t319.size ≤ 9223372036854775807
   rotate_left
   ·rw [if_neg c10] at H;exact absurd H (by simp)
   rw [if_pos c10] at H;have c10b0 := eq_true c10;have c10b1 : decide (4 + t319.size ≤ 9223372036854775807) = true := dY c10
   try have c10b2 : (9223372036854775807 < 4 + t319.size) = False := eq_false (Nat.not_lt.2 c10)
   by_cases c11 : ((⟨#[100, 97, 121, 32]⟩ : ByteArray) ++ t319).size + 1 ≤ 9223372036854775807
   rotate_left
   ·rw [if_neg c11] at H;exact absurd H (by simp)
   rw [if_pos c11] at H;have c11b0 := eq_true c11;have c11b1 : decide (((⟨#[100, 97, 121, 32]⟩ : ByteArray) ++ t319).size + 1 ≤ 9223372036854775807) = true := dY c11
   try have c11b2 : (9223372036854775807 < ((⟨#[100, 97, 121, 32]⟩ : ByteArray) ++ t319).size + 1) = False := eq_false (Nat.not_lt.2 c11)
   replace H := bE H;obtain ⟨t320, A120, H⟩ := H;replace H : (if (((⟨#[100, 97, 121, 32]⟩ : ByteArray) ++ t319) ++ (⟨#[32]⟩ : ByteArray)).size + t320.size ≤ 9223372036854775807 then (some ((((⟨#[100, 97, 121, 32]⟩ : ByteArray) ++ t319) ++ (⟨#[32]⟩ : ByteArray)) ++ t320)) else (none)) = some r := H;have A12 := As A120;clear A120
   by_cases c13 : (((⟨#[100, 97, 121, 32]⟩ : ByteArray) ++ t319) ++ (⟨#[32]⟩ : ByteArray)).size + t320.size ≤ 9223372036854775807
   rotate_left
   ·rw [if_neg c13] at H;exact absurd H (by simp)
   rw [if_pos c13] at H;have c13b0 := eq_true c13;have c13b1 : decide ((((⟨#[100, 97, 121, 32]⟩ : ByteArray) ++ t319) ++ (⟨#[32]⟩ : ByteArray)).size + t320.size ≤ 9223372036854775807) = true := dY c13
   try have c13b2 : (9223372036854775807 < (((⟨#[100, 97, 121, 32]⟩ : ByteArray) ++ t319) ++ (⟨#[32]⟩ : ByteArray)).size + t320.size) = False := eq_false (Nat.not_lt.2 c13)
   obtain rfl := Option.some.inj H
  rotate_left
  focus
   rw [if_neg c8] at H;have c8b0 : (a0_0 == 1) = false := beq_eq_false_iff_ne.mpr c8;have c8b1 : (a0_0 != 1) = true := bne_iff_ne.mpr c8
   by_cases c19 : a0_0 = 2
   focus
    rw [if_pos c19] at H;have c19b0 : (a0_0 == 2) = true := beq_iff_eq.mpr c19;have c19b1 : (a0_0 != 2) = false := bne_eq_false_iff_eq.mpr c19;clear c19;replace H := bE H;obtain ⟨t321, A200, H⟩ := H;replace H : (if 4 + t321.size ≤ 9223372036854775807 then (if ((⟨#[110, 116, 104, 32]⟩ : ByteArray) ++ t321).size + 1 ≤ 9223372036854775807 then ((r6_digits.f k a0_2).bind fun t322 => (if (((⟨#[110, 116, 104, 32]⟩ : ByteArray) ++ t321) ++ (⟨#[32]⟩ : ByteArray)).size + t322.size ≤ 9223372036854775807 then (if ((((⟨#[110, 116, 104, 32]⟩ : ByteArray) ++ t321) ++ (⟨#[32]⟩ : ByteArray)) ++ t322).size + 1 ≤ 9223372036854775807 then ((r6_digits.f k a0_3).bind fun t323 => (if (((((⟨#[110, 116, 104, 32]⟩ : ByteArray) ++ t321) ++ (⟨#[32]⟩ : ByteArray)) ++ t322) ++ (⟨#[32]⟩ : ByteArray)).size + t323.size ≤ 9223372036854775807 then (some ((((((⟨#[110, 116, 104, 32]⟩ : ByteArray) ++ t321) ++ (⟨#[32]⟩ : ByteArray)) ++ t322) ++ (⟨#[32]⟩ : ByteArray)) ++ t323)) else (none))) else (none)) else (none))) else (none)) else (none)) = some r := H;have A20 := As A200;clear A200
    by_cases c21 : 4 + t321.size ≤ 9223372036854775807
    rotate_left
    ·rw [if_neg c21] at H;exact absurd H (by simp)
    rw [if_pos c21] at H;have c21b0 := eq_true c21;have c21b1 : decide (4 + t321.size ≤ 9223372036854775807) = true := dY c21
    try have c21b2 : (9223372036854775807 < 4 + t321.size) = False := eq_false (Nat.not_lt.2 c21)
    by_cases c22 : ((⟨#[110, 116, 104, 32]⟩ : ByteArray) ++ t321).size + 1 ≤ 9223372036854775807
    rotate_left
    ·rw [if_neg c22] at H;exact absurd H (by simp)
    rw [if_pos c22] at H;have c22b0 := eq_true c22;have c22b1 : decide (((⟨#[110, 116, 104, 32]⟩ : ByteArray) ++ t321).size + 1 ≤ 9223372036854775807) = true := dY c22
    try have c22b2 : (9223372036854775807 < ((⟨#[110, 116, 104, 32]⟩ : ByteArray) ++ t321).size + 1) = False := eq_false (Nat.not_lt.2 c22)
    replace H := bE H;obtain ⟨t322, A230, H⟩ := H;replace H : (if (((⟨#[110, 116, 104, 32]⟩ : ByteArray) ++ t321) ++ (⟨#[32]⟩ : ByteArray)).size + t322.size ≤ 9223372036854775807 then (if ((((⟨#[110, 116, 104, 32]⟩ : ByteArray) ++ t321) ++ (⟨#[32]⟩ : ByteArray)) ++ t322).size + 1 ≤ 9223372036854775807 then ((r6_digits.f k a0_3).bind fun t323 => (if (((((⟨#[110, 116, 104, 32]⟩ : ByteArray) ++ t321) ++ (⟨#[32]⟩ : ByteArray)) ++ t322) ++ (⟨#[32]⟩ : ByteArray)).size + t323.size ≤ 9223372036854775807 then (some ((((((⟨#[110, 116, 104, 32]⟩ : ByteArray) ++ t321) ++ (⟨#[32]⟩ : ByteArray)) ++ t322) ++ (⟨#[32]⟩ : ByteArray)) ++ t323)) else (none))) else (none)) else (none)) = some r := H;have A23 := As A230;clear A230
    by_cases c24 : (((⟨#[110, 116, 104, 32]⟩ : ByteArray) ++ t321) ++ (⟨#[32]⟩ : ByteArray)).size + t322.size ≤ 9223372036854775807
    rotate_left
    ·rw [if_neg c24] at H;exact absurd H (by simp)
    rw [if_pos c24] at H;have c24b0 := eq_true c24;have c24b1 : decide ((((⟨#[110, 116, 104, 32]⟩ : ByteArray) ++ t321) ++ (⟨#[32]⟩ : ByteArray)).size + t322.size ≤ 9223372036854775807) = true := dY c24
    try have c24b2 : (9223372036854775807 < (((⟨#[110, 116, 104, 32]⟩ : ByteArray) ++ t321) ++ (⟨#[32]⟩ : ByteArray)).size + t322.size) = False := eq_false (Nat.not_lt.2 c24)
    by_cases c25 : ((((⟨#[110, 116, 104, 32]⟩ : ByteArray) ++ t321) ++ (⟨#[32]⟩ : ByteArray)) ++ t322).size + 1 ≤ 9223372036854775807
    rotate_left
    ·rw [if_neg c25] at H;exact absurd H (by simp)
    rw [if_pos c25] at H;have c25b0 := eq_true c25;have c25b1 : decide (((((⟨#[110, 116, 104, 32]⟩ : ByteArray) ++ t321) ++ (⟨#[32]⟩ : ByteArray)) ++ t322).size + 1 ≤ 9223372036854775807) = true := dY c25
    try have c25b2 : (9223372036854775807 < ((((⟨#[110, 116, 104, 32]⟩ : ByteArray) ++ t321) ++ (⟨#[32]⟩ : ByteArray)) ++ t322).size + 1) = False := eq_false (Nat.not_lt.2 c25)
    replace H := bE H;obtain ⟨t323, A260, H⟩ := H;replace H : (if (((((⟨#[110, 116, 104, 32]⟩ : ByteArray) ++ t321) ++ (⟨#[32]⟩ : ByteArray)) ++ t322) ++ (⟨#[32]⟩ : ByteArray)).size + t323.size ≤ 9223372036854775807 then (some ((((((⟨#[110, 116, 104, 32]⟩ : ByteArray) ++ t321) ++ (⟨#[32]⟩ : ByteArray)) ++ t322) ++ (⟨#[32]⟩ : ByteArray)) ++ t323)) else (none)) = some r := H;have A26 := As A260;clear A260
    by_cases c27 : (((((⟨#[110, 116, 104, 32]⟩ : ByteArray) ++ t321) ++ (⟨#[32]⟩ : ByteArray)) ++ t322) ++ (⟨#[32]⟩ : ByteArray)).size + t323.size ≤ 9223372036854775807
    rotate_left
    ·rw [if_neg c27] at H;exact absurd H (by simp)
    rw [if_pos c27] at H;have c27b0 := eq_true c27;have c27b1 : decide ((((((⟨#[110, 116, 104, 32]⟩ : ByteArray) ++ t321) ++ (⟨#[32]⟩ : ByteArray)) ++ t322) ++ (⟨#[32]⟩ : ByteArray)).size + t323.size ≤ 9223372036854775807) = true := dY c27
    try have c27b2 : (9223372036854775807 < (((((⟨#[110, 116, 104, 32]⟩ : ByteArray) ++ t321) ++ (⟨#[32]⟩ : ByteArray)) ++ t322) ++ (⟨#[32]⟩ : ByteArray)).size + t323.size) = False := eq_false (Nat.not_lt.2 c27)
    obtain rfl := Option.some.inj H
   rotate_left
   focus
    rw [if_neg c19] at H;have c19b0 : (a0_0 == 2) = false := beq_eq_false_iff_ne.mpr c19;have c19b1 : (a0_0 != 2) = true := bne_iff_ne.mpr c19;replace H := bE H;obtain ⟨t324, A340, H⟩ := H;replace H : (if 6 + t324.size ≤ 9223372036854775807 then (if ((⟨#[100, 97, 116, 101, 115, 32]⟩ : ByteArray) ++ t324).size + 1 ≤ 9223372036854775807 then ((r6_date.f k a0_7 a0_8 a0_9).bind fun t325 => (if (((⟨#[100, 97, 116, 101, 115, 32]⟩ : ByteArray) ++ t324) ++ (⟨#[32]⟩ : ByteArray)).size + t325.size ≤ 9223372036854775807 then (some ((((⟨#[100, 97, 116, 101, 115, 32]⟩ : ByteArray) ++ t324) ++ (⟨#[32]⟩ : ByteArray)) ++ t325)) else (none))) else (none)) else (none)) = some r := H;have A34 := As A340;clear A340
    by_cases c35 : 6 + t324.size ≤ 9223372036854775807
    rotate_left
    ·rw [if_neg c35] at H;exact absurd H (by simp)
    rw [if_pos c35] at H;have c35b0 := eq_true c35;have c35b1 : decide (6 + t324.size ≤ 9223372036854775807) = true := dY c35
    try have c35b2 : (9223372036854775807 < 6 + t324.size) = False := eq_false (Nat.not_lt.2 c35)
    by_cases c36 : ((⟨#[100, 97, 116, 101, 115, 32]⟩ : ByteArray) ++ t324).size + 1 ≤ 9223372036854775807
    rotate_left
    ·rw [if_neg c36] at H;exact absurd H (by simp)
    rw [if_pos c36] at H;have c36b0 := eq_true c36;have c36b1 : decide (((⟨#[100, 97, 116, 101, 115, 32]⟩ : ByteArray) ++ t324).size + 1 ≤ 9223372036854775807) = true := dY c36
    try have c36b2 : (9223372036854775807 < ((⟨#[100, 97, 116, 101, 115, 32]⟩ : ByteArray) ++ t324).size + 1) = False := eq_false (Nat.not_lt.2 c36)
    replace H := bE H;obtain ⟨t325, A370, H⟩ := H;replace H : (if (((⟨#[100, 97, 116, 101, 115, 32]⟩ : ByteArray) ++ t324) ++ (⟨#[32]⟩ : ByteArray)).size + t325.size ≤ 9223372036854775807 then (some ((((⟨#[100, 97, 116, 101, 115, 32]⟩ : ByteArray) ++ t324) ++ (⟨#[32]⟩ : ByteArray)) ++ t325)) else (none)) = some r := H;have A37 := As A370;clear A370
    by_cases c38 : (((⟨#[100, 97, 116, 101, 115, 32]⟩ : ByteArray) ++ t324) ++ (⟨#[32]⟩ : ByteArray)).size + t325.size ≤ 9223372036854775807
    rotate_left
    ·rw [if_neg c38] at H;exact absurd H (by simp)
    rw [if_pos c38] at H;have c38b0 := eq_true c38;have c38b1 : decide ((((⟨#[100, 97, 116, 101, 115, 32]⟩ : ByteArray) ++ t324) ++ (⟨#[32]⟩ : ByteArray)).size + t325.size ≤ 9223372036854775807) = true := dY c38
    try have c38b2 : (9223372036854775807 < (((⟨#[100, 97, 116, 101, 115, 32]⟩ : ByteArray) ++ t324) ++ (⟨#[32]⟩ : ByteArray)).size + t325.size) = False := eq_false (Nat.not_lt.2 c38)
    obtain rfl := Option.some.inj H
 all_goals
  go_enter Tryz.func16, Tryz.ntmps16
  try go_wp2_with (first | ((with_reducible refine gate_dst (N := 1) rfl ?_); refine box_event ?hg (N := 1) ?hd (cs := #[.int .i64 a0_0, .int .i64 a0_1, .int .i64 a0_2, .int .i64 a0_3, .int .i64 a0_4, .int .i64 a0_5, .int .i64 a0_6, .int .i64 a0_7, .int .i64 a0_8, .int .i64 a0_9]) (t := 25) ?hr ?_; (case hd => rfl); (case hg => rfl); (case hr => first | (go_simp; done) | (go_simp; rfl)); intro gb317 hg w5 hbox hb; have BK317 := As (hbox); have GW317 := As ((gz hg (be HB.out) : w.heap.size ≤ gb317)); have GE317 := As ((gz hg (be HB.out) : w.heap.size ≤ gb317)); replace HB := As (XT (be HB.out) hb); clear hb hbox hg; obtain ⟨hcz6_0, hcz6_1, hcz6_2, hcz6_3, hcz6_4, hcz6_5, hcz6_6, hcz6_7, hcz6_8, hcz6_9, hfz6_0, hfz6_1, hfz6_2, hfz6_3, hfz6_4, hfz6_5, hfz6_6, hfz6_7, hfz6_8, hfz6_9⟩ := cz10 BK317.out) | ((with_reducible refine gate_callee (f := 37) rfl ?_); refine goesL_ (some 9) rfl rfl Tryz.func37 kr rfl #[.int .i64 a0_3] rfl sa ?_; (with_reducible refine (r6_digits.calls k a0_3 _ _ A3.out).mono ?_); rintro e w7 ⟨rfl, hb⟩; refine ⟨_, rfl, ?_⟩; replace BK317 := As (YB (g := gb317) (o := .cells #[.int .i64 a0_0, .int .i64 a0_1, .int .i64 a0_2, .int .i64 a0_3, .int .i64 a0_4, .int .i64 a0_5, .int .i64 a0_6, .int .i64 a0_7, .int .i64 a0_8, .int .i64 a0_9] 25 (0, 0)) (bk BK317.out) hb); replace HB := As (XT (be HB.out) hb); (try clear hb); (try clear hb2); (try clear hk); (try clear hi)))
 ·replace BK317 := As (YD BK317.out);replace HB := As (XD HB.out);refine start_ (n := 10) (S := fun w' => w'.cell? ⟨gb317, 0, none⟩ = some (.int .i64 a0_0) ∧ w'.cell? ⟨gb317, 1, none⟩ = some (.int .i64 a0_1) ∧ w'.cell? ⟨gb317, 2, none⟩ = some (.int .i64 a0_2) ∧ w'.cell? ⟨gb317, 3, none⟩ = some (.int .i64 a0_3) ∧ w'.cell? ⟨gb317, 4, none⟩ = some (.int .i64 a0_4) ∧ w'.cell? ⟨gb317, 5, none⟩ = some (.int .i64 a0_5) ∧ w'.cell? ⟨gb317, 6, none⟩ = some (.int .i64 a0_6) ∧ w'.cell? ⟨gb317, 7, none⟩ = some (.int .i64 a0_7) ∧ w'.cell? ⟨gb317, 8, none⟩ = some (.int .i64 a0_8) ∧ w'.cell? ⟨gb317, 9, none⟩ = some (.int .i64 a0_9)) (ds := []) (fl 0 10) kr rfl rfl (cy10 BK317.out) (fun hHeld => ?_); refine with_tabW r6_Text.tab8 r6_Text.bits8 (fun HT_ HW_ => ?_);generalize w5.drew = w41 at BK317 HB hHeld ⊢;refine pure_ (i := 0) (N := some 38) (v := ?_) (a' := ?_) (fl 1 9) rfl rfl (any_of HT_.out kr) (fun _ _ _ h => h) (Or.inl ⟨by rfl, ?_⟩) ?_ ?_;rotate_left
  ·intro w';go_simp
   first | (with_reducible rfl) | (rw [if_neg (Nat.not_lt.mpr (by have z := c11; simp only [ByteArray.size_append] at z; exact z))]) | (rw [if_neg (Nat.not_lt.mpr (by have z := c13; simp only [ByteArray.size_append] at z; exact z))]) | (rw [if_neg (Nat.not_lt.mpr (by have z := c22; simp only [ByteArray.size_append] at z; exact z))]) | (rw [if_neg (Nat.not_lt.mpr (by have z := c24; simp only [ByteArray.size_append] at z; exact z))]) | (rw [if_neg (Nat.not_lt.mpr (by have z := c25; simp only [ByteArray.size_append] at z; exact z))]) | (rw [if_neg (Nat.not_lt.mpr (by have z := c27; simp only [ByteArray.size_append] at z; exact z))]) | (rw [if_neg (Nat.not_lt.mpr (by have z := c36; simp only [ByteArray.size_append] at z; exact z))]) | (rw [if_neg (Nat.not_lt.mpr (by have z := c38; simp only [ByteArray.size_append] at z; exact z))])
  rotate_left
  ·simp only [Act.put, z0,z1,z2,i64_w,i32_w];rfl
  refine pure_ (i := 5) (N := some 43) (v := ?_) (a' := ?_) #[Y,O,O,O,O,Y,O,O,O,O] rfl rfl (any_of HT_.out kr) (fun _ _ _ h => h) (Or.inl ⟨by rfl, ?_⟩) ?_ ?_;rotate_left
  ·intro w';go_simp
   first | (with_reducible rfl) | (rw [if_neg (Nat.not_lt.mpr (by have z := c11; simp only [ByteArray.size_append] at z; exact z))]) | (rw [if_neg (Nat.not_lt.mpr (by have z := c13; simp only [ByteArray.size_append] at z; exact z))]) | (rw [if_neg (Nat.not_lt.mpr (by have z := c22; simp only [ByteArray.size_append] at z; exact z))]) | (rw [if_neg (Nat.not_lt.mpr (by have z := c24; simp only [ByteArray.size_append] at z; exact z))]) | (rw [if_neg (Nat.not_lt.mpr (by have z := c25; simp only [ByteArray.size_append] at z; exact z))]) | (rw [if_neg (Nat.not_lt.mpr (by have z := c27; simp only [ByteArray.size_append] at z; exact z))]) | (rw [if_neg (Nat.not_lt.mpr (by have z := c36; simp only [ByteArray.size_append] at z; exact z))]) | (rw [if_neg (Nat.not_lt.mpr (by have z := c38; simp only [ByteArray.size_append] at z; exact z))])
  rotate_left
  ·simp only [Act.put, z0,z1,z2,i64_w,i32_w];rfl
  refine take_ (i := 1) (N := some 39) (v := ?_) (a' := ?_) #[Y,Y,O,O,O,Y,O,O,O,O] rfl rfl (take_ofW HT_.out HW_.out kr) (fun _ _ _ h => h) (Or.inl ⟨by rfl, ?_⟩) hHeld ?_ ?_;rotate_left
  ·rintro w' ⟨s0, s1, s2, s3, s4, s5, s6, s7, s8, s9⟩;go_simp
   first | (with_reducible rfl) | (rw [if_neg (Nat.not_lt.mpr (by have z := c11; simp only [ByteArray.size_append] at z; exact z))]) | (rw [if_neg (Nat.not_lt.mpr (by have z := c13; simp only [ByteArray.size_append] at z; exact z))]) | (rw [if_neg (Nat.not_lt.mpr (by have z := c22; simp only [ByteArray.size_append] at z; exact z))]) | (rw [if_neg (Nat.not_lt.mpr (by have z := c24; simp only [ByteArray.size_append] at z; exact z))]) | (rw [if_neg (Nat.not_lt.mpr (by have z := c25; simp only [ByteArray.size_append] at z; exact z))]) | (rw [if_neg (Nat.not_lt.mpr (by have z := c27; simp only [ByteArray.size_append] at z; exact z))]) | (rw [if_neg (Nat.not_lt.mpr (by have z := c36; simp only [ByteArray.size_append] at z; exact z))]) | (rw [if_neg (Nat.not_lt.mpr (by have z := c38; simp only [ByteArray.size_append] at z; exact z))])
  rotate_left
  ·simp only [Act.put, z0,z1,z2,i64_w,i32_w];rfl
  refine take_ (i := 6) (N := some 44) (v := ?_) (a' := ?_) #[Y,Y,O,O,O,Y,Y,O,O,O] rfl rfl (take_ofW HT_.out HW_.out kr) (fun _ _ _ h => h) (Or.inl ⟨by rfl, ?_⟩) hHeld ?_ ?_;rotate_left
  ·rintro w' ⟨s0, s1, s2, s3, s4, s5, s6, s7, s8, s9⟩;go_simp
   first | (with_reducible rfl) | (rw [if_neg (Nat.not_lt.mpr (by have z := c11; simp only [ByteArray.size_append] at z; exact z))]) | (rw [if_neg (Nat.not_lt.mpr (by have z := c13; simp only [ByteArray.size_append] at z; exact z))]) | (rw [if_neg (Nat.not_lt.mpr (by have z := c22; simp only [ByteArray.size_append] at z; exact z))]) | (rw [if_neg (Nat.not_lt.mpr (by have z := c24; simp only [ByteArray.size_append] at z; exact z))]) | (rw [if_neg (Nat.not_lt.mpr (by have z := c25; simp only [ByteArray.size_append] at z; exact z))]) | (rw [if_neg (Nat.not_lt.mpr (by have z := c27; simp only [ByteArray.size_append] at z; exact z))]) | (rw [if_neg (Nat.not_lt.mpr (by have z := c36; simp only [ByteArray.size_append] at z; exact z))]) | (rw [if_neg (Nat.not_lt.mpr (by have z := c38; simp only [ByteArray.size_append] at z; exact z))])
  rotate_left
  ·simp only [Act.put, z0,z1,z2,i64_w,i32_w];rfl
  refine one_ (i := 2) (N := some 40) #[Y,Y,Y,O,O,Y,Y,O,O,O] rfl rfl (one_of HT_.out kr) (by decide) (fun K hK => ?_);refine goes_ Tryz.func38 kr rfl #[.agg #[.int .i64 a0_4, .int .i64 a0_5, .int .i64 a0_6]] (by rfl) rfl rfl sa ?_
  with_reducible refine (r6_date.calls k a0_4 a0_5 a0_6 _ _ A34.out).mono ?_
  rintro e w42 ⟨rfl, hb⟩;refine ⟨_, rfl, ?_⟩;replace BK317 := As (YB (g := gb317) (o := .cells #[.int .i64 a0_0, .int .i64 a0_1, .int .i64 a0_2, .int .i64 a0_3, .int .i64 a0_4, .int .i64 a0_5, .int .i64 a0_6, .int .i64 a0_7, .int .i64 a0_8, .int .i64 a0_9] 25 (0, 0)) (bk BK317.out) hb);replace HB := As (XT (be HB.out) hb)
  (try clear hb)
  (try clear hb2)
  (try clear hk)
  (try clear hi)
  refine hK.out _ _ (cy10 BK317.out) (fun hHeld => ?_);clear hK K;refine norm_ (a' := ?_) ?_ ?_;rotate_left
  ·show Act.put _ (some 40) _ = _
   simp only [Act.put, z0,z1,z2,i64_w,i32_w];rfl
  refine pure_ (i := 3) (N := some 41) (v := ?_) (a' := ?_) #[Y,Y,Y,Y,O,Y,Y,O,O,O] rfl rfl (any_of HT_.out kr) (fun _ _ _ h => h) (Or.inl ⟨by rfl, ?_⟩) ?_ ?_;rotate_left
  ·intro w';go_simp
   first | (with_reducible rfl) | (rw [if_neg (Nat.not_lt.mpr (by have z := c11; simp only [ByteArray.size_append] at z; exact z))]) | (rw [if_neg (Nat.not_lt.mpr (by have z := c13; simp only [ByteArray.size_append] at z; exact z))]) | (rw [if_neg (Nat.not_lt.mpr (by have z := c22; simp only [ByteArray.size_append] at z; exact z))]) | (rw [if_neg (Nat.not_lt.mpr (by have z := c24; simp only [ByteArray.size_append] at z; exact z))]) | (rw [if_neg (Nat.not_lt.mpr (by have z := c25; simp only [ByteArray.size_append] at z; exact z))]) | (rw [if_neg (Nat.not_lt.mpr (by have z := c27; simp only [ByteArray.size_append] at z; exact z))]) | (rw [if_neg (Nat.not_lt.mpr (by have z := c36; simp only [ByteArray.size_append] at z; exact z))]) | (rw [if_neg (Nat.not_lt.mpr (by have z := c38; simp only [ByteArray.size_append] at z; exact z))])
  rotate_left
  ·simp only [Act.put, z0,z1,z2,i64_w,i32_w];rfl
  refine pure_ (i := 4) (N := some 42) (v := ?_) (a' := ?_) (fl 7 3) rfl rfl (any_of HT_.out kr) (fun _ _ _ h => h) (Or.inl ⟨by rfl, ?_⟩) ?_ ?_;rotate_left
  ·intro w';go_simp
   first | (with_reducible rfl) | (rw [if_neg (Nat.not_lt.mpr (by have z := c11; simp only [ByteArray.size_append] at z; exact z))]) | (rw [if_neg (Nat.not_lt.mpr (by have z := c13; simp only [ByteArray.size_append] at z; exact z))]) | (rw [if_neg (Nat.not_lt.mpr (by have z := c22; simp only [ByteArray.size_append] at z; exact z))]) | (rw [if_neg (Nat.not_lt.mpr (by have z := c24; simp only [ByteArray.size_append] at z; exact z))]) | (rw [if_neg (Nat.not_lt.mpr (by have z := c25; simp only [ByteArray.size_append] at z; exact z))]) | (rw [if_neg (Nat.not_lt.mpr (by have z := c27; simp only [ByteArray.size_append] at z; exact z))]) | (rw [if_neg (Nat.not_lt.mpr (by have z := c36; simp only [ByteArray.size_append] at z; exact z))]) | (rw [if_neg (Nat.not_lt.mpr (by have z := c38; simp only [ByteArray.size_append] at z; exact z))])
  rotate_left
  ·simp only [Act.put, z0,z1,z2,i64_w,i32_w];rfl
  refine one_ (i := 7) (N := some 45) (fl 8 2) rfl rfl (one_of HT_.out kr) (by decide) (fun K hK => ?_);refine goes_ Tryz.func38 kr rfl #[.agg #[.int .i64 a0_7, .int .i64 a0_8, .int .i64 a0_9]] (by rfl) rfl rfl sa ?_
  with_reducible refine (r6_date.calls k a0_7 a0_8 a0_9 _ _ A37.out).mono ?_
  rintro e w43 ⟨rfl, hb⟩;refine ⟨_, rfl, ?_⟩;replace BK317 := As (YB (g := gb317) (o := .cells #[.int .i64 a0_0, .int .i64 a0_1, .int .i64 a0_2, .int .i64 a0_3, .int .i64 a0_4, .int .i64 a0_5, .int .i64 a0_6, .int .i64 a0_7, .int .i64 a0_8, .int .i64 a0_9] 25 (0, 0)) (bk BK317.out) hb);replace HB := As (XT (be HB.out) hb)
  (try clear hb)
  (try clear hb2)
  (try clear hk)
  (try clear hi)
  refine hK.out _ _ (cy10 BK317.out) (fun hHeld => ?_);clear hK K;refine norm_ (a' := ?_) ?_ ?_;rotate_left
  ·show Act.put _ (some 45) _ = _
   simp only [Act.put, z0,z1,z2,i64_w,i32_w];rfl
  refine pure_ (i := 8) (N := some 46) (v := ?_) (a' := ?_) (fl 9 1) rfl rfl (any_of HT_.out kr) (fun _ _ _ h => h) (Or.inl ⟨by rfl, ?_⟩) ?_ ?_;rotate_left
  ·intro w';go_simp
   first | (with_reducible rfl) | (rw [if_neg (Nat.not_lt.mpr (by have z := c11; simp only [ByteArray.size_append] at z; exact z))]) | (rw [if_neg (Nat.not_lt.mpr (by have z := c13; simp only [ByteArray.size_append] at z; exact z))]) | (rw [if_neg (Nat.not_lt.mpr (by have z := c22; simp only [ByteArray.size_append] at z; exact z))]) | (rw [if_neg (Nat.not_lt.mpr (by have z := c24; simp only [ByteArray.size_append] at z; exact z))]) | (rw [if_neg (Nat.not_lt.mpr (by have z := c25; simp only [ByteArray.size_append] at z; exact z))]) | (rw [if_neg (Nat.not_lt.mpr (by have z := c27; simp only [ByteArray.size_append] at z; exact z))]) | (rw [if_neg (Nat.not_lt.mpr (by have z := c36; simp only [ByteArray.size_append] at z; exact z))]) | (rw [if_neg (Nat.not_lt.mpr (by have z := c38; simp only [ByteArray.size_append] at z; exact z))])
  rotate_left
  ·simp only [Act.put, z0,z1,z2,i64_w,i32_w];rfl
  refine pure_ (i := 9) (N := some 2) (v := ?_) (a' := ?_) (fl 10 0) rfl rfl (any_of HT_.out kr) (fun _ _ _ h => h) (Or.inl ⟨by rfl, ?_⟩) ?_ ?_;rotate_left
  ·intro w';go_simp
   first | (with_reducible rfl) | (rw [if_neg (Nat.not_lt.mpr (by have z := c11; simp only [ByteArray.size_append] at z; exact z))]) | (rw [if_neg (Nat.not_lt.mpr (by have z := c13; simp only [ByteArray.size_append] at z; exact z))]) | (rw [if_neg (Nat.not_lt.mpr (by have z := c22; simp only [ByteArray.size_append] at z; exact z))]) | (rw [if_neg (Nat.not_lt.mpr (by have z := c24; simp only [ByteArray.size_append] at z; exact z))]) | (rw [if_neg (Nat.not_lt.mpr (by have z := c25; simp only [ByteArray.size_append] at z; exact z))]) | (rw [if_neg (Nat.not_lt.mpr (by have z := c27; simp only [ByteArray.size_append] at z; exact z))]) | (rw [if_neg (Nat.not_lt.mpr (by have z := c36; simp only [ByteArray.size_append] at z; exact z))]) | (rw [if_neg (Nat.not_lt.mpr (by have z := c38; simp only [ByteArray.size_append] at z; exact z))])
  rotate_left
  ·simp only [Act.put, z0,z1,z2,i64_w,i32_w];rfl
  refine done_ (done_of HT_.out kr) ?_
  try go_wp2
  go_ret
  exact ⟨by first | rfl | (simp [errW_none, errW_some] <;> rfl) | (simp [*, errW_none, errW_some] <;> rfl), by repeat (first | (with_reducible first | exact HB.out | apply XA | apply XN | apply XD | refine XS ?_ GE317.out) | exact HB.out)⟩
 ·replace BK317 := As (YD BK317.out);replace HB := As (XD HB.out);refine start_ (n := 15) (S := fun w' => w'.cell? ⟨gb317, 0, none⟩ = some (.int .i64 a0_0) ∧ w'.cell? ⟨gb317, 1, none⟩ = some (.int .i64 a0_1) ∧ w'.cell? ⟨gb317, 2, none⟩ = some (.int .i64 a0_2) ∧ w'.cell? ⟨gb317, 3, none⟩ = some (.int .i64 a0_3) ∧ w'.cell? ⟨gb317, 4, none⟩ = some (.int .i64 a0_4) ∧ w'.cell? ⟨gb317, 5, none⟩ = some (.int .i64 a0_5) ∧ w'.cell? ⟨gb317, 6, none⟩ = some (.int .i64 a0_6) ∧ w'.cell? ⟨gb317, 7, none⟩ = some (.int .i64 a0_7) ∧ w'.cell? ⟨gb317, 8, none⟩ = some (.int .i64 a0_8) ∧ w'.cell? ⟨gb317, 9, none⟩ = some (.int .i64 a0_9)) (ds := []) (fl 0 15) kr rfl rfl (cy10 BK317.out) (fun hHeld => ?_); refine with_tabW r6_Text.tab7 r6_Text.bits7 (fun HT_ HW_ => ?_);generalize w5.drew = w30 at BK317 HB hHeld ⊢;refine pure_ (i := 0) (N := some 24) (v := ?_) (a' := ?_) (fl 1 14) rfl rfl (any_of HT_.out kr) (fun _ _ _ h => h) (Or.inl ⟨by rfl, ?_⟩) ?_ ?_;rotate_left
  ·intro w';go_simp
   first | (with_reducible rfl) | (rw [if_neg (Nat.not_lt.mpr (by have z := c11; simp only [ByteArray.size_append] at z; exact z))]) | (rw [if_neg (Nat.not_lt.mpr (by have z := c13; simp only [ByteArray.size_append] at z; exact z))]) | (rw [if_neg (Nat.not_lt.mpr (by have z := c22; simp only [ByteArray.size_append] at z; exact z))]) | (rw [if_neg (Nat.not_lt.mpr (by have z := c24; simp only [ByteArray.size_append] at z; exact z))]) | (rw [if_neg (Nat.not_lt.mpr (by have z := c25; simp only [ByteArray.size_append] at z; exact z))]) | (rw [if_neg (Nat.not_lt.mpr (by have z := c27; simp only [ByteArray.size_append] at z; exact z))])
  rotate_left
  ·simp only [Act.put, z0,z1,z2,i64_w,i32_w];rfl
  refine pure_ (i := 5) (N := some 29) (v := ?_) (a' := ?_) #[Y,O,O,O,O,Y,O,O,O,O,O,O,O,O,O] rfl rfl (any_of HT_.out kr) (fun _ _ _ h => h) (Or.inl ⟨by rfl, ?_⟩) ?_ ?_;rotate_left
  ·intro w';go_simp
   first | (with_reducible rfl) | (rw [if_neg (Nat.not_lt.mpr (by have z := c11; simp only [ByteArray.size_append] at z; exact z))]) | (rw [if_neg (Nat.not_lt.mpr (by have z := c13; simp only [ByteArray.size_append] at z; exact z))]) | (rw [if_neg (Nat.not_lt.mpr (by have z := c22; simp only [ByteArray.size_append] at z; exact z))]) | (rw [if_neg (Nat.not_lt.mpr (by have z := c24; simp only [ByteArray.size_append] at z; exact z))]) | (rw [if_neg (Nat.not_lt.mpr (by have z := c25; simp only [ByteArray.size_append] at z; exact z))]) | (rw [if_neg (Nat.not_lt.mpr (by have z := c27; simp only [ByteArray.size_append] at z; exact z))])
  rotate_left
  ·simp only [Act.put, z0,z1,z2,i64_w,i32_w];rfl
  refine pure_ (i := 10) (N := some 34) (v := ?_) (a' := ?_) #[Y,O,O,O,O,Y,O,O,O,O,Y,O,O,O,O] rfl rfl (any_of HT_.out kr) (fun _ _ _ h => h) (Or.inl ⟨by rfl, ?_⟩) ?_ ?_;rotate_left
  ·intro w';go_simp
   first | (with_reducible rfl) | (rw [if_neg (Nat.not_lt.mpr (by have z := c11; simp only [ByteArray.size_append] at z; exact z))]) | (rw [if_neg (Nat.not_lt.mpr (by have z := c13; simp only [ByteArray.size_append] at z; exact z))]) | (rw [if_neg (Nat.not_lt.mpr (by have z := c22; simp only [ByteArray.size_append] at z; exact z))]) | (rw [if_neg (Nat.not_lt.mpr (by have z := c24; simp only [ByteArray.size_append] at z; exact z))]) | (rw [if_neg (Nat.not_lt.mpr (by have z := c25; simp only [ByteArray.size_append] at z; exact z))]) | (rw [if_neg (Nat.not_lt.mpr (by have z := c27; simp only [ByteArray.size_append] at z; exact z))])
  rotate_left
  ·simp only [Act.put, z0,z1,z2,i64_w,i32_w];rfl
  refine take_ (i := 1) (N := some 25) (v := ?_) (a' := ?_) #[Y,Y,O,O,O,Y,O,O,O,O,Y,O,O,O,O] rfl rfl (take_ofW HT_.out HW_.out kr) (fun _ _ _ h => h) (Or.inl ⟨by rfl, ?_⟩) hHeld ?_ ?_;rotate_left
  ·rintro w' ⟨s0, s1, s2, s3, s4, s5, s6, s7, s8, s9⟩;go_simp
   first | (with_reducible rfl) | (rw [if_neg (Nat.not_lt.mpr (by have z := c11; simp only [ByteArray.size_append] at z; exact z))]) | (rw [if_neg (Nat.not_lt.mpr (by have z := c13; simp only [ByteArray.size_append] at z; exact z))]) | (rw [if_neg (Nat.not_lt.mpr (by have z := c22; simp only [ByteArray.size_append] at z; exact z))]) | (rw [if_neg (Nat.not_lt.mpr (by have z := c24; simp only [ByteArray.size_append] at z; exact z))]) | (rw [if_neg (Nat.not_lt.mpr (by have z := c25; simp only [ByteArray.size_append] at z; exact z))]) | (rw [if_neg (Nat.not_lt.mpr (by have z := c27; simp only [ByteArray.size_append] at z; exact z))])
  rotate_left
  ·simp only [Act.put, z0,z1,z2,i64_w,i32_w];rfl
  refine take_ (i := 6) (N := some 30) (v := ?_) (a' := ?_) #[Y,Y,O,O,O,Y,Y,O,O,O,Y,O,O,O,O] rfl rfl (take_ofW HT_.out HW_.out kr) (fun _ _ _ h => h) (Or.inl ⟨by rfl, ?_⟩) hHeld ?_ ?_;rotate_left
  ·rintro w' ⟨s0, s1, s2, s3, s4, s5, s6, s7, s8, s9⟩;go_simp
   first | (with_reducible rfl) | (rw [if_neg (Nat.not_lt.mpr (by have z := c11; simp only [ByteArray.size_append] at z; exact z))]) | (rw [if_neg (Nat.not_lt.mpr (by have z := c13; simp only [ByteArray.size_append] at z; exact z))]) | (rw [if_neg (Nat.not_lt.mpr (by have z := c22; simp only [ByteArray.size_append] at z; exact z))]) | (rw [if_neg (Nat.not_lt.mpr (by have z := c24; simp only [ByteArray.size_append] at z; exact z))]) | (rw [if_neg (Nat.not_lt.mpr (by have z := c25; simp only [ByteArray.size_append] at z; exact z))]) | (rw [if_neg (Nat.not_lt.mpr (by have z := c27; simp only [ByteArray.size_append] at z; exact z))])
  rotate_left
  ·simp only [Act.put, z0,z1,z2,i64_w,i32_w];rfl
  refine take_ (i := 11) (N := some 35) (v := ?_) (a' := ?_) #[Y,Y,O,O,O,Y,Y,O,O,O,Y,Y,O,O,O] rfl rfl (take_ofW HT_.out HW_.out kr) (fun _ _ _ h => h) (Or.inl ⟨by rfl, ?_⟩) hHeld ?_ ?_;rotate_left
  ·rintro w' ⟨s0, s1, s2, s3, s4, s5, s6, s7, s8, s9⟩;go_simp
   first | (with_reducible rfl) | (rw [if_neg (Nat.not_lt.mpr (by have z := c11; simp only [ByteArray.size_append] at z; exact z))]) | (rw [if_neg (Nat.not_lt.mpr (by have z := c13; simp only [ByteArray.size_append] at z; exact z))]) | (rw [if_neg (Nat.not_lt.mpr (by have z := c22; simp only [ByteArray.size_append] at z; exact z))]) | (rw [if_neg (Nat.not_lt.mpr (by have z := c24; simp only [ByteArray.size_append] at z; exact z))]) | (rw [if_neg (Nat.not_lt.mpr (by have z := c25; simp only [ByteArray.size_append] at z; exact z))]) | (rw [if_neg (Nat.not_lt.mpr (by have z := c27; simp only [ByteArray.size_append] at z; exact z))])
  rotate_left
  ·simp only [Act.put, z0,z1,z2,i64_w,i32_w];rfl
  refine one_ (i := 2) (N := some 26) #[Y,Y,Y,O,O,Y,Y,O,O,O,Y,Y,O,O,O] rfl rfl (one_of HT_.out kr) (by decide) (fun K hK => ?_);refine goes_ Tryz.func37 kr rfl #[.int .i64 a0_1] (by rfl) rfl rfl sa ?_
  with_reducible refine (r6_digits.calls k a0_1 _ _ A20.out).mono ?_
  rintro e w31 ⟨rfl, hb⟩;refine ⟨_, rfl, ?_⟩;replace BK317 := As (YB (g := gb317) (o := .cells #[.int .i64 a0_0, .int .i64 a0_1, .int .i64 a0_2, .int .i64 a0_3, .int .i64 a0_4, .int .i64 a0_5, .int .i64 a0_6, .int .i64 a0_7, .int .i64 a0_8, .int .i64 a0_9] 25 (0, 0)) (bk BK317.out) hb);replace HB := As (XT (be HB.out) hb)
  (try clear hb)
  (try clear hb2)
  (try clear hk)
  (try clear hi)
  refine hK.out _ _ (cy10 BK317.out) (fun hHeld => ?_);clear hK K;refine norm_ (a' := ?_) ?_ ?_;rotate_left
  ·show Act.put _ (some 26) _ = _
   simp only [Act.put, z0,z1,z2,i64_w,i32_w];rfl
  refine pure_ (i := 3) (N := some 27) (v := ?_) (a' := ?_) #[Y,Y,Y,Y,O,Y,Y,O,O,O,Y,Y,O,O,O] rfl rfl (any_of HT_.out kr) (fun _ _ _ h => h) (Or.inl ⟨by rfl, ?_⟩) ?_ ?_;rotate_left
  ·intro w';go_simp
   first | (with_reducible rfl) | (rw [if_neg (Nat.not_lt.mpr (by have z := c11; simp only [ByteArray.size_append] at z; exact z))]) | (rw [if_neg (Nat.not_lt.mpr (by have z := c13; simp only [ByteArray.size_append] at z; exact z))]) | (rw [if_neg (Nat.not_lt.mpr (by have z := c22; simp only [ByteArray.size_append] at z; exact z))]) | (rw [if_neg (Nat.not_lt.mpr (by have z := c24; simp only [ByteArray.size_append] at z; exact z))]) | (rw [if_neg (Nat.not_lt.mpr (by have z := c25; simp only [ByteArray.size_append] at z; exact z))]) | (rw [if_neg (Nat.not_lt.mpr (by have z := c27; simp only [ByteArray.size_append] at z; exact z))])
  rotate_left
  ·simp only [Act.put, z0,z1,z2,i64_w,i32_w];rfl
  refine pure_ (i := 4) (N := some 28) (v := ?_) (a' := ?_) #[Y,Y,Y,Y,Y,Y,Y,O,O,O,Y,Y,O,O,O] rfl rfl (any_of HT_.out kr) (fun _ _ _ h => h) (Or.inl ⟨by rfl, ?_⟩) ?_ ?_;rotate_left
  ·intro w';go_simp
   first | (with_reducible rfl) | (rw [if_neg (Nat.not_lt.mpr (by have z := c11; simp only [ByteArray.size_append] at z; exact z))]) | (rw [if_neg (Nat.not_lt.mpr (by have z := c13; simp only [ByteArray.size_append] at z; exact z))]) | (rw [if_neg (Nat.not_lt.mpr (by have z := c22; simp only [ByteArray.size_append] at z; exact z))]) | (rw [if_neg (Nat.not_lt.mpr (by have z := c24; simp only [ByteArray.size_append] at z; exact z))]) | (rw [if_neg (Nat.not_lt.mpr (by have z := c25; simp only [ByteArray.size_append] at z; exact z))]) | (rw [if_neg (Nat.not_lt.mpr (by have z := c27; simp only [ByteArray.size_append] at z; exact z))])
  rotate_left
  ·simp only [Act.put, z0,z1,z2,i64_w,i32_w];rfl
  refine one_ (i := 7) (N := some 31) #[Y,Y,Y,Y,Y,Y,Y,Y,O,O,Y,Y,O,O,O] rfl rfl (one_of HT_.out kr) (by decide) (fun K hK => ?_);refine goes_ Tryz.func37 kr rfl #[.int .i64 a0_2] (by rfl) rfl rfl sa ?_
  with_reducible refine (r6_digits.calls k a0_2 _ _ A23.out).mono ?_
  rintro e w32 ⟨rfl, hb⟩;refine ⟨_, rfl, ?_⟩;replace BK317 := As (YB (g := gb317) (o := .cells #[.int .i64 a0_0, .int .i64 a0_1, .int .i64 a0_2, .int .i64 a0_3, .int .i64 a0_4, .int .i64 a0_5, .int .i64 a0_6, .int .i64 a0_7, .int .i64 a0_8, .int .i64 a0_9] 25 (0, 0)) (bk BK317.out) hb);replace HB := As (XT (be HB.out) hb)
  (try clear hb)
  (try clear hb2)
  (try clear hk)
  (try clear hi)
  refine hK.out _ _ (cy10 BK317.out) (fun hHeld => ?_);clear hK K;refine norm_ (a' := ?_) ?_ ?_;rotate_left
  ·show Act.put _ (some 31) _ = _
   simp only [Act.put, z0,z1,z2,i64_w,i32_w];rfl
  refine pure_ (i := 8) (N := some 32) (v := ?_) (a' := ?_) #[Y,Y,Y,Y,Y,Y,Y,Y,Y,O,Y,Y,O,O,O] rfl rfl (any_of HT_.out kr) (fun _ _ _ h => h) (Or.inl ⟨by rfl, ?_⟩) ?_ ?_;rotate_left
  ·intro w';go_simp
   first | (with_reducible rfl) | (rw [if_neg (Nat.not_lt.mpr (by have z := c11; simp only [ByteArray.size_append] at z; exact z))]) | (rw [if_neg (Nat.not_lt.mpr (by have z := c13; simp only [ByteArray.size_append] at z; exact z))]) | (rw [if_neg (Nat.not_lt.mpr (by have z := c22; simp only [ByteArray.size_append] at z; exact z))]) | (rw [if_neg (Nat.not_lt.mpr (by have z := c24; simp only [ByteArray.size_append] at z; exact z))]) | (rw [if_neg (Nat.not_lt.mpr (by have z := c25; simp only [ByteArray.size_append] at z; exact z))]) | (rw [if_neg (Nat.not_lt.mpr (by have z := c27; simp only [ByteArray.size_append] at z; exact z))])
  rotate_left
  ·simp only [Act.put, z0,z1,z2,i64_w,i32_w];rfl
  refine pure_ (i := 9) (N := some 33) (v := ?_) (a' := ?_) (fl 12 3) rfl rfl (any_of HT_.out kr) (fun _ _ _ h => h) (Or.inl ⟨by rfl, ?_⟩) ?_ ?_;rotate_left
  ·intro w';go_simp
   first | (with_reducible rfl) | (rw [if_neg (Nat.not_lt.mpr (by have z := c11; simp only [ByteArray.size_append] at z; exact z))]) | (rw [if_neg (Nat.not_lt.mpr (by have z := c13; simp only [ByteArray.size_append] at z; exact z))]) | (rw [if_neg (Nat.not_lt.mpr (by have z := c22; simp only [ByteArray.size_append] at z; exact z))]) | (rw [if_neg (Nat.not_lt.mpr (by have z := c24; simp only [ByteArray.size_append] at z; exact z))]) | (rw [if_neg (Nat.not_lt.mpr (by have z := c25; simp only [ByteArray.size_append] at z; exact z))]) | (rw [if_neg (Nat.not_lt.mpr (by have z := c27; simp only [ByteArray.size_append] at z; exact z))])
  rotate_left
  ·simp only [Act.put, z0,z1,z2,i64_w,i32_w];rfl
  refine one_ (i := 12) (N := some 36) (fl 13 2) rfl rfl (one_of HT_.out kr) (by decide) (fun K hK => ?_);refine goes_ Tryz.func37 kr rfl #[.int .i64 a0_3] (by rfl) rfl rfl sa ?_
  with_reducible refine (r6_digits.calls k a0_3 _ _ A26.out).mono ?_
  rintro e w33 ⟨rfl, hb⟩;refine ⟨_, rfl, ?_⟩;replace BK317 := As (YB (g := gb317) (o := .cells #[.int .i64 a0_0, .int .i64 a0_1, .int .i64 a0_2, .int .i64 a0_3, .int .i64 a0_4, .int .i64 a0_5, .int .i64 a0_6, .int .i64 a0_7, .int .i64 a0_8, .int .i64 a0_9] 25 (0, 0)) (bk BK317.out) hb);replace HB := As (XT (be HB.out) hb)
  (try clear hb)
  (try clear hb2)
  (try clear hk)
  (try clear hi)
  refine hK.out _ _ (cy10 BK317.out) (fun hHeld => ?_);clear hK K;refine norm_ (a' := ?_) ?_ ?_;rotate_left
  ·show Act.put _ (some 36) _ = _
   simp only [Act.put, z0,z1,z2,i64_w,i32_w];rfl
  refine pure_ (i := 13) (N := some 37) (v := ?_) (a' := ?_) (fl 14 1) rfl rfl (any_of HT_.out kr) (fun _ _ _ h => h) (Or.inl ⟨by rfl, ?_⟩) ?_ ?_;rotate_left
  ·intro w';go_simp
   first | (with_reducible rfl) | (rw [if_neg (Nat.not_lt.mpr (by have z := c11; simp only [ByteArray.size_append] at z; exact z))]) | (rw [if_neg (Nat.not_lt.mpr (by have z := c13; simp only [ByteArray.size_append] at z; exact z))]) | (rw [if_neg (Nat.not_lt.mpr (by have z := c22; simp only [ByteArray.size_append] at z; exact z))]) | (rw [if_neg (Nat.not_lt.mpr (by have z := c24; simp only [ByteArray.size_append] at z; exact z))]) | (rw [if_neg (Nat.not_lt.mpr (by have z := c25; simp only [ByteArray.size_append] at z; exact z))]) | (rw [if_neg (Nat.not_lt.mpr (by have z := c27; simp only [ByteArray.size_append] at z; exact z))])
  rotate_left
  ·simp only [Act.put, z0,z1,z2,i64_w,i32_w];rfl
  refine pure_ (i := 14) (N := some 2) (v := ?_) (a' := ?_) (fl 15 0) rfl rfl (any_of HT_.out kr) (fun _ _ _ h => h) (Or.inl ⟨by rfl, ?_⟩) ?_ ?_;rotate_left
  ·intro w';go_simp
   first | (with_reducible rfl) | (rw [if_neg (Nat.not_lt.mpr (by have z := c11; simp only [ByteArray.size_append] at z; exact z))]) | (rw [if_neg (Nat.not_lt.mpr (by have z := c13; simp only [ByteArray.size_append] at z; exact z))]) | (rw [if_neg (Nat.not_lt.mpr (by have z := c22; simp only [ByteArray.size_append] at z; exact z))]) | (rw [if_neg (Nat.not_lt.mpr (by have z := c24; simp only [ByteArray.size_append] at z; exact z))]) | (rw [if_neg (Nat.not_lt.mpr (by have z := c25; simp only [ByteArray.size_append] at z; exact z))]) | (rw [if_neg (Nat.not_lt.mpr (by have z := c27; simp only [ByteArray.size_append] at z; exact z))])
  rotate_left
  ·simp only [Act.put, z0,z1,z2,i64_w,i32_w];rfl
  refine done_ (done_of HT_.out kr) ?_
  try go_wp2
  go_ret
  exact ⟨by first | rfl | (simp [errW_none, errW_some] <;> rfl) | (simp [*, errW_none, errW_some] <;> rfl), by repeat (first | (with_reducible first | exact HB.out | apply XA | apply XN | apply XD | refine XS ?_ GE317.out) | exact HB.out)⟩
 ·replace BK317 := As (YD BK317.out);replace HB := As (XD HB.out);refine start_ (n := 10) (S := fun w' => w'.cell? ⟨gb317, 0, none⟩ = some (.int .i64 a0_0) ∧ w'.cell? ⟨gb317, 1, none⟩ = some (.int .i64 a0_1) ∧ w'.cell? ⟨gb317, 2, none⟩ = some (.int .i64 a0_2) ∧ w'.cell? ⟨gb317, 3, none⟩ = some (.int .i64 a0_3) ∧ w'.cell? ⟨gb317, 4, none⟩ = some (.int .i64 a0_4) ∧ w'.cell? ⟨gb317, 5, none⟩ = some (.int .i64 a0_5) ∧ w'.cell? ⟨gb317, 6, none⟩ = some (.int .i64 a0_6) ∧ w'.cell? ⟨gb317, 7, none⟩ = some (.int .i64 a0_7) ∧ w'.cell? ⟨gb317, 8, none⟩ = some (.int .i64 a0_8) ∧ w'.cell? ⟨gb317, 9, none⟩ = some (.int .i64 a0_9)) (ds := []) (fl 0 10) kr rfl rfl (cy10 BK317.out) (fun hHeld => ?_); refine with_tabW r6_Text.tab5 r6_Text.bits5 (fun HT_ HW_ => ?_);generalize w5.drew = w16 at BK317 HB hHeld ⊢;refine pure_ (i := 0) (N := some 13) (v := ?_) (a' := ?_) (fl 1 9) rfl rfl (any_of HT_.out kr) (fun _ _ _ h => h) (Or.inl ⟨by rfl, ?_⟩) ?_ ?_;rotate_left
  ·intro w';go_simp
   first | (with_reducible rfl) | (rw [if_neg (Nat.not_lt.mpr (by have z := c11; simp only [ByteArray.size_append] at z; exact z))]) | (rw [if_neg (Nat.not_lt.mpr (by have z := c13; simp only [ByteArray.size_append] at z; exact z))])
  rotate_left
  ·simp only [Act.put, z0,z1,z2,i64_w,i32_w];rfl
  refine pure_ (i := 5) (N := some 18) (v := ?_) (a' := ?_) #[Y,O,O,O,O,Y,O,O,O,O] rfl rfl (any_of HT_.out kr) (fun _ _ _ h => h) (Or.inl ⟨by rfl, ?_⟩) ?_ ?_;rotate_left
  ·intro w';go_simp
   first | (with_reducible rfl) | (rw [if_neg (Nat.not_lt.mpr (by have z := c11; simp only [ByteArray.size_append] at z; exact z))]) | (rw [if_neg (Nat.not_lt.mpr (by have z := c13; simp only [ByteArray.size_append] at z; exact z))])
  rotate_left
  ·simp only [Act.put, z0,z1,z2,i64_w,i32_w];rfl
  refine take_ (i := 1) (N := some 14) (v := ?_) (a' := ?_) #[Y,Y,O,O,O,Y,O,O,O,O] rfl rfl (take_ofW HT_.out HW_.out kr) (fun _ _ _ h => h) (Or.inl ⟨by rfl, ?_⟩) hHeld ?_ ?_;rotate_left
  ·rintro w' ⟨s0, s1, s2, s3, s4, s5, s6, s7, s8, s9⟩;go_simp
   first | (with_reducible rfl) | (rw [if_neg (Nat.not_lt.mpr (by have z := c11; simp only [ByteArray.size_append] at z; exact z))]) | (rw [if_neg (Nat.not_lt.mpr (by have z := c13; simp only [ByteArray.size_append] at z; exact z))])
  rotate_left
  ·simp only [Act.put, z0,z1,z2,i64_w,i32_w];rfl
  refine take_ (i := 6) (N := some 19) (v := ?_) (a' := ?_) #[Y,Y,O,O,O,Y,Y,O,O,O] rfl rfl (take_ofW HT_.out HW_.out kr) (fun _ _ _ h => h) (Or.inl ⟨by rfl, ?_⟩) hHeld ?_ ?_;rotate_left
  ·rintro w' ⟨s0, s1, s2, s3, s4, s5, s6, s7, s8, s9⟩;go_simp
   first | (with_reducible rfl) | (rw [if_neg (Nat.not_lt.mpr (by have z := c11; simp only [ByteArray.size_append] at z; exact z))]) | (rw [if_neg (Nat.not_lt.mpr (by have z := c13; simp only [ByteArray.size_append] at z; exact z))])
  rotate_left
  ·simp only [Act.put, z0,z1,z2,i64_w,i32_w];rfl
  refine one_ (i := 2) (N := some 15) #[Y,Y,Y,O,O,Y,Y,O,O,O] rfl rfl (one_of HT_.out kr) (by decide) (fun K hK => ?_);refine goes_ Tryz.func37 kr rfl #[.int .i64 a0_1] (by rfl) rfl rfl sa ?_
  with_reducible refine (r6_digits.calls k a0_1 _ _ A9.out).mono ?_
  rintro e w17 ⟨rfl, hb⟩;refine ⟨_, rfl, ?_⟩;replace BK317 := As (YB (g := gb317) (o := .cells #[.int .i64 a0_0, .int .i64 a0_1, .int .i64 a0_2, .int .i64 a0_3, .int .i64 a0_4, .int .i64 a0_5, .int .i64 a0_6, .int .i64 a0_7, .int .i64 a0_8, .int .i64 a0_9] 25 (0, 0)) (bk BK317.out) hb);replace HB := As (XT (be HB.out) hb)
  (try clear hb)
  (try clear hb2)
  (try clear hk)
  (try clear hi)
  refine hK.out _ _ (cy10 BK317.out) (fun hHeld => ?_);clear hK K;refine norm_ (a' := ?_) ?_ ?_;rotate_left
  ·show Act.put _ (some 15) _ = _
   simp only [Act.put, z0,z1,z2,i64_w,i32_w];rfl
  refine pure_ (i := 3) (N := some 16) (v := ?_) (a' := ?_) #[Y,Y,Y,Y,O,Y,Y,O,O,O] rfl rfl (any_of HT_.out kr) (fun _ _ _ h => h) (Or.inl ⟨by rfl, ?_⟩) ?_ ?_;rotate_left
  ·intro w';go_simp
   first | (with_reducible rfl) | (rw [if_neg (Nat.not_lt.mpr (by have z := c11; simp only [ByteArray.size_append] at z; exact z))]) | (rw [if_neg (Nat.not_lt.mpr (by have z := c13; simp only [ByteArray.size_append] at z; exact z))])
  rotate_left
  ·simp only [Act.put, z0,z1,z2,i64_w,i32_w];rfl
  refine pure_ (i := 4) (N := some 17) (v := ?_) (a' := ?_) (fl 7 3) rfl rfl (any_of HT_.out kr) (fun _ _ _ h => h) (Or.inl ⟨by rfl, ?_⟩) ?_ ?_;rotate_left
  ·intro w';go_simp
   first | (with_reducible rfl) | (rw [if_neg (Nat.not_lt.mpr (by have z := c11; simp only [ByteArray.size_append] at z; exact z))]) | (rw [if_neg (Nat.not_lt.mpr (by have z := c13; simp only [ByteArray.size_append] at z; exact z))])
  rotate_left
  ·simp only [Act.put, z0,z1,z2,i64_w,i32_w];rfl
  refine one_ (i := 7) (N := some 20) (fl 8 2) rfl rfl (one_of HT_.out kr) (by decide) (fun K hK => ?_);refine goes_ Tryz.func37 kr rfl #[.int .i64 a0_2] (by rfl) rfl rfl sa ?_
  with_reducible refine (r6_digits.calls k a0_2 _ _ A12.out).mono ?_
  rintro e w18 ⟨rfl, hb⟩;refine ⟨_, rfl, ?_⟩;replace BK317 := As (YB (g := gb317) (o := .cells #[.int .i64 a0_0, .int .i64 a0_1, .int .i64 a0_2, .int .i64 a0_3, .int .i64 a0_4, .int .i64 a0_5, .int .i64 a0_6, .int .i64 a0_7, .int .i64 a0_8, .int .i64 a0_9] 25 (0, 0)) (bk BK317.out) hb);replace HB := As (XT (be HB.out) hb)
  (try clear hb)
  (try clear hb2)
  (try clear hk)
  (try clear hi)
  refine hK.out _ _ (cy10 BK317.out) (fun hHeld => ?_);clear hK K;refine norm_ (a' := ?_) ?_ ?_;rotate_left
  ·show Act.put _ (some 20) _ = _
   simp only [Act.put, z0,z1,z2,i64_w,i32_w];rfl
  refine pure_ (i := 8) (N := some 21) (v := ?_) (a' := ?_) (fl 9 1) rfl rfl (any_of HT_.out kr) (fun _ _ _ h => h) (Or.inl ⟨by rfl, ?_⟩) ?_ ?_;rotate_left
  ·intro w';go_simp
   first | (with_reducible rfl) | (rw [if_neg (Nat.not_lt.mpr (by have z := c11; simp only [ByteArray.size_append] at z; exact z))]) | (rw [if_neg (Nat.not_lt.mpr (by have z := c13; simp only [ByteArray.size_append] at z; exact z))])
  rotate_left
  ·simp only [Act.put, z0,z1,z2,i64_w,i32_w];rfl
  refine pure_ (i := 9) (N := some 2) (v := ?_) (a' := ?_) (fl 10 0) rfl rfl (any_of HT_.out kr) (fun _ _ _ h => h) (Or.inl ⟨by rfl, ?_⟩) ?_ ?_;rotate_left
  ·intro w';go_simp
   first | (with_reducible rfl) | (rw [if_neg (Nat.not_lt.mpr (by have z := c11; simp only [ByteArray.size_append] at z; exact z))]) | (rw [if_neg (Nat.not_lt.mpr (by have z := c13; simp only [ByteArray.size_append] at z; exact z))])
  rotate_left
  ·simp only [Act.put, z0,z1,z2,i64_w,i32_w];rfl
  refine done_ (done_of HT_.out kr) ?_
  try go_wp2
  go_ret
  exact ⟨by first | rfl | (simp [errW_none, errW_some] <;> rfl) | (simp [*, errW_none, errW_some] <;> rfl), by repeat (first | (with_reducible first | exact HB.out | apply XA | apply XN | apply XD | refine XS ?_ GE317.out) | exact HB.out)⟩
 ·go_ret
  exact ⟨by first | rfl | (simp [errW_none, errW_some] <;> rfl) | (simp [*, errW_none, errW_some] <;> rfl), by repeat (first | (with_reducible first | exact HB.out | apply XA | apply XN | apply XD | refine XS ?_ GE317.out) | exact HB.out)⟩

end Go.Proofs.YtpagbmkdphdjoaaGreatDoor.P
-- SHRUNK
-- PACKED
-- PACKED2
