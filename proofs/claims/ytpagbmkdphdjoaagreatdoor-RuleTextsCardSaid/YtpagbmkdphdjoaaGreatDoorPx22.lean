-- written by myprint.py (this claim's own program, after the kit's print)
import Derived.Test.YtpagbmkdphdjoaaGreatDoorPx0
import Derived.Test.YtpagbmkdphdjoaaGreatDoorPack
namespace Go.Proofs.YtpagbmkdphdjoaaGreatDoor.P
open Go.RowKit Go.Proofs.YtpagbmkdphdjoaaGreatDoorW.PrintWords Go.Proofs.YtpagbmkdphdjoaaGreatDoorW.PrintLast Go.Proofs.YtpagbmkdphdjoaaGreatDoorW.PrintMore
attribute [local go_sem] max2_int min2_int max_two min_two max_three min_three max_four min_four   -- for this text's walks alone
set_option linter.unusedVariables false
set_option linter.unusedSimpArgs false

/-! ### r6_digits: function 37 -/
mutual
def r6_digits.l0 : Nat → Int → ByteArray → Option (ByteArray)
 | 0, _, _ => none
 | k + 1, x0, x3 => if x0 > 0 then (if 0 ≤ (Int.tmod x0 10) then (if (Int.tmod x0 10) ≤ (wrap64 ((Int.tmod x0 10) + 1)) then (if (wrap64 ((Int.tmod x0 10) + 1)) ≤ 10 then (if ((⟨#[48, 49, 50, 51, 52, 53, 54, 55, 56, 57]⟩ : ByteArray).extract ((Int.tmod x0 10) : Int).toNat ((wrap64 ((Int.tmod x0 10) + 1)) : Int).toNat).size + x3.size ≤ 9223372036854775807 then (r6_digits.l0 k (wrap64 (Int.tdiv x0 10)) (((⟨#[48, 49, 50, 51, 52, 53, 54, 55, 56, 57]⟩ : ByteArray).extract ((Int.tmod x0 10) : Int).toNat ((wrap64 ((Int.tmod x0 10) + 1)) : Int).toNat) ++ x3)) else (none)) else (none)) else (none)) else (none)) else (if x3.toList = ([] : List UInt8) then (if 0 ≤ (Int.tmod x0 10) then (if (Int.tmod x0 10) ≤ (wrap64 ((Int.tmod x0 10) + 1)) then (if (wrap64 ((Int.tmod x0 10) + 1)) ≤ 10 then (if ((⟨#[48, 49, 50, 51, 52, 53, 54, 55, 56, 57]⟩ : ByteArray).extract ((Int.tmod x0 10) : Int).toNat ((wrap64 ((Int.tmod x0 10) + 1)) : Int).toNat).size + x3.size ≤ 9223372036854775807 then (r6_digits.l0 k (wrap64 (Int.tdiv x0 10)) (((⟨#[48, 49, 50, 51, 52, 53, 54, 55, 56, 57]⟩ : ByteArray).extract ((Int.tmod x0 10) : Int).toNat ((wrap64 ((Int.tmod x0 10) + 1)) : Int).toNat) ++ x3)) else (none)) else (none)) else (none)) else (none)) else (some x3))
def r6_digits.f : Nat → Int → Option (ByteArray)
 | 0, _ => none
 | k + 1, a0 => if a0 < 0 then ((r6_digits.f k (wrap64 (-a0))).bind fun t312 => (if 1 + t312.size ≤ 9223372036854775807 then (some ((⟨#[45]⟩ : ByteArray) ++ t312)) else (none))) else (r6_digits.l0 k a0 (⟨#[]⟩ : ByteArray))
end
theorem r6_digits.mono_l : ∀ k, (∀ y0, LeO (r6_digits.f k y0) (r6_digits.f (k + 1) y0)) ∧ (∀ y0 y1, LeO (r6_digits.l0 k y0 y1) (r6_digits.l0 (k + 1) y0 y1))
 | 0 => ⟨fun _ r h => by simp [r6_digits.f] at h, fun _ _ r h => by simp [r6_digits.l0] at h⟩
 | k + 1 => by
  obtain ⟨ih0, ih1⟩ := r6_digits.mono_l k;refine ⟨?_, ?_⟩
  ·intro y0;unfold r6_digits.f
   repeat' first
   | (with_reducible exact ih0 _)
   | (with_reducible exact ih1 _ _)
   | (with_reducible exact LeO.refl _)
   | (with_reducible exact LeO.none _)
   | (with_reducible refine LeO.ite ?_ ?_)
   | (with_reducible refine LeO.bind ?_ (fun _ => ?_))
   | exact ih0 _
   | exact ih1 _ _
   | exact LeO.none _
   | refine LeO.ite ?_ ?_
   | refine LeO.bind ?_ (fun _ => ?_)
  ·intro y0 y1;unfold r6_digits.l0
   repeat' first
   | (with_reducible exact ih0 _)
   | (with_reducible exact ih1 _ _)
   | (with_reducible exact LeO.refl _)
   | (with_reducible exact LeO.none _)
   | (with_reducible refine LeO.ite ?_ ?_)
   | (with_reducible refine LeO.bind ?_ (fun _ => ?_))
   | exact ih0 _
   | exact ih1 _ _
   | exact LeO.none _
   | refine LeO.ite ?_ ?_
   | refine LeO.bind ?_ (fun _ => ?_)
theorem r6_digits.mono : ∀ a0 k, LeO (r6_digits.f k a0) (r6_digits.f (k + 1) a0) := by
 intro a0 k;obtain ⟨ih0, ih1⟩ := r6_digits.mono_l k;exact ih0 a0
set_option maxHeartbeats 2000000 in
set_option maxRecDepth 100000 in
theorem r6_digits.calls (k : Nat) : ∀ (a0 : Int) (r : ByteArray) (w : World) (h : r6_digits.f k a0 = some r),
  Calls Tryz.prog 37 #[.int .i64 a0] w fun e w' => e = .returned (.string r) ∧ Below w.heap.size w w' := by
 induction k using Nat.strongRecOn with
 | _ k ih =>
 intro a0 r w h
 cases k with
 | zero => exact absurd h (by simp [r6_digits.f])
 | succ k =>
 simp only [r6_digits.f] at h;have HB := As (Below.refl w.heap.size w);have H : (if a0 < 0 then ((r6_digits.f k (wrap64 (-a0))).bind fun t312 => (if 1 + t312.size ≤ 9223372036854775807 then (some ((⟨#[45]⟩ : ByteArray) ++ t312)) else (none))) else (r6_digits.l0 k a0 (⟨#[]⟩ : ByteArray))) = some r := h;clear h
 by_cases c2 : a0 < 0
 ·rw [if_pos c2] at H;have c2b0 : decide (a0 < 0) = true := dY c2;clear c2;replace H := bE H;obtain ⟨t312, A30, H⟩ := H;replace H : (if 1 + t312.size ≤ 9223372036854775807 then (some ((⟨#[45]⟩ : ByteArray) ++ t312)) else (none)) = some r := H;have A3 := As A30;clear A30
  by_cases c4 : 1 + t312.size ≤ 9223372036854775807
  ·rw [if_pos c4] at H;have c4b0 := eq_true c4;have c4b1 : decide (1 + t312.size ≤ 9223372036854775807) = true := dY c4
   try have c4b2 : (9223372036854775807 < 1 + t312.size) = False := eq_false (Nat.not_lt.2 c4)
   obtain rfl := Option.some.inj H
   go_enter Tryz.func37, Tryz.ntmps37
   go_wp2_with (first | ((with_reducible refine gate_callee (f := 37) rfl ?_); refine goesL_ (some 8) rfl rfl Tryz.func37 kr rfl #[.int .i64 (wrap64 (-a0))] rfl sa ?_; (with_reducible refine (ih k (by omega) (wrap64 (-a0)) t312 _ A3.out).mono ?_); rintro e w5 ⟨rfl, hb⟩; refine ⟨_, rfl, ?_⟩; replace HB := As (XT (be HB.out) hb); (try clear hb); (try clear hb2); (try clear hk); (try clear hi)))
   go_ret
   exact ⟨by first | rfl | (simp [errW_none, errW_some] <;> rfl) | (simp [*, errW_none, errW_some] <;> rfl), by repeat (first | (with_reducible first | exact HB.out | apply XA | apply XN | apply XD) | exact HB.out)⟩
  ·rw [if_neg c4] at H;exact absurd H (by simp)
 ·rw [if_neg c2] at H;have c2b0 : decide (a0 < 0) = false := dN c2;clear c2;have H' := As H;clear H
  go_enter Tryz.func37, Tryz.ntmps37
  go_wp2
  go_loopg [0, 3] k (fun kq v0 v3 w' => ∃ (x0_1 : Int) (x3_1 : ByteArray), v0 = .int .i64 x0_1 ∧ v3 = .string x3_1 ∧ Aside0 (r6_digits.l0 kq x0_1 x3_1 = some r) ∧ Aside0 (kq ≤ k) ∧ Aside0 (Below w.heap.size w w'))
  case atStart => exact ⟨(a0), ((⟨#[]⟩ : ByteArray)), sw, sw, H', ⟨Nat.le_refl _⟩, ⟨by repeat (first | (with_reducible first | exact HB.out | apply XA | apply XN | apply XD) | exact HB.out)⟩⟩
  case round =>
   clear H'
   try clear c2
   try clear c2b0
   try clear p2
   try clear c3
   try clear c4
   try clear c4b0
   try clear c4b1
   try clear c4b2
   obtain ⟨x0_1, x3_1, rfl, rfl, HA, HK1, HB⟩ := hrel
   cases gk with
   | zero => exact absurd HA.out (by simp [r6_digits.l0])
   | succ k1 =>
    have H := HA.out;clear HA;simp only [r6_digits.l0] at H
    by_cases c6 : x0_1 > 0
    focus
     rw [if_pos c6] at H;have c6b0 : decide (0 < x0_1) = true := dY c6;clear c6
     obtain ⟨ji13, hji13⟩ : ∃ j_ : Int, (Int.tmod x0_1 10) = j_ := ⟨_, rfl⟩
     replace H : (if 0 ≤ (ji13) then (if (ji13) ≤ (wrap64 ((ji13) + 1)) then (if (wrap64 ((ji13) + 1)) ≤ 10 then (if ((⟨#[48, 49, 50, 51, 52, 53, 54, 55, 56, 57]⟩ : ByteArray).extract ((ji13) : Int).toNat ((wrap64 ((ji13) + 1)) : Int).toNat).size + x3_1.size ≤ 9223372036854775807 then (r6_digits.l0 k1 (wrap64 (Int.tdiv x0_1 10)) (((⟨#[48, 49, 50, 51, 52, 53, 54, 55, 56, 57]⟩ : ByteArray).extract ((ji13) : Int).toNat ((wrap64 ((ji13) + 1)) : Int).toNat) ++ x3_1)) else (none)) else (none)) else (none)) else (none)) = some r := by first | (rw [hji13] at H; exact H) | (simp only [hji13] at H ⊢; exact H)
     by_cases c8 : 0 ≤ (ji13)
     rotate_left
     ·rw [if_neg c8] at H;exact absurd H (by simp)
     rw [if_pos c8] at H;have c8b0 := eq_true c8;have c8b1 : decide (0 ≤ (ji13)) = true := dY c8;clear c8
     by_cases c9 : (ji13) ≤ (wrap64 ((ji13) + 1))
     rotate_left
     ·rw [if_neg c9] at H;exact absurd H (by simp)
     rw [if_pos c9] at H;have c9b0 := eq_true c9;have c9b1 : decide ((ji13) ≤ (wrap64 ((ji13) + 1))) = true := dY c9
     by_cases c10 : (wrap64 ((ji13) + 1)) ≤ 10
     rotate_left
     ·rw [if_neg c10] at H;exact absurd H (by simp)
     rw [if_pos c10] at H;have c10b0 := eq_true c10;have c10b1 : decide ((wrap64 ((ji13) + 1)) ≤ 10) = true := dY c10
     by_cases c11 : ((⟨#[48, 49, 50, 51, 52, 53, 54, 55, 56, 57]⟩ : ByteArray).extract ((ji13) : Int).toNat ((wrap64 ((ji13) + 1)) : Int).toNat).size + x3_1.size ≤ 9223372036854775807
     rotate_left
     ·rw [if_neg c11] at H;exact absurd H (by simp)
     rw [if_pos c11] at H;have c11b0 := eq_true c11;have c11b1 : decide (((⟨#[48, 49, 50, 51, 52, 53, 54, 55, 56, 57]⟩ : ByteArray).extract ((ji13) : Int).toNat ((wrap64 ((ji13) + 1)) : Int).toNat).size + x3_1.size ≤ 9223372036854775807) = true := dY c11
     try have c11b2 : (9223372036854775807 < ((⟨#[48, 49, 50, 51, 52, 53, 54, 55, 56, 57]⟩ : ByteArray).extract ((ji13) : Int).toNat ((wrap64 ((ji13) + 1)) : Int).toNat).size + x3_1.size) = False := eq_false (Nat.not_lt.2 c11)
     have H' := As H;clear H
     have m2_ := trivial
    rotate_left
    focus
     rw [if_neg c6] at H;have c6b0 : decide (0 < x0_1) = false := dN c6;clear c6
     by_cases c12 : x3_1.toList = ([] : List UInt8)
     focus
      rw [if_pos c12] at H;have c12b0 : (x3_1.toList == ([] : List UInt8)) = true := beq_iff_eq.mpr c12;have c12b1 : (x3_1.toList != ([] : List UInt8)) = false := bne_eq_false_iff_eq.mpr c12;clear c12
      obtain ⟨ji13, hji13⟩ : ∃ j_ : Int, (Int.tmod x0_1 10) = j_ := ⟨_, rfl⟩
      replace H : (if 0 ≤ (ji13) then (if (ji13) ≤ (wrap64 ((ji13) + 1)) then (if (wrap64 ((ji13) + 1)) ≤ 10 then (if ((⟨#[48, 49, 50, 51, 52, 53, 54, 55, 56, 57]⟩ : ByteArray).extract ((ji13) : Int).toNat ((wrap64 ((ji13) + 1)) : Int).toNat).size + x3_1.size ≤ 9223372036854775807 then (r6_digits.l0 k1 (wrap64 (Int.tdiv x0_1 10)) (((⟨#[48, 49, 50, 51, 52, 53, 54, 55, 56, 57]⟩ : ByteArray).extract ((ji13) : Int).toNat ((wrap64 ((ji13) + 1)) : Int).toNat) ++ x3_1)) else (none)) else (none)) else (none)) else (none)) = some r := by first | (rw [hji13] at H; exact H) | (simp only [hji13] at H ⊢; exact H)
      by_cases c14 : 0 ≤ (ji13)
      rotate_left
      ·rw [if_neg c14] at H;exact absurd H (by simp)
      rw [if_pos c14] at H;have c14b0 := eq_true c14;have c14b1 : decide (0 ≤ (ji13)) = true := dY c14;clear c14
      by_cases c15 : (ji13) ≤ (wrap64 ((ji13) + 1))
      rotate_left
      ·rw [if_neg c15] at H;exact absurd H (by simp)
      rw [if_pos c15] at H;have c15b0 := eq_true c15;have c15b1 : decide ((ji13) ≤ (wrap64 ((ji13) + 1))) = true := dY c15
      by_cases c16 : (wrap64 ((ji13) + 1)) ≤ 10
      rotate_left
      ·rw [if_neg c16] at H;exact absurd H (by simp)
      rw [if_pos c16] at H;have c16b0 := eq_true c16;have c16b1 : decide ((wrap64 ((ji13) + 1)) ≤ 10) = true := dY c16
      by_cases c17 : ((⟨#[48, 49, 50, 51, 52, 53, 54, 55, 56, 57]⟩ : ByteArray).extract ((ji13) : Int).toNat ((wrap64 ((ji13) + 1)) : Int).toNat).size + x3_1.size ≤ 9223372036854775807
      rotate_left
      ·rw [if_neg c17] at H;exact absurd H (by simp)
      rw [if_pos c17] at H;have c17b0 := eq_true c17;have c17b1 : decide (((⟨#[48, 49, 50, 51, 52, 53, 54, 55, 56, 57]⟩ : ByteArray).extract ((ji13) : Int).toNat ((wrap64 ((ji13) + 1)) : Int).toNat).size + x3_1.size ≤ 9223372036854775807) = true := dY c17
      try have c17b2 : (9223372036854775807 < ((⟨#[48, 49, 50, 51, 52, 53, 54, 55, 56, 57]⟩ : ByteArray).extract ((ji13) : Int).toNat ((wrap64 ((ji13) + 1)) : Int).toNat).size + x3_1.size) = False := eq_false (Nat.not_lt.2 c17)
      have H' := As H;clear H
      have m1_ := trivial
     rotate_left
     rw [if_neg c12] at H;have c12b0 : (x3_1.toList == ([] : List UInt8)) = false := beq_eq_false_iff_ne.mpr c12;have c12b1 : (x3_1.toList != ([] : List UInt8)) = true := bne_iff_ne.mpr c12;obtain rfl := Option.some.inj H
    all_goals go_wp2
    all_goals try
     first | (clear m1_; have m1_ := trivial) | (clear m2_; have m2_ := trivial)
     go_roundg k1
     case measure => have := HK1.out; omega
     case rel => exact ⟨(wrap64 (Int.tdiv x0_1 10)), (((⟨#[48, 49, 50, 51, 52, 53, 54, 55, 56, 57]⟩ : ByteArray).extract ((ji13) : Int).toNat ((wrap64 ((ji13) + 1)) : Int).toNat) ++ x3_1), sw, (by first | rfl | (simp; done) | (simp only [← hji13] <;> (first | rfl | simp)) | (simp [*]; done)), H', ⟨by have := HK1.out; omega⟩, ⟨by repeat (first | (with_reducible first | exact HB.out | apply XA | apply XN | apply XD) | exact HB.out)⟩⟩
    ·go_ret
     exact ⟨by first | rfl | (simp [errW_none, errW_some] <;> rfl) | (simp [*, errW_none, errW_some] <;> rfl), by repeat (first | (with_reducible first | exact HB.out | apply XA | apply XN | apply XD) | exact HB.out)⟩

/-! ### r6_date: function 38 -/
def r6_date.f (k : Nat) (a0_0 : Int) (a0_1 : Int) (a0_2 : Int) : Option (ByteArray) := (r6_digits.f k a0_0).bind fun t314 => (if t314.size + 1 ≤ 9223372036854775807 then ((r6_digits.f k a0_1).bind fun t315 => (if (t314 ++ (⟨#[45]⟩ : ByteArray)).size + t315.size ≤ 9223372036854775807 then (if ((t314 ++ (⟨#[45]⟩ : ByteArray)) ++ t315).size + 1 ≤ 9223372036854775807 then ((r6_digits.f k a0_2).bind fun t316 => (if (((t314 ++ (⟨#[45]⟩ : ByteArray)) ++ t315) ++ (⟨#[45]⟩ : ByteArray)).size + t316.size ≤ 9223372036854775807 then (some ((((t314 ++ (⟨#[45]⟩ : ByteArray)) ++ t315) ++ (⟨#[45]⟩ : ByteArray)) ++ t316)) else (none))) else (none)) else (none))) else (none))
theorem r6_date.mono : ∀ a0 a1 a2 k, LeO (r6_date.f k a0 a1 a2) (r6_date.f (k + 1) a0 a1 a2) := by
 intro a0 a1 a2 k;unfold r6_date.f
 repeat' first
   | (with_reducible exact r6_digits.mono _ _)
   | (with_reducible exact LeO.refl _)
   | (with_reducible exact LeO.none _)
   | (with_reducible refine LeO.ite ?_ ?_)
   | (with_reducible refine LeO.bind ?_ (fun _ => ?_))
   | exact r6_digits.mono _ _
   | exact LeO.none _
   | refine LeO.ite ?_ ?_
   | refine LeO.bind ?_ (fun _ => ?_)
def r6_date.T1 : Bool × List (List Nat × List Nat) := (true, [([], []), ([0], [0]), ([1], [1]), ([2], [2]), ([], []), ([4], [4]), ([5, 2], [5]), ([3, 6], [3, 6]), ([7], [7]), ([], []), ([9], [9]), ([10, 6], [10]), ([8, 11], [8, 11]), ([12, 11, 0, 1, 2, 3, 4, 5, 6, 7, 8, 9, 10, 11, 12], [12])])
def r6_date.B1 : List Nat := [0, 1, 3, 7, 0, 16, 55, 127, 255, 0, 512, 1655, 4095, 8191]
theorem r6_date.tab1 : rtab .any (opsOf Tryz.f38 1) = r6_date.T1 := by kernel_rfl
theorem r6_date.bits1 : waitsOk r6_date.T1.2 r6_date.B1 = true := by kernel_rfl
set_option maxHeartbeats 2000000 in
set_option maxRecDepth 100000 in
theorem r6_date.calls (k : Nat) (a0_0 : Int) (a0_1 : Int) (a0_2 : Int) (r : ByteArray) (w : World) (h : r6_date.f k a0_0 a0_1 a0_2 = some r) :
  Calls Tryz.prog 38 #[.agg #[.int .i64 a0_0, .int .i64 a0_1, .int .i64 a0_2]] w fun e w' => e = .returned (.string r) ∧ Below w.heap.size w w' := by
 have hu23 := Tryz.underlying23;have HB := As (Below.refl w.heap.size w);have H : ((r6_digits.f k a0_0).bind fun t314 => (if t314.size + 1 ≤ 9223372036854775807 then ((r6_digits.f k a0_1).bind fun t315 => (if (t314 ++ (⟨#[45]⟩ : ByteArray)).size + t315.size ≤ 9223372036854775807 then (if ((t314 ++ (⟨#[45]⟩ : ByteArray)) ++ t315).size + 1 ≤ 9223372036854775807 then ((r6_digits.f k a0_2).bind fun t316 => (if (((t314 ++ (⟨#[45]⟩ : ByteArray)) ++ t315) ++ (⟨#[45]⟩ : ByteArray)).size + t316.size ≤ 9223372036854775807 then (some ((((t314 ++ (⟨#[45]⟩ : ByteArray)) ++ t315) ++ (⟨#[45]⟩ : ByteArray)) ++ t316)) else (none))) else (none)) else (none))) else (none))) = some r := h;clear h;replace H := bE H;obtain ⟨t314, A20, H⟩ := H;replace H : (if t314.size + 1 ≤ 9223372036854775807 then ((r6_digits.f k a0_1).bind fun t315 => (if (t314 ++ (⟨#[45]⟩ : ByteArray)).size + t315.size ≤ 9223372036854775807 then (if ((t314 ++ (⟨#[45]⟩ : ByteArray)) ++ t315).size + 1 ≤ 9223372036854775807 then ((r6_digits.f k a0_2).bind fun t316 => (if (((t314 ++ (⟨#[45]⟩ : ByteArray)) ++ t315) ++ (⟨#[45]⟩ : ByteArray)).size + t316.size ≤ 9223372036854775807 then (some ((((t314 ++ (⟨#[45]⟩ : ByteArray)) ++ t315) ++ (⟨#[45]⟩ : ByteArray)) ++ t316)) else (none))) else (none)) else (none))) else (none)) = some r := H;have A2 := As A20;clear A20
 by_cases c3 : t314.size + 1 ≤ 9223372036854775807
 ·rw [if_pos c3] at H;have c3b0 := eq_true c3;have c3b1 : decide (t314.size + 1 ≤ 9223372036854775807) = true := dY c3
  try have c3b2 : (9223372036854775807 < t314.size + 1) = False := eq_false (Nat.not_lt.2 c3)
  replace H := bE H;obtain ⟨t315, A40, H⟩ := H;replace H : (if (t314 ++ (⟨#[45]⟩ : ByteArray)).size + t315.size ≤ 9223372036854775807 then (if ((t314 ++ (⟨#[45]⟩ : ByteArray)) ++ t315).size + 1 ≤ 9223372036854775807 then ((r6_digits.f k a0_2).bind fun t316 => (if (((t314 ++ (⟨#[45]⟩ : ByteArray)) ++ t315) ++ (⟨#[45]⟩ : ByteArray)).size + t316.size ≤ 9223372036854775807 then (some ((((t314 ++ (⟨#[45]⟩ : ByteArray)) ++ t315) ++ (⟨#[45]⟩ : ByteArray)) ++ t316)) else (none))) else (none)) else (none)) = some r := H;have A4 := As A40;clear A40
  by_cases c5 : (t314 ++ (⟨#[45]⟩ : ByteArray)).size + t315.size ≤ 9223372036854775807
  ·rw [if_pos c5] at H;have c5b0 := eq_true c5;have c5b1 : decide ((t314 ++ (⟨#[45]⟩ : ByteArray)).size + t315.size ≤ 9223372036854775807) = true := dY c5
   try have c5b2 : (9223372036854775807 < (t314 ++ (⟨#[45]⟩ : ByteArray)).size + t315.size) = False := eq_false (Nat.not_lt.2 c5)
   by_cases c6 : ((t314 ++ (⟨#[45]⟩ : ByteArray)) ++ t315).size + 1 ≤ 9223372036854775807
   ·rw [if_pos c6] at H;have c6b0 := eq_true c6;have c6b1 : decide (((t314 ++ (⟨#[45]⟩ : ByteArray)) ++ t315).size + 1 ≤ 9223372036854775807) = true := dY c6
    try have c6b2 : (9223372036854775807 < ((t314 ++ (⟨#[45]⟩ : ByteArray)) ++ t315).size + 1) = False := eq_false (Nat.not_lt.2 c6)
    replace H := bE H;obtain ⟨t316, A70, H⟩ := H;replace H : (if (((t314 ++ (⟨#[45]⟩ : ByteArray)) ++ t315) ++ (⟨#[45]⟩ : ByteArray)).size + t316.size ≤ 9223372036854775807 then (some ((((t314 ++ (⟨#[45]⟩ : ByteArray)) ++ t315) ++ (⟨#[45]⟩ : ByteArray)) ++ t316)) else (none)) = some r := H;have A7 := As A70;clear A70
    by_cases c8 : (((t314 ++ (⟨#[45]⟩ : ByteArray)) ++ t315) ++ (⟨#[45]⟩ : ByteArray)).size + t316.size ≤ 9223372036854775807
    ·rw [if_pos c8] at H;have c8b0 := eq_true c8;have c8b1 : decide ((((t314 ++ (⟨#[45]⟩ : ByteArray)) ++ t315) ++ (⟨#[45]⟩ : ByteArray)).size + t316.size ≤ 9223372036854775807) = true := dY c8
     try have c8b2 : (9223372036854775807 < (((t314 ++ (⟨#[45]⟩ : ByteArray)) ++ t315) ++ (⟨#[45]⟩ : ByteArray)).size + t316.size) = False := eq_false (Nat.not_lt.2 c8)
     obtain rfl := Option.some.inj H
     go_enter Tryz.func38, Tryz.ntmps38
     try go_wp2_with (first | ((with_reducible refine gate_dst (N := 1) rfl ?_); refine box_event ?hg (N := 1) ?hd (cs := #[.int .i64 a0_0, .int .i64 a0_1, .int .i64 a0_2]) (t := 23) ?hr ?_; (case hd => rfl); (case hg => rfl); (case hr => first | (go_simp; done) | (go_simp; rfl)); intro gb313 hg w9 hbox hb; have BK313 := As (hbox); have GW313 := As ((gz hg (be HB.out) : w.heap.size ≤ gb313)); have GE313 := As ((gz hg (be HB.out) : w.heap.size ≤ gb313)); replace HB := As (XT (be HB.out) hb); clear hb hbox hg))
     replace BK313 := As (YD BK313.out);replace HB := As (XD HB.out);refine start_ (n := 14) (S := fun w' => w'.cell? ⟨gb313, 0, none⟩ = some (.int .i64 a0_0) ∧ w'.cell? ⟨gb313, 1, none⟩ = some (.int .i64 a0_1) ∧ w'.cell? ⟨gb313, 2, none⟩ = some (.int .i64 a0_2)) (ds := []) (fl 0 14) kr rfl rfl (cy3 BK313.out) (fun hHeld => ?_); refine with_tabW r6_date.tab1 r6_date.bits1 (fun HT_ HW_ => ?_);generalize w9.drew = w10 at BK313 HB hHeld ⊢;refine pure_ (i := 0) (N := some 3) (v := ?_) (a' := ?_) (fl 1 13) rfl rfl (any_of HT_.out kr) (fun _ _ _ h => h) (Or.inl ⟨by rfl, ?_⟩) ?_ ?_;rotate_left
     ·intro w';go_simp
      first | (with_reducible rfl) | (rw [if_neg (Nat.not_lt.mpr (by have z := c3; simp only [ByteArray.size_append] at z; exact z))]) | (rw [if_neg (Nat.not_lt.mpr (by have z := c5; simp only [ByteArray.size_append] at z; exact z))]) | (rw [if_neg (Nat.not_lt.mpr (by have z := c6; simp only [ByteArray.size_append] at z; exact z))]) | (rw [if_neg (Nat.not_lt.mpr (by have z := c8; simp only [ByteArray.size_append] at z; exact z))])
     rotate_left
     ·simp only [Act.put, z0,z1,z2,i64_w,i32_w];rfl
     refine pure_ (i := 4) (N := some 7) (v := ?_) (a' := ?_) #[Y,O,O,O,Y,O,O,O,O,O,O,O,O,O] rfl rfl (any_of HT_.out kr) (fun _ _ _ h => h) (Or.inl ⟨by rfl, ?_⟩) ?_ ?_;rotate_left
     ·intro w';go_simp
      first | (with_reducible rfl) | (rw [if_neg (Nat.not_lt.mpr (by have z := c3; simp only [ByteArray.size_append] at z; exact z))]) | (rw [if_neg (Nat.not_lt.mpr (by have z := c5; simp only [ByteArray.size_append] at z; exact z))]) | (rw [if_neg (Nat.not_lt.mpr (by have z := c6; simp only [ByteArray.size_append] at z; exact z))]) | (rw [if_neg (Nat.not_lt.mpr (by have z := c8; simp only [ByteArray.size_append] at z; exact z))])
     rotate_left
     ·simp only [Act.put, z0,z1,z2,i64_w,i32_w];rfl
     refine pure_ (i := 9) (N := some 12) (v := ?_) (a' := ?_) #[Y,O,O,O,Y,O,O,O,O,Y,O,O,O,O] rfl rfl (any_of HT_.out kr) (fun _ _ _ h => h) (Or.inl ⟨by rfl, ?_⟩) ?_ ?_;rotate_left
     ·intro w';go_simp
      first | (with_reducible rfl) | (rw [if_neg (Nat.not_lt.mpr (by have z := c3; simp only [ByteArray.size_append] at z; exact z))]) | (rw [if_neg (Nat.not_lt.mpr (by have z := c5; simp only [ByteArray.size_append] at z; exact z))]) | (rw [if_neg (Nat.not_lt.mpr (by have z := c6; simp only [ByteArray.size_append] at z; exact z))]) | (rw [if_neg (Nat.not_lt.mpr (by have z := c8; simp only [ByteArray.size_append] at z; exact z))])
     rotate_left
     ·simp only [Act.put, z0,z1,z2,i64_w,i32_w];rfl
     refine take_ (i := 1) (N := some 4) (v := ?_) (a' := ?_) #[Y,Y,O,O,Y,O,O,O,O,Y,O,O,O,O] rfl rfl (take_ofW HT_.out HW_.out kr) (fun _ _ _ h => h) (Or.inl ⟨by rfl, ?_⟩) hHeld ?_ ?_;rotate_left
     ·rintro w' ⟨s0, s1, s2⟩;go_simp
      first | (with_reducible rfl) | (rw [if_neg (Nat.not_lt.mpr (by have z := c3; simp only [ByteArray.size_append] at z; exact z))]) | (rw [if_neg (Nat.not_lt.mpr (by have z := c5; simp only [ByteArray.size_append] at z; exact z))]) | (rw [if_neg (Nat.not_lt.mpr (by have z := c6; simp only [ByteArray.size_append] at z; exact z))]) | (rw [if_neg (Nat.not_lt.mpr (by have z := c8; simp only [ByteArray.size_append] at z; exact z))])
     rotate_left
     ·simp only [Act.put, z0,z1,z2,i64_w,i32_w];rfl
     refine take_ (i := 5) (N := some 8) (v := ?_) (a' := ?_) #[Y,Y,O,O,Y,Y,O,O,O,Y,O,O,O,O] rfl rfl (take_ofW HT_.out HW_.out kr) (fun _ _ _ h => h) (Or.inl ⟨by rfl, ?_⟩) hHeld ?_ ?_;rotate_left
     ·rintro w' ⟨s0, s1, s2⟩;go_simp
      first | (with_reducible rfl) | (rw [if_neg (Nat.not_lt.mpr (by have z := c3; simp only [ByteArray.size_append] at z; exact z))]) | (rw [if_neg (Nat.not_lt.mpr (by have z := c5; simp only [ByteArray.size_append] at z; exact z))]) | (rw [if_neg (Nat.not_lt.mpr (by have z := c6; simp only [ByteArray.size_append] at z; exact z))]) | (rw [if_neg (Nat.not_lt.mpr (by have z := c8; simp only [ByteArray.size_append] at z; exact z))])
     rotate_left
     ·simp only [Act.put, z0,z1,z2,i64_w,i32_w];rfl
     refine take_ (i := 10) (N := some 13) (v := ?_) (a' := ?_) #[Y,Y,O,O,Y,Y,O,O,O,Y,Y,O,O,O] rfl rfl (take_ofW HT_.out HW_.out kr) (fun _ _ _ h => h) (Or.inl ⟨by rfl, ?_⟩) hHeld ?_ ?_;rotate_left
     ·rintro w' ⟨s0, s1, s2⟩;go_simp
      first | (with_reducible rfl) | (rw [if_neg (Nat.not_lt.mpr (by have z := c3; simp only [ByteArray.size_append] at z; exact z))]) | (rw [if_neg (Nat.not_lt.mpr (by have z := c5; simp only [ByteArray.size_append] at z; exact z))]) | (rw [if_neg (Nat.not_lt.mpr (by have z := c6; simp only [ByteArray.size_append] at z; exact z))]) | (rw [if_neg (Nat.not_lt.mpr (by have z := c8; simp only [ByteArray.size_append] at z; exact z))])
     rotate_left
     ·simp only [Act.put, z0,z1,z2,i64_w,i32_w];rfl
     refine one_ (i := 2) (N := some 5) #[Y,Y,Y,O,Y,Y,O,O,O,Y,Y,O,O,O] rfl rfl (one_of HT_.out kr) (by decide) (fun K hK => ?_);refine goes_ Tryz.func37 kr rfl #[.int .i64 a0_0] (by rfl) rfl rfl sa ?_
     with_reducible refine (r6_digits.calls k a0_0 _ _ A2.out).mono ?_
     rintro e w11 ⟨rfl, hb⟩;refine ⟨_, rfl, ?_⟩;replace BK313 := As (YB (g := gb313) (o := .cells #[.int .i64 a0_0, .int .i64 a0_1, .int .i64 a0_2] 23 (0, 0)) (bk BK313.out) hb);replace HB := As (XT (be HB.out) hb)
     (try clear hb)
     (try clear hb2)
     (try clear hk)
     (try clear hi)
     refine hK.out _ _ (cy3 BK313.out) (fun hHeld => ?_);clear hK K;refine norm_ (a' := ?_) ?_ ?_;rotate_left
     ·show Act.put _ (some 5) _ = _
      simp only [Act.put, z0,z1,z2,i64_w,i32_w];rfl
     refine pure_ (i := 3) (N := some 6) (v := ?_) (a' := ?_) #[Y,Y,Y,Y,Y,Y,O,O,O,Y,Y,O,O,O] rfl rfl (any_of HT_.out kr) (fun _ _ _ h => h) (Or.inl ⟨by rfl, ?_⟩) ?_ ?_;rotate_left
     ·intro w';go_simp
      first | (with_reducible rfl) | (rw [if_neg (Nat.not_lt.mpr (by have z := c3; simp only [ByteArray.size_append] at z; exact z))]) | (rw [if_neg (Nat.not_lt.mpr (by have z := c5; simp only [ByteArray.size_append] at z; exact z))]) | (rw [if_neg (Nat.not_lt.mpr (by have z := c6; simp only [ByteArray.size_append] at z; exact z))]) | (rw [if_neg (Nat.not_lt.mpr (by have z := c8; simp only [ByteArray.size_append] at z; exact z))])
     rotate_left
     ·simp only [Act.put, z0,z1,z2,i64_w,i32_w];rfl
     refine one_ (i := 6) (N := some 9) #[Y,Y,Y,Y,Y,Y,Y,O,O,Y,Y,O,O,O] rfl rfl (one_of HT_.out kr) (by decide) (fun K hK => ?_);refine goes_ Tryz.func37 kr rfl #[.int .i64 a0_1] (by rfl) rfl rfl sa ?_
     with_reducible refine (r6_digits.calls k a0_1 _ _ A4.out).mono ?_
     rintro e w12 ⟨rfl, hb⟩;refine ⟨_, rfl, ?_⟩;replace BK313 := As (YB (g := gb313) (o := .cells #[.int .i64 a0_0, .int .i64 a0_1, .int .i64 a0_2] 23 (0, 0)) (bk BK313.out) hb);replace HB := As (XT (be HB.out) hb)
     (try clear hb)
     (try clear hb2)
     (try clear hk)
     (try clear hi)
     refine hK.out _ _ (cy3 BK313.out) (fun hHeld => ?_);clear hK K;refine norm_ (a' := ?_) ?_ ?_;rotate_left
     ·show Act.put _ (some 9) _ = _
      simp only [Act.put, z0,z1,z2,i64_w,i32_w];rfl
     refine pure_ (i := 7) (N := some 10) (v := ?_) (a' := ?_) #[Y,Y,Y,Y,Y,Y,Y,Y,O,Y,Y,O,O,O] rfl rfl (any_of HT_.out kr) (fun _ _ _ h => h) (Or.inl ⟨by rfl, ?_⟩) ?_ ?_;rotate_left
     ·intro w';go_simp
      first | (with_reducible rfl) | (rw [if_neg (Nat.not_lt.mpr (by have z := c3; simp only [ByteArray.size_append] at z; exact z))]) | (rw [if_neg (Nat.not_lt.mpr (by have z := c5; simp only [ByteArray.size_append] at z; exact z))]) | (rw [if_neg (Nat.not_lt.mpr (by have z := c6; simp only [ByteArray.size_append] at z; exact z))]) | (rw [if_neg (Nat.not_lt.mpr (by have z := c8; simp only [ByteArray.size_append] at z; exact z))])
     rotate_left
     ·simp only [Act.put, z0,z1,z2,i64_w,i32_w];rfl
     refine pure_ (i := 8) (N := some 11) (v := ?_) (a' := ?_) (fl 11 3) rfl rfl (any_of HT_.out kr) (fun _ _ _ h => h) (Or.inl ⟨by rfl, ?_⟩) ?_ ?_;rotate_left
     ·intro w';go_simp
      first | (with_reducible rfl) | (rw [if_neg (Nat.not_lt.mpr (by have z := c3; simp only [ByteArray.size_append] at z; exact z))]) | (rw [if_neg (Nat.not_lt.mpr (by have z := c5; simp only [ByteArray.size_append] at z; exact z))]) | (rw [if_neg (Nat.not_lt.mpr (by have z := c6; simp only [ByteArray.size_append] at z; exact z))]) | (rw [if_neg (Nat.not_lt.mpr (by have z := c8; simp only [ByteArray.size_append] at z; exact z))])
     rotate_left
     ·simp only [Act.put, z0,z1,z2,i64_w,i32_w];rfl
     refine one_ (i := 11) (N := some 14) (fl 12 2) rfl rfl (one_of HT_.out kr) (by decide) (fun K hK => ?_);refine goes_ Tryz.func37 kr rfl #[.int .i64 a0_2] (by rfl) rfl rfl sa ?_
     with_reducible refine (r6_digits.calls k a0_2 _ _ A7.out).mono ?_
     rintro e w13 ⟨rfl, hb⟩;refine ⟨_, rfl, ?_⟩;replace BK313 := As (YB (g := gb313) (o := .cells #[.int .i64 a0_0, .int .i64 a0_1, .int .i64 a0_2] 23 (0, 0)) (bk BK313.out) hb);replace HB := As (XT (be HB.out) hb)
     (try clear hb)
     (try clear hb2)
     (try clear hk)
     (try clear hi)
     refine hK.out _ _ (cy3 BK313.out) (fun hHeld => ?_);clear hK K;refine norm_ (a' := ?_) ?_ ?_;rotate_left
     ·show Act.put _ (some 14) _ = _
      simp only [Act.put, z0,z1,z2,i64_w,i32_w];rfl
     refine pure_ (i := 12) (N := some 15) (v := ?_) (a' := ?_) (fl 13 1) rfl rfl (any_of HT_.out kr) (fun _ _ _ h => h) (Or.inl ⟨by rfl, ?_⟩) ?_ ?_;rotate_left
     ·intro w';go_simp
      first | (with_reducible rfl) | (rw [if_neg (Nat.not_lt.mpr (by have z := c3; simp only [ByteArray.size_append] at z; exact z))]) | (rw [if_neg (Nat.not_lt.mpr (by have z := c5; simp only [ByteArray.size_append] at z; exact z))]) | (rw [if_neg (Nat.not_lt.mpr (by have z := c6; simp only [ByteArray.size_append] at z; exact z))]) | (rw [if_neg (Nat.not_lt.mpr (by have z := c8; simp only [ByteArray.size_append] at z; exact z))])
     rotate_left
     ·simp only [Act.put, z0,z1,z2,i64_w,i32_w];rfl
     refine pure_ (i := 13) (N := some 2) (v := ?_) (a' := ?_) (fl 14 0) rfl rfl (any_of HT_.out kr) (fun _ _ _ h => h) (Or.inl ⟨by rfl, ?_⟩) ?_ ?_;rotate_left
     ·intro w';go_simp
      first | (with_reducible rfl) | (rw [if_neg (Nat.not_lt.mpr (by have z := c3; simp only [ByteArray.size_append] at z; exact z))]) | (rw [if_neg (Nat.not_lt.mpr (by have z := c5; simp only [ByteArray.size_append] at z; exact z))]) | (rw [if_neg (Nat.not_lt.mpr (by have z := c6; simp only [ByteArray.size_append] at z; exact z))]) | (rw [if_neg (Nat.not_lt.mpr (by have z := c8; simp only [ByteArray.size_append] at z; exact z))])
     rotate_left
     ·simp only [Act.put, z0,z1,z2,i64_w,i32_w];rfl
     refine done_ (done_of HT_.out kr) ?_
     try go_wp2
     go_ret
     exact ⟨by first | rfl | (simp [errW_none, errW_some] <;> rfl) | (simp [*, errW_none, errW_some] <;> rfl), by repeat (first | (with_reducible first | exact HB.out | apply XA | apply XN | apply XD | refine XS ?_ GE313.out) | exact HB.out)⟩
    ·rw [if_neg c8] at H;exact absurd H (by simp)
   ·rw [if_neg c6] at H;exact absurd H (by simp)
  ·rw [if_neg c5] at H;exact absurd H (by simp)
 ·rw [if_neg c3] at H;exact absurd H (by simp)

end Go.Proofs.YtpagbmkdphdjoaaGreatDoor.P
-- SHRUNK
-- PACKED
-- PACKED2
