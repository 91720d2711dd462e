-- written by myprint.py (this claim's own program, after the kit's print)
import Derived.Test.YtahjnjlkpbjfnaaGreatDoorPx0
namespace Go.Proofs.YtahjnjlkpbjfnaaGreatDoor.P
open Go.RowKit Go.Proofs.YtahjnjlkpbjfnaaGreatDoorW.PrintWords Go.Proofs.YtahjnjlkpbjfnaaGreatDoorW.PrintLast Go.Proofs.YtahjnjlkpbjfnaaGreatDoorW.PrintMore
attribute [local go_sem] max2_int min2_int max_two min_two max_three min_three max_four min_four   -- for this text's walks alone
set_option linter.unusedVariables false
set_option linter.unusedSimpArgs false

/-! ### belvedereref10_Int: function 12 -/
mutual
def belvedereref10_Int.j0 : Nat → ByteArray → Int → Int → Bool → ByteArray → Option (Int × Int)
  | 0, _, _, _, _, _ => none
  | k + 1, x0, x1, x2, x8, x9 => if x9.toList = ([] : List UInt8) then (belvedereref10_Int.j1 k x1 x2 x8 x9 true) else (if (x0.size : Int) > 19 then (belvedereref10_Int.j1 k x1 x2 x8 x9 true) else (if 0 < (x9.size : Int) then (if (bt x9 0) = 48 then (if (x9.size : Int) > 1 then (belvedereref10_Int.j1 k x1 x2 x8 x9 true) else (belvedereref10_Int.j1 k x1 x2 x8 x9 x8)) else (belvedereref10_Int.j1 k x1 x2 x8 x9 false)) else (none)))
def belvedereref10_Int.j1 : Nat → Int → Int → Bool → ByteArray → Bool → Option (Int × Int)
  | 0, _, _, _, _, _ => none
  | k + 1, x1, x2, x8, x9, x42 => if x42 = true then (some (0, 3)) else (belvedereref10_Int.l0 k x1 x2 x8 x9 0)
def belvedereref10_Int.l0 : Nat → Int → Int → Bool → ByteArray → Int → Option (Int × Int)
  | 0, _, _, _, _, _ => none
  | k + 1, x1, x2, x8, x9, x10 => if x10 < (x9.size : Int) then (if 0 ≤ x10 then (if (bt x9 x10) < 48 then (some (0, 3)) else (if (bt x9 x10) > 57 then (some (0, 3)) else (belvedereref10_Int.l0 k x1 x2 x8 x9 (wrap64 (x10 + 1))))) else (none)) else (belvedereref10_Int.l1 k x1 x2 x8 x9 0 0)
def belvedereref10_Int.l1 : Nat → Int → Int → Bool → ByteArray → Int → Int → Option (Int × Int)
  | 0, _, _, _, _, _, _ => none
  | k + 1, x1, x2, x8, x9, x11, x12 => if x12 < (x9.size : Int) then (if 0 ≤ x12 then (belvedereref10_Int.l1 k x1 x2 x8 x9 (IntKind.u64.wrap ((IntKind.u64.wrap (10 * x11)) + (((bt x9 x12) - 48) % 256))) (wrap64 (x12 + 1))) else (none)) else (if x11 > 9223372036854775807 then (some (0, 5)) else (if x8 = true then (if (wrap64 (-(wrap64 (x11)))) < x1 then (some (0, 5)) else (if (wrap64 (-(wrap64 (x11)))) > x2 then (some (0, 5)) else (some (wrap64 (-(wrap64 (x11))), 0)))) else (if (wrap64 (x11)) < x1 then (some (0, 5)) else (if (wrap64 (x11)) > x2 then (some (0, 5)) else (some (wrap64 (x11), 0))))))
end
def belvedereref10_Int.f (k : Nat) (a0 : ByteArray) (a1 : Int) (a2 : Int) : Option (Int × Int) := if a0.toList = ([] : List UInt8) then (some (0, 13)) else (if 0 < (a0.size : Int) then (if (bt a0 0) = 45 then (if 1 ≤ (a0.size : Int) then (belvedereref10_Int.j0 k a0 a1 a2 ((bt a0 0) == 45) (a0.extract 1 a0.size)) else (none)) else (belvedereref10_Int.j0 k a0 a1 a2 ((bt a0 0) == 45) a0)) else (none))
theorem belvedereref10_Int.mono_l : ∀ k, (∀ y0 y1 y2 y3 y4, LeO (belvedereref10_Int.j0 k y0 y1 y2 y3 y4) (belvedereref10_Int.j0 (k + 1) y0 y1 y2 y3 y4)) ∧ (∀ y0 y1 y2 y3 y4, LeO (belvedereref10_Int.j1 k y0 y1 y2 y3 y4) (belvedereref10_Int.j1 (k + 1) y0 y1 y2 y3 y4)) ∧ (∀ y0 y1 y2 y3 y4, LeO (belvedereref10_Int.l0 k y0 y1 y2 y3 y4) (belvedereref10_Int.l0 (k + 1) y0 y1 y2 y3 y4)) ∧ (∀ y0 y1 y2 y3 y4 y5, LeO (belvedereref10_Int.l1 k y0 y1 y2 y3 y4 y5) (belvedereref10_Int.l1 (k + 1) y0 y1 y2 y3 y4 y5))
  | 0 => ⟨fun _ _ _ _ _ r h => by simp [belvedereref10_Int.j0] at h, fun _ _ _ _ _ r h => by simp [belvedereref10_Int.j1] at h, fun _ _ _ _ _ r h => by simp [belvedereref10_Int.l0] at h, fun _ _ _ _ _ _ r h => by simp [belvedereref10_Int.l1] at h⟩
  | k + 1 => by
    obtain ⟨ih0, ih1, ih2, ih3⟩ := belvedereref10_Int.mono_l k
    refine ⟨?_, ?_, ?_, ?_⟩
    · intro y0 y1 y2 y3 y4
      unfold belvedereref10_Int.j0
      repeat' first
      | (with_reducible exact ih0 _ _ _ _ _)
      | (with_reducible exact ih1 _ _ _ _ _)
      | (with_reducible exact ih2 _ _ _ _ _)
      | (with_reducible exact ih3 _ _ _ _ _ _)
      | (with_reducible exact LeO.refl _)
      | (with_reducible exact LeO.none _)
      | (with_reducible refine LeO.ite ?_ ?_)
      | (with_reducible refine LeO.bind ?_ (fun _ => ?_))
      | exact ih0 _ _ _ _ _
      | exact ih1 _ _ _ _ _
      | exact ih2 _ _ _ _ _
      | exact ih3 _ _ _ _ _ _
      | exact LeO.none _
      | refine LeO.ite ?_ ?_
      | refine LeO.bind ?_ (fun _ => ?_)
    · intro y0 y1 y2 y3 y4
      unfold belvedereref10_Int.j1
      repeat' first
      | (with_reducible exact ih0 _ _ _ _ _)
      | (with_reducible exact ih1 _ _ _ _ _)
      | (with_reducible exact ih2 _ _ _ _ _)
      | (with_reducible exact ih3 _ _ _ _ _ _)
      | (with_reducible exact LeO.refl _)
      | (with_reducible exact LeO.none _)
      | (with_reducible refine LeO.ite ?_ ?_)
      | (with_reducible refine LeO.bind ?_ (fun _ => ?_))
      | exact ih0 _ _ _ _ _
      | exact ih1 _ _ _ _ _
      | exact ih2 _ _ _ _ _
      | exact ih3 _ _ _ _ _ _
      | exact LeO.none _
      | refine LeO.ite ?_ ?_
      | refine LeO.bind ?_ (fun _ => ?_)
    · intro y0 y1 y2 y3 y4
      unfold belvedereref10_Int.l0
      repeat' first
      | (with_reducible exact ih0 _ _ _ _ _)
      | (with_reducible exact ih1 _ _ _ _ _)
      | (with_reducible exact ih2 _ _ _ _ _)
      | (with_reducible exact ih3 _ _ _ _ _ _)
      | (with_reducible exact LeO.refl _)
      | (with_reducible exact LeO.none _)
      | (with_reducible refine LeO.ite ?_ ?_)
      | (with_reducible refine LeO.bind ?_ (fun _ => ?_))
      | exact ih0 _ _ _ _ _
      | exact ih1 _ _ _ _ _
      | exact ih2 _ _ _ _ _
      | exact ih3 _ _ _ _ _ _
      | exact LeO.none _
      | refine LeO.ite ?_ ?_
      | refine LeO.bind ?_ (fun _ => ?_)
    · intro y0 y1 y2 y3 y4 y5
      unfold belvedereref10_Int.l1
      repeat' first
      | (with_reducible exact ih0 _ _ _ _ _)
      | (with_reducible exact ih1 _ _ _ _ _)
      | (with_reducible exact ih2 _ _ _ _ _)
      | (with_reducible exact ih3 _ _ _ _ _ _)
      | (with_reducible exact LeO.refl _)
      | (with_reducible exact LeO.none _)
      | (with_reducible refine LeO.ite ?_ ?_)
      | (with_reducible refine LeO.bind ?_ (fun _ => ?_))
      | exact ih0 _ _ _ _ _
      | exact ih1 _ _ _ _ _
      | exact ih2 _ _ _ _ _
      | exact ih3 _ _ _ _ _ _
      | exact LeO.none _
      | refine LeO.ite ?_ ?_
      | refine LeO.bind ?_ (fun _ => ?_)
theorem belvedereref10_Int.mono : ∀ a0 a1 a2 k, LeO (belvedereref10_Int.f k a0 a1 a2) (belvedereref10_Int.f (k + 1) a0 a1 a2) := by
  intro a0 a1 a2 k
  obtain ⟨ih0, ih1, ih2, ih3⟩ := belvedereref10_Int.mono_l k
  unfold belvedereref10_Int.f
  repeat' first
      | (with_reducible exact ih0 _ _ _ _ _)
      | (with_reducible exact ih1 _ _ _ _ _)
      | (with_reducible exact ih2 _ _ _ _ _)
      | (with_reducible exact ih3 _ _ _ _ _ _)
      | (with_reducible exact LeO.refl _)
      | (with_reducible exact LeO.none _)
      | (with_reducible refine LeO.ite ?_ ?_)
      | (with_reducible refine LeO.bind ?_ (fun _ => ?_))
      | exact ih0 _ _ _ _ _
      | exact ih1 _ _ _ _ _
      | exact ih2 _ _ _ _ _
      | exact ih3 _ _ _ _ _ _
      | exact LeO.none _
      | refine LeO.ite ?_ ?_
      | refine LeO.bind ?_ (fun _ => ?_)
set_option maxHeartbeats 8000000 in
set_option maxRecDepth 100000 in
theorem belvedereref10_Int.calls (k : Nat) (a0 : ByteArray) (a1 : Int) (a2 : Int) (r1 : Int) (r2 : Int) (w : World) (h : belvedereref10_Int.f k a0 a1 a2 = some (r1, r2)) :
    Calls Tryz.prog 12 #[.string a0, .int .i64 a1, .int .i64 a2] w fun e w' => e = .returned (.tuple #[.int .i64 r1, .int .i64 r2]) ∧ Drawn0 w w' := by
  have H : (if a0.toList = ([] : List UInt8) then (some (0, 13)) else (if 0 < (a0.size : Int) then (if (bt a0 0) = 45 then (if 1 ≤ (a0.size : Int) then (belvedereref10_Int.j0 k a0 a1 a2 ((bt a0 0) == 45) (a0.extract 1 a0.size)) else (none)) else (belvedereref10_Int.j0 k a0 a1 a2 ((bt a0 0) == 45) a0)) else (none))) = some (r1, r2) := h
  clear h
  by_cases c4 : a0.toList = ([] : List UInt8)
  · rw [if_pos c4] at H
    have c4b0 : (a0.toList == ([] : List UInt8)) = true := beq_iff_eq.mpr c4
    have c4b1 : (a0.toList != ([] : List UInt8)) = false := bne_eq_false_iff_eq.mpr c4
    clear c4
    simp only [Option.some.injEq, Prod.mk.injEq] at H
    obtain ⟨rfl, rfl⟩ := H
    go_enter Tryz.func12, Tryz.ntmps12
    go_wp2
    go_ret2
    exact ⟨by first | rfl | (simp; done) | (simp [*]; done) | (simp; unfold wrap64; omega), by repeat (first | exact Drawn0.refl _ | apply Drawn0.step)⟩
  · rw [if_neg c4] at H
    have c4b0 : (a0.toList == ([] : List UInt8)) = false := beq_eq_false_iff_ne.mpr c4
    have c4b1 : (a0.toList != ([] : List UInt8)) = true := bne_iff_ne.mpr c4
    by_cases c5 : 0 < (a0.size : Int)
    · rw [if_pos c5] at H
      have c5b0 : decide (0 < (a0.size : Int)) = true := decide_eq_true c5
      have c5b1 : decide (0 < a0.size) = true := decide_eq_true (by omega)
      clear c5
      have HC7 := Aside0.mk H
      clear H
      have p6 : 0 ≤ (0 : Int) := (by omega)
      have q6 : 0 < a0.size := (by have : (0 : Int) < (a0.size : Int) := of_decide_eq_true (by first | (with_reducible assumption) | assumption); omega)
      have hx6 : ∀ h : 0 < a0.size, ((a0[0]'h).toNat : Int) = bt a0 0 := bt_at a0 0
      clear p6
      have qi6 : (0 < (a0.size : Int)) = True := eq_true (of_decide_eq_true (by first | (with_reducible assumption) | assumption))
      replace q6 := eq_true q6
      obtain ⟨mb, hm⟩ : ∃ mb, ((bt a0 0) == 45) = mb := ⟨_, rfl⟩
      rw [hm] at HC7
      go_enter Tryz.func12, Tryz.ntmps12
      go_upto_if 20 with (fail)
      go_cut [9] (fun v9 wc => ∃ (kq : Nat) (x9_6 : ByteArray), v9 = .string x9_6 ∧ Aside0 (belvedereref10_Int.j0 kq a0 a1 a2 mb x9_6 = some (r1, r2)) ∧ Aside0 (kq ≤ k) ∧ Drawn0 w wc)
      case first =>
        have H := HC7.out
        clear HC7
        by_cases c8 : (bt a0 0) = 45
        · rw [if_pos c8] at H
          have c8b0 : mb = true := hm.symm.trans (beq_iff_eq.mpr c8)
          subst c8b0
          have c8b1 : ((bt a0 0) != 45) = false := bne_eq_false_iff_eq.mpr c8
          clear c8
          (first | rw [hm] | (simp only [i64_w, i32_w]; rw [hm]) | skip)
          by_cases c9 : 1 ≤ (a0.size : Int)
          · rw [if_pos c9] at H
            have c9b0 := eq_true c9
            have c9b1 : decide (1 ≤ (a0.size : Int)) = true := decide_eq_true c9
            clear c9
            have H' := Aside0.mk H
            clear H
            go_wp2
            go_meet
            case rel => exact ⟨_, (a0.extract 1 a0.size), (by first | rfl | (simp; done) | (simp [*]; done) | (simp; unfold wrap64; omega)), H', ⟨by first | omega | exact Nat.le_refl _⟩, by repeat (first | exact Drawn0.refl _ | apply Drawn0.step)⟩
          · rw [if_neg c9] at H
            exact absurd H (by simp)
        · rw [if_neg c8] at H
          have c8b0 : mb = false := hm.symm.trans (beq_eq_false_iff_ne.mpr c8)
          subst c8b0
          have c8b1 : ((bt a0 0) != 45) = true := bne_iff_ne.mpr c8
          (first | rw [hm] | (simp only [i64_w, i32_w]; rw [hm]) | skip)
          have H' := Aside0.mk H
          clear H
          go_wp2
          go_meet
          case rel => exact ⟨_, (a0), (by first | rfl | (simp; done) | (simp [*]; done) | (simp; unfold wrap64; omega)), H', ⟨by first | omega | exact Nat.le_refl _⟩, by repeat (first | exact Drawn0.refl _ | apply Drawn0.step)⟩
      case rest =>
        clear HC7
        try clear c1
        try clear p2
        try clear c4
        try clear c4b0
        try clear c4b1
        try clear c5
        try clear c5b0
        try clear c5b1
        try clear p6
        try clear q6
        try clear hx6
        try clear qi6
        try clear c8
        try clear c8b0
        try clear c8b1
        try clear c9
        try clear c9b0
        try clear c9b1
        try clear p6
        try clear q6
        obtain ⟨kq, x9_6, rfl, HA, HJ6, ⟨mc6, rfl⟩⟩ := hcut
        cases kq with
        | zero => exact absurd HA.out (by simp [belvedereref10_Int.j0])
        | succ kj6 =>
          have H := HA.out
          clear HA
          simp only [belvedereref10_Int.j0] at H
          have HC10 := Aside0.mk H
          clear H
          go_upto_region 7 with (fail)
          go_cut [42] (fun v42 wc => ∃ (kq : Nat) (x42_9 : Bool), v42 = .bool x42_9 ∧ Aside0 (belvedereref10_Int.j1 kq a1 a2 mb x9_6 x42_9 = some (r1, r2)) ∧ Aside0 (kq ≤ kj6) ∧ Drawn0 w wc)
          case first =>
            have H := HC10.out
            clear HC10
            by_cases c11 : x9_6.toList = ([] : List UInt8)
            · rw [if_pos c11] at H
              have c11b0 : (x9_6.toList == ([] : List UInt8)) = true := beq_iff_eq.mpr c11
              have c11b1 : (x9_6.toList != ([] : List UInt8)) = false := bne_eq_false_iff_eq.mpr c11
              clear c11
              (first | rw [c11b0] | (simp only [i64_w, i32_w]; rw [c11b0]) | skip)
              have H' := Aside0.mk H
              clear H
              go_wp2
              go_meet
              case rel => exact ⟨_, (true), (by first | rfl | (simp; done) | (simp [*]; done) | (simp; unfold wrap64; omega)), H', ⟨by have := HJ6.out; first | omega | exact Nat.le_refl _⟩, by repeat (first | exact Drawn0.refl _ | apply Drawn0.step)⟩
            · rw [if_neg c11] at H
              have c11b0 : (x9_6.toList == ([] : List UInt8)) = false := beq_eq_false_iff_ne.mpr c11
              have c11b1 : (x9_6.toList != ([] : List UInt8)) = true := bne_iff_ne.mpr c11
              (first | rw [c11b0] | (simp only [i64_w, i32_w]; rw [c11b0]) | skip)
              by_cases c12 : (a0.size : Int) > 19
              · rw [if_pos c12] at H
                have c12b0 : decide (19 < (a0.size : Int)) = true := decide_eq_true c12
                have c12b1 : decide (19 < a0.size) = true := decide_eq_true (by omega)
                clear c12
                have H' := Aside0.mk H
                clear H
                go_wp2
                go_meet
                case rel => exact ⟨_, (true), (by first | rfl | (simp; done) | (simp [*]; done) | (simp; unfold wrap64; omega)), H', ⟨by have := HJ6.out; first | omega | exact Nat.le_refl _⟩, by repeat (first | exact Drawn0.refl _ | apply Drawn0.step)⟩
              · rw [if_neg c12] at H
                have c12b0 : decide (19 < (a0.size : Int)) = false := decide_eq_false c12
                have c12b1 : decide (19 < a0.size) = false := decide_eq_false (by omega)
                clear c12
                by_cases c13 : 0 < (x9_6.size : Int)
                · rw [if_pos c13] at H
                  have c13b0 : decide (0 < (x9_6.size : Int)) = true := decide_eq_true c13
                  have c13b1 : decide (0 < x9_6.size) = true := decide_eq_true (by omega)
                  clear c13
                  by_cases c15 : (bt x9_6 0) = 48
                  · rw [if_pos c15] at H
                    have c15b0 : ((bt x9_6 0) == 48) = true := beq_iff_eq.mpr c15
                    have c15b1 : ((bt x9_6 0) != 48) = false := bne_eq_false_iff_eq.mpr c15
                    clear c15
                    by_cases c16 : (x9_6.size : Int) > 1
                    · rw [if_pos c16] at H
                      have c16b0 : decide (1 < (x9_6.size : Int)) = true := decide_eq_true c16
                      have c16b1 : decide (1 < x9_6.size) = true := decide_eq_true (by omega)
                      clear c16
                      have H' := Aside0.mk H
                      clear H
                      have p14 : 0 ≤ (0 : Int) := (by omega)
                      have q14 : 0 < x9_6.size := (by have : (0 : Int) < (x9_6.size : Int) := of_decide_eq_true (by first | (with_reducible assumption) | assumption); omega)
                      have hx14 : ∀ h : 0 < x9_6.size, ((x9_6[0]'h).toNat : Int) = bt x9_6 0 := bt_at x9_6 0
                      clear p14
                      have qi14 : (0 < (x9_6.size : Int)) = True := eq_true (of_decide_eq_true (by first | (with_reducible assumption) | assumption))
                      replace q14 := eq_true q14
                      go_wp2
                      go_meet
                      case rel => exact ⟨_, (true), (by first | rfl | (simp; done) | (simp [*]; done) | (simp; unfold wrap64; omega)), H', ⟨by have := HJ6.out; first | omega | exact Nat.le_refl _⟩, by repeat (first | exact Drawn0.refl _ | apply Drawn0.step)⟩
                    · rw [if_neg c16] at H
                      have c16b0 : decide (1 < (x9_6.size : Int)) = false := decide_eq_false c16
                      have c16b1 : decide (1 < x9_6.size) = false := decide_eq_false (by omega)
                      clear c16
                      have H' := Aside0.mk H
                      clear H
                      have p14 : 0 ≤ (0 : Int) := (by omega)
                      have q14 : 0 < x9_6.size := (by have : (0 : Int) < (x9_6.size : Int) := of_decide_eq_true (by first | (with_reducible assumption) | assumption); omega)
                      have hx14 : ∀ h : 0 < x9_6.size, ((x9_6[0]'h).toNat : Int) = bt x9_6 0 := bt_at x9_6 0
                      clear p14
                      have qi14 : (0 < (x9_6.size : Int)) = True := eq_true (of_decide_eq_true (by first | (with_reducible assumption) | assumption))
                      replace q14 := eq_true q14
                      go_wp2
                      go_meet
                      case rel => exact ⟨_, (mb), (by first | rfl | (simp; done) | (simp [*]; done) | (simp; unfold wrap64; omega)), H', ⟨by have := HJ6.out; first | omega | exact Nat.le_refl _⟩, by repeat (first | exact Drawn0.refl _ | apply Drawn0.step)⟩
                  · rw [if_neg c15] at H
                    have c15b0 : ((bt x9_6 0) == 48) = false := beq_eq_false_iff_ne.mpr c15
                    have c15b1 : ((bt x9_6 0) != 48) = true := bne_iff_ne.mpr c15
                    have H' := Aside0.mk H
                    clear H
                    have p14 : 0 ≤ (0 : Int) := (by omega)
                    have q14 : 0 < x9_6.size := (by have : (0 : Int) < (x9_6.size : Int) := of_decide_eq_true (by first | (with_reducible assumption) | assumption); omega)
                    have hx14 : ∀ h : 0 < x9_6.size, ((x9_6[0]'h).toNat : Int) = bt x9_6 0 := bt_at x9_6 0
                    clear p14
                    have qi14 : (0 < (x9_6.size : Int)) = True := eq_true (of_decide_eq_true (by first | (with_reducible assumption) | assumption))
                    replace q14 := eq_true q14
                    go_wp2
                    go_meet
                    case rel => exact ⟨_, (false), (by first | rfl | (simp; done) | (simp [*]; done) | (simp; unfold wrap64; omega)), H', ⟨by have := HJ6.out; first | omega | exact Nat.le_refl _⟩, by repeat (first | exact Drawn0.refl _ | apply Drawn0.step)⟩
                · rw [if_neg c13] at H
                  exact absurd H (by simp)
          case rest =>
            clear HC10
            try clear c1
            try clear p1
            try clear q1
            try clear hx1
            try clear qi1
            try clear p2
            try clear c4
            try clear c4b0
            try clear c4b1
            try clear c5
            try clear c5b0
            try clear c5b1
            try clear c6
            try clear p6
            try clear q6
            try clear hx6
            try clear qi6
            try clear c8
            try clear c8b0
            try clear c8b1
            try clear c9
            try clear c9b0
            try clear c9b1
            try clear c11
            try clear c11b0
            try clear c11b1
            try clear c12
            try clear c12b0
            try clear c12b1
            try clear c13
            try clear c13b0
            try clear c13b1
            try clear p14
            try clear q14
            try clear hx14
            try clear qi14
            try clear c15
            try clear c15b0
            try clear c15b1
            try clear c16
            try clear c16b0
            try clear c16b1
            try clear p14
            try clear p2
            try clear p6
            try clear q14
            try clear q6
            obtain ⟨kq, x42_9, rfl, HA, HJ9, ⟨mc9, rfl⟩⟩ := hcut
            cases kq with
            | zero => exact absurd HA.out (by simp [belvedereref10_Int.j1])
            | succ kj9 =>
              have H := HA.out
              clear HA
              simp only [belvedereref10_Int.j1] at H
              by_cases c17 : x42_9 = true
              · subst c17
                have H1 : (some (0, 3)) = some (r1, r2) := by rw [if_pos rfl] at H; exact H
                clear H
                have H := H1
                clear H1
                simp only [Option.some.injEq, Prod.mk.injEq] at H
                obtain ⟨rfl, rfl⟩ := H
                go_wp2
                go_ret2
                exact ⟨by first | rfl | (simp; done) | (simp [*]; done) | (simp; unfold wrap64; omega), by repeat (first | exact Drawn0.refl _ | apply Drawn0.step)⟩
              · replace c17 := Bool.eq_false_iff.mpr c17
                subst c17
                have H1 : (belvedereref10_Int.l0 kj9 a1 a2 mb x9_6 0) = some (r1, r2) := by rw [if_neg (show ¬ (false = true) by decide)] at H; exact H
                clear H
                have H := H1
                clear H1
                have H' := Aside0.mk H
                clear H
                go_wp2
                go_loopg [10] kj9 (fun kq v10 w' => ∃ (x10_3 : Int), v10 = .int .i64 x10_3 ∧ Aside0 (belvedereref10_Int.l0 kq a1 a2 mb x9_6 x10_3 = some (r1, r2)) ∧ Aside0 (kq ≤ kj9) ∧ Drawn0 w w')
                case atStart => exact ⟨(0), (by first | rfl | (simp; done) | (simp [*]; done) | (simp; unfold wrap64; omega)), H', ⟨Nat.le_refl _⟩, by repeat (first | exact Drawn0.refl _ | apply Drawn0.step)⟩
                case round =>
                  clear H'
                  try clear c1
                  try clear p1
                  try clear q1
                  try clear hx1
                  try clear qi1
                  try clear p2
                  try clear c4
                  try clear c4b0
                  try clear c4b1
                  try clear c5
                  try clear c5b0
                  try clear c5b1
                  try clear c6
                  try clear p6
                  try clear q6
                  try clear hx6
                  try clear qi6
                  try clear c8
                  try clear c8b0
                  try clear c8b1
                  try clear c9
                  try clear c9b0
                  try clear c9b1
                  try clear c11
                  try clear c11b0
                  try clear c11b1
                  try clear c12
                  try clear c12b0
                  try clear c12b1
                  try clear c13
                  try clear c13b0
                  try clear c13b1
                  try clear p14
                  try clear q14
                  try clear hx14
                  try clear qi14
                  try clear c15
                  try clear c15b0
                  try clear c15b1
                  try clear c16
                  try clear c16b0
                  try clear c16b1
                  try clear c17
                  try clear p1
                  try clear p14
                  try clear p2
                  try clear p6
                  try clear q1
                  try clear q14
                  try clear q6
                  obtain ⟨x10_3, rfl, HA, HK3, ⟨m3, rfl⟩⟩ := hrel
                  cases gk with
                  | zero => exact absurd HA.out (by simp [belvedereref10_Int.l0])
                  | succ k3 =>
                    have H := HA.out
                    clear HA
                    simp only [belvedereref10_Int.l0] at H
                    by_cases c18 : x10_3 < (x9_6.size : Int)
                    · rw [if_pos c18] at H
                      have c18b0 : decide (x10_3 < (x9_6.size : Int)) = true := decide_eq_true c18
                      clear c18
                      by_cases c19 : 0 ≤ x10_3
                      · rw [if_pos c19] at H
                        have c19b0 : decide (0 ≤ x10_3) = true := decide_eq_true c19
                        clear c19
                        by_cases c21 : (bt x9_6 x10_3) < 48
                        · rw [if_pos c21] at H
                          have c21b0 : decide ((bt x9_6 x10_3) < 48) = true := decide_eq_true c21
                          clear c21
                          simp only [Option.some.injEq, Prod.mk.injEq] at H
                          obtain ⟨rfl, rfl⟩ := H
                          have p20 : 0 ≤ (x10_3 : Int) := of_decide_eq_true (by first | (with_reducible assumption) | assumption)
                          have q20 : x10_3 < (x9_6.size : Int) := of_decide_eq_true (by first | (with_reducible assumption) | assumption)
                          have hx20 := bt_at x9_6 x10_3
                          replace p20 := eq_true p20
                          replace q20 := eq_true q20
                          go_wp2
                          go_ret2
                          exact ⟨by first | rfl | (simp; done) | (simp [*]; done) | (simp; unfold wrap64; omega), by repeat (first | exact Drawn0.refl _ | apply Drawn0.step)⟩
                        · rw [if_neg c21] at H
                          have c21b0 : decide ((bt x9_6 x10_3) < 48) = false := decide_eq_false c21
                          clear c21
                          by_cases c23 : (bt x9_6 x10_3) > 57
                          · rw [if_pos c23] at H
                            have c23b0 : decide (57 < (bt x9_6 x10_3)) = true := decide_eq_true c23
                            clear c23
                            simp only [Option.some.injEq, Prod.mk.injEq] at H
                            obtain ⟨rfl, rfl⟩ := H
                            have p20 : 0 ≤ (x10_3 : Int) := of_decide_eq_true (by first | (with_reducible assumption) | assumption)
                            have q20 : x10_3 < (x9_6.size : Int) := of_decide_eq_true (by first | (with_reducible assumption) | assumption)
                            have hx20 := bt_at x9_6 x10_3
                            replace p20 := eq_true p20
                            replace q20 := eq_true q20
                            have p22 : 0 ≤ (x10_3 : Int) := of_decide_eq_true (by first | (with_reducible assumption) | assumption)
                            have q22 : x10_3 < (x9_6.size : Int) := of_decide_eq_true (by first | (with_reducible assumption) | assumption)
                            have hx22 := bt_at x9_6 x10_3
                            replace p22 := eq_true p22
                            replace q22 := eq_true q22
                            go_wp2
                            go_ret2
                            exact ⟨by first | rfl | (simp; done) | (simp [*]; done) | (simp; unfold wrap64; omega), by repeat (first | exact Drawn0.refl _ | apply Drawn0.step)⟩
                          · rw [if_neg c23] at H
                            have c23b0 : decide (57 < (bt x9_6 x10_3)) = false := decide_eq_false c23
                            clear c23
                            have H' := Aside0.mk H
                            clear H
                            have p20 : 0 ≤ (x10_3 : Int) := of_decide_eq_true (by first | (with_reducible assumption) | assumption)
                            have q20 : x10_3 < (x9_6.size : Int) := of_decide_eq_true (by first | (with_reducible assumption) | assumption)
                            have hx20 := bt_at x9_6 x10_3
                            replace p20 := eq_true p20
                            replace q20 := eq_true q20
                            have p22 : 0 ≤ (x10_3 : Int) := of_decide_eq_true (by first | (with_reducible assumption) | assumption)
                            have q22 : x10_3 < (x9_6.size : Int) := of_decide_eq_true (by first | (with_reducible assumption) | assumption)
                            have hx22 := bt_at x9_6 x10_3
                            replace p22 := eq_true p22
                            replace q22 := eq_true q22
                            go_wp2
                            go_roundg k3
                            case measure => have := HJ6.out; have := HJ9.out; have := HK3.out; omega
                            case rel => exact ⟨(wrap64 (x10_3 + 1)), (by first | rfl | (simp; done) | (simp [*]; done) | (simp; unfold wrap64; omega)), H', ⟨by have := HJ6.out; have := HJ9.out; have := HK3.out; omega⟩, by repeat (first | exact Drawn0.refl _ | apply Drawn0.step)⟩
                      · rw [if_neg c19] at H
                        exact absurd H (by simp)
                    · rw [if_neg c18] at H
                      have c18b0 : decide (x10_3 < (x9_6.size : Int)) = false := decide_eq_false c18
                      clear c18
                      have H' := Aside0.mk H
                      clear H
                      go_wp2
                      go_loopg [11, 12] k3 (fun kq v11 v12 w' => ∃ (x11_4 : Int) (x12_4 : Int), v11 = .int .u64 x11_4 ∧ v12 = .int .i64 x12_4 ∧ Aside0 (belvedereref10_Int.l1 kq a1 a2 mb x9_6 x11_4 x12_4 = some (r1, r2)) ∧ Aside0 (kq ≤ k3) ∧ Drawn0 w w')
                      case atStart => exact ⟨(0), (0), (by first | rfl | (simp; done) | (simp [*]; done) | (simp; unfold wrap64; omega)), (by first | rfl | (simp; done) | (simp [*]; done) | (simp; unfold wrap64; omega)), H', ⟨Nat.le_refl _⟩, by repeat (first | exact Drawn0.refl _ | apply Drawn0.step)⟩
                      case round =>
                        clear H'
                        try clear c1
                        try clear p1
                        try clear q1
                        try clear hx1
                        try clear qi1
                        try clear c2
                        try clear p2
                        try clear q2
                        try clear hx2
                        try clear c4
                        try clear c4b0
                        try clear c4b1
                        try clear c5
                        try clear c5b0
                        try clear c5b1
                        try clear c6
                        try clear p6
                        try clear q6
                        try clear hx6
                        try clear qi6
                        try clear c8
                        try clear c8b0
                        try clear c8b1
                        try clear c9
                        try clear c9b0
                        try clear c9b1
                        try clear c11
                        try clear c11b0
                        try clear c11b1
                        try clear c12
                        try clear c12b0
                        try clear c12b1
                        try clear c13
                        try clear c13b0
                        try clear c13b1
                        try clear p14
                        try clear q14
                        try clear hx14
                        try clear qi14
                        try clear c15
                        try clear c15b0
                        try clear c15b1
                        try clear c16
                        try clear c16b0
                        try clear c16b1
                        try clear c17
                        try clear c18
                        try clear c18b0
                        try clear c19
                        try clear c19b0
                        try clear p20
                        try clear q20
                        try clear hx20
                        try clear c21
                        try clear c21b0
                        try clear p22
                        try clear q22
                        try clear hx22
                        try clear c23
                        try clear c23b0
                        try clear p1
                        try clear p14
                        try clear p2
                        try clear p20
                        try clear p22
                        try clear p6
                        try clear q1
                        try clear q14
                        try clear q20
                        try clear q22
                        try clear q6
                        obtain ⟨x11_4, x12_4, rfl, rfl, HA, HK4, ⟨m4, rfl⟩⟩ := hrel
                        cases gk with
                        | zero => exact absurd HA.out (by simp [belvedereref10_Int.l1])
                        | succ k4 =>
                          have H := HA.out
                          clear HA
                          simp only [belvedereref10_Int.l1] at H
                          by_cases c24 : x12_4 < (x9_6.size : Int)
                          · rw [if_pos c24] at H
                            have c24b0 : decide (x12_4 < (x9_6.size : Int)) = true := decide_eq_true c24
                            clear c24
                            by_cases c25 : 0 ≤ x12_4
                            · rw [if_pos c25] at H
                              have c25b0 : decide (0 ≤ x12_4) = true := decide_eq_true c25
                              clear c25
                              have H' := Aside0.mk H
                              clear H
                              have p26 : 0 ≤ (x12_4 : Int) := of_decide_eq_true (by first | (with_reducible assumption) | assumption)
                              have q26 : x12_4 < (x9_6.size : Int) := of_decide_eq_true (by first | (with_reducible assumption) | assumption)
                              have hx26 := bt_at x9_6 x12_4
                              replace p26 := eq_true p26
                              replace q26 := eq_true q26
                              go_wp2
                              go_roundg k4
                              case measure => have := HJ6.out; have := HJ9.out; have := HK3.out; have := HK4.out; omega
                              case rel => exact ⟨(IntKind.u64.wrap ((IntKind.u64.wrap (10 * x11_4)) + (((bt x9_6 x12_4) - 48) % 256))), (wrap64 (x12_4 + 1)), (by first | rfl | (simp; done) | (simp [*]; done) | (simp; unfold wrap64; omega)), (by first | rfl | (simp; done) | (simp [*]; done) | (simp; unfold wrap64; omega)), H', ⟨by have := HJ6.out; have := HJ9.out; have := HK3.out; have := HK4.out; omega⟩, by repeat (first | exact Drawn0.refl _ | apply Drawn0.step)⟩
                            · rw [if_neg c25] at H
                              exact absurd H (by simp)
                          · rw [if_neg c24] at H
                            have c24b0 : decide (x12_4 < (x9_6.size : Int)) = false := decide_eq_false c24
                            clear c24
                            by_cases c27 : x11_4 > 9223372036854775807
                            · rw [if_pos c27] at H
                              have c27b0 : decide (9223372036854775807 < x11_4) = true := decide_eq_true c27
                              clear c27
                              simp only [Option.some.injEq, Prod.mk.injEq] at H
                              obtain ⟨rfl, rfl⟩ := H
                              go_wp2
                              go_ret2
                              exact ⟨by first | rfl | (simp; done) | (simp [*]; done) | (simp; unfold wrap64; omega), by repeat (first | exact Drawn0.refl _ | apply Drawn0.step)⟩
                            · rw [if_neg c27] at H
                              have c27b0 : decide (9223372036854775807 < x11_4) = false := decide_eq_false c27
                              clear c27
                              by_cases c28 : mb = true
                              · rw [if_pos c28] at H
                                have c28b0 : mb = true := c28
                                subst c28b0
                                (try (have c28b1 : decide ((bt a0 0) = 45) = true := by simpa using c28))
                                (try (have c28b2 : mb = true := by simpa using c28))
                                clear c28
                                by_cases c29 : (wrap64 (-(wrap64 (x11_4)))) < a1
                                · rw [if_pos c29] at H
                                  have c29b0 : decide ((wrap64 (-(wrap64 (x11_4)))) < a1) = true := decide_eq_true c29
                                  clear c29
                                  simp only [Option.some.injEq, Prod.mk.injEq] at H
                                  obtain ⟨rfl, rfl⟩ := H
                                  go_wp2
                                  go_ret2
                                  exact ⟨by first | rfl | (simp; done) | (simp [*]; done) | (simp; unfold wrap64; omega), by repeat (first | exact Drawn0.refl _ | apply Drawn0.step)⟩
                                · rw [if_neg c29] at H
                                  have c29b0 : decide ((wrap64 (-(wrap64 (x11_4)))) < a1) = false := decide_eq_false c29
                                  clear c29
                                  by_cases c30 : (wrap64 (-(wrap64 (x11_4)))) > a2
                                  · rw [if_pos c30] at H
                                    have c30b0 : decide (a2 < (wrap64 (-(wrap64 (x11_4))))) = true := decide_eq_true c30
                                    clear c30
                                    simp only [Option.some.injEq, Prod.mk.injEq] at H
                                    obtain ⟨rfl, rfl⟩ := H
                                    go_wp2
                                    go_ret2
                                    exact ⟨by first | rfl | (simp; done) | (simp [*]; done) | (simp; unfold wrap64; omega), by repeat (first | exact Drawn0.refl _ | apply Drawn0.step)⟩
                                  · rw [if_neg c30] at H
                                    have c30b0 : decide (a2 < (wrap64 (-(wrap64 (x11_4))))) = false := decide_eq_false c30
                                    clear c30
                                    simp only [Option.some.injEq, Prod.mk.injEq] at H
                                    obtain ⟨rfl, rfl⟩ := H
                                    go_wp2
                                    go_ret2
                                    exact ⟨by first | rfl | (simp; done) | (simp [*]; done) | (simp; unfold wrap64; omega), by repeat (first | exact Drawn0.refl _ | apply Drawn0.step)⟩
                              · rw [if_neg c28] at H
                                have c28b0 : mb = false := by simpa using c28
                                subst c28b0
                                (try (have c28b1 : decide ((bt a0 0) = 45) = false := by simpa using c28))
                                (try (have c28b2 : mb = false := by simpa using c28))
                                (try (have c28b3 : ¬ ((bt a0 0) = 45) := by simpa using c28))
                                clear c28
                                by_cases c31 : (wrap64 (x11_4)) < a1
                                · rw [if_pos c31] at H
                                  have c31b0 : decide ((wrap64 (x11_4)) < a1) = true := decide_eq_true c31
                                  clear c31
                                  simp only [Option.some.injEq, Prod.mk.injEq] at H
                                  obtain ⟨rfl, rfl⟩ := H
                                  go_wp2
                                  go_ret2
                                  exact ⟨by first | rfl | (simp; done) | (simp [*]; done) | (simp; unfold wrap64; omega), by repeat (first | exact Drawn0.refl _ | apply Drawn0.step)⟩
                                · rw [if_neg c31] at H
                                  have c31b0 : decide ((wrap64 (x11_4)) < a1) = false := decide_eq_false c31
                                  clear c31
                                  by_cases c32 : (wrap64 (x11_4)) > a2
                                  · rw [if_pos c32] at H
                                    have c32b0 : decide (a2 < (wrap64 (x11_4))) = true := decide_eq_true c32
                                    clear c32
                                    simp only [Option.some.injEq, Prod.mk.injEq] at H
                                    obtain ⟨rfl, rfl⟩ := H
                                    go_wp2
                                    go_ret2
                                    exact ⟨by first | rfl | (simp; done) | (simp [*]; done) | (simp; unfold wrap64; omega), by repeat (first | exact Drawn0.refl _ | apply Drawn0.step)⟩
                                  · rw [if_neg c32] at H
                                    have c32b0 : decide (a2 < (wrap64 (x11_4))) = false := decide_eq_false c32
                                    clear c32
                                    simp only [Option.some.injEq, Prod.mk.injEq] at H
                                    obtain ⟨rfl, rfl⟩ := H
                                    go_wp2
                                    go_ret2
                                    exact ⟨by first | rfl | (simp; done) | (simp [*]; done) | (simp; unfold wrap64; omega), by repeat (first | exact Drawn0.refl _ | apply Drawn0.step)⟩
    · rw [if_neg c5] at H
      exact absurd H (by simp)

/-! ### value_Flag: function 13 -/
def value_Flag.f (a0 : ByteArray) : Option (Bool × Option Int) := if a0.toList = ([] : List UInt8) then (some (false, some 13)) else (if a0.toList = ([48] : List UInt8) then (some ((a0.toList == ([49] : List UInt8)), none)) else (if a0.toList = ([49] : List UInt8) then (some ((a0.toList == ([49] : List UInt8)), none)) else (some (false, some 3))))
set_option maxHeartbeats 8000000 in
set_option maxRecDepth 100000 in
theorem value_Flag.calls (a0 : ByteArray) (r1 : Bool) (r2 : Option Int) (w : World) (h : value_Flag.f a0 = some (r1, r2)) :
    Calls Tryz.prog 13 #[.string a0] w fun e w' => e = .returned (.tuple #[.bool r1, errW r2]) ∧ Drawn0 w w' := by
  have hu26 := Tryz.underlying26
  have hu58 := Tryz.underlying58
  have H : (if a0.toList = ([] : List UInt8) then (some (false, some 13)) else (if a0.toList = ([48] : List UInt8) then (some ((a0.toList == ([49] : List UInt8)), none)) else (if a0.toList = ([49] : List UInt8) then (some ((a0.toList == ([49] : List UInt8)), none)) else (some (false, some 3))))) = some (r1, r2) := h
  clear h
  by_cases c2 : a0.toList = ([] : List UInt8)
  · rw [if_pos c2] at H
    have c2b0 : (a0.toList == ([] : List UInt8)) = true := beq_iff_eq.mpr c2
    have c2b1 : (a0.toList != ([] : List UInt8)) = false := bne_eq_false_iff_eq.mpr c2
    clear c2
    simp only [Option.some.injEq, Prod.mk.injEq] at H
    obtain ⟨rfl, rfl⟩ := H
    go_enter Tryz.func13, Tryz.ntmps13
    go_wp2
    go_ret2
    exact ⟨by first | rfl | (rw [c4b0]; rfl) | (simp [c4b0, errW_none, errW_some]; done) | (have e_ : (a0.toList == ([49] : List UInt8)) = false := (by rw [beq_iff_eq.mp c3b0]; rfl); (rw [e_]; rfl)) | (simp; done) | (simp [*]; done) | (simp; unfold wrap64; omega), by repeat (first | exact Drawn0.refl _ | apply Drawn0.step)⟩
  · rw [if_neg c2] at H
    have c2b0 : (a0.toList == ([] : List UInt8)) = false := beq_eq_false_iff_ne.mpr c2
    have c2b1 : (a0.toList != ([] : List UInt8)) = true := bne_iff_ne.mpr c2
    by_cases c3 : a0.toList = ([48] : List UInt8)
    · rw [if_pos c3] at H
      have c3b0 : (a0.toList == ([48] : List UInt8)) = true := beq_iff_eq.mpr c3
      have c3b1 : (a0.toList != ([48] : List UInt8)) = false := bne_eq_false_iff_eq.mpr c3
      clear c3
      simp only [Option.some.injEq, Prod.mk.injEq] at H
      obtain ⟨rfl, rfl⟩ := H
      go_enter Tryz.func13, Tryz.ntmps13
      go_wp2
      go_ret2
      exact ⟨by first | rfl | (rw [c4b0]; rfl) | (simp [c4b0, errW_none, errW_some]; done) | (have e_ : (a0.toList == ([49] : List UInt8)) = false := (by rw [beq_iff_eq.mp c3b0]; rfl); (rw [e_]; rfl)) | (simp; done) | (simp [*]; done) | (simp; unfold wrap64; omega), by repeat (first | exact Drawn0.refl _ | apply Drawn0.step)⟩
    · rw [if_neg c3] at H
      have c3b0 : (a0.toList == ([48] : List UInt8)) = false := beq_eq_false_iff_ne.mpr c3
      have c3b1 : (a0.toList != ([48] : List UInt8)) = true := bne_iff_ne.mpr c3
      by_cases c4 : a0.toList = ([49] : List UInt8)
      · rw [if_pos c4] at H
        have c4b0 : (a0.toList == ([49] : List UInt8)) = true := beq_iff_eq.mpr c4
        have c4b1 : (a0.toList != ([49] : List UInt8)) = false := bne_eq_false_iff_eq.mpr c4
        clear c4
        simp only [Option.some.injEq, Prod.mk.injEq] at H
        obtain ⟨rfl, rfl⟩ := H
        go_enter Tryz.func13, Tryz.ntmps13
        go_wp2
        go_ret2
        exact ⟨by first | rfl | (rw [c4b0]; rfl) | (simp [c4b0, errW_none, errW_some]; done) | (have e_ : (a0.toList == ([49] : List UInt8)) = false := (by rw [beq_iff_eq.mp c3b0]; rfl); (rw [e_]; rfl)) | (simp; done) | (simp [*]; done) | (simp; unfold wrap64; omega), by repeat (first | exact Drawn0.refl _ | apply Drawn0.step)⟩
      · rw [if_neg c4] at H
        have c4b0 : (a0.toList == ([49] : List UInt8)) = false := beq_eq_false_iff_ne.mpr c4
        have c4b1 : (a0.toList != ([49] : List UInt8)) = true := bne_iff_ne.mpr c4
        simp only [Option.some.injEq, Prod.mk.injEq] at H
        obtain ⟨rfl, rfl⟩ := H
        go_enter Tryz.func13, Tryz.ntmps13
        go_wp2
        go_ret2
        exact ⟨by first | rfl | (rw [c4b0]; rfl) | (simp [c4b0, errW_none, errW_some]; done) | (have e_ : (a0.toList == ([49] : List UInt8)) = false := (by rw [beq_iff_eq.mp c3b0]; rfl); (rw [e_]; rfl)) | (simp; done) | (simp [*]; done) | (simp; unfold wrap64; omega), by repeat (first | exact Drawn0.refl _ | apply Drawn0.step)⟩

/-! ### belvedereref10_Flag: function 14 -/
def belvedereref10_Flag.f (a0 : ByteArray) : Option (Bool × Int) := if a0.toList = ([] : List UInt8) then (some (false, 13)) else (if a0.toList = ([48] : List UInt8) then (some ((a0.toList == ([49] : List UInt8)), 0)) else (if a0.toList = ([49] : List UInt8) then (some ((a0.toList == ([49] : List UInt8)), 0)) else (some (false, 3))))
set_option maxHeartbeats 8000000 in
set_option maxRecDepth 100000 in
theorem belvedereref10_Flag.calls (a0 : ByteArray) (r1 : Bool) (r2 : Int) (w : World) (h : belvedereref10_Flag.f a0 = some (r1, r2)) :
    Calls Tryz.prog 14 #[.string a0] w fun e w' => e = .returned (.tuple #[.bool r1, .int .i64 r2]) ∧ Drawn0 w w' := by
  have H : (if a0.toList = ([] : List UInt8) then (some (false, 13)) else (if a0.toList = ([48] : List UInt8) then (some ((a0.toList == ([49] : List UInt8)), 0)) else (if a0.toList = ([49] : List UInt8) then (some ((a0.toList == ([49] : List UInt8)), 0)) else (some (false, 3))))) = some (r1, r2) := h
  clear h
  by_cases c2 : a0.toList = ([] : List UInt8)
  · rw [if_pos c2] at H
    have c2b0 : (a0.toList == ([] : List UInt8)) = true := beq_iff_eq.mpr c2
    have c2b1 : (a0.toList != ([] : List UInt8)) = false := bne_eq_false_iff_eq.mpr c2
    clear c2
    simp only [Option.some.injEq, Prod.mk.injEq] at H
    obtain ⟨rfl, rfl⟩ := H
    go_enter Tryz.func14, Tryz.ntmps14
    go_wp2
    go_ret2
    exact ⟨by first | rfl | (rw [c4b0]; rfl) | (simp [c4b0, errW_none, errW_some]; done) | (have e_ : (a0.toList == ([49] : List UInt8)) = false := (by rw [beq_iff_eq.mp c3b0]; rfl); (rw [e_]; rfl)) | (simp; done) | (simp [*]; done) | (simp; unfold wrap64; omega), by repeat (first | exact Drawn0.refl _ | apply Drawn0.step)⟩
  · rw [if_neg c2] at H
    have c2b0 : (a0.toList == ([] : List UInt8)) = false := beq_eq_false_iff_ne.mpr c2
    have c2b1 : (a0.toList != ([] : List UInt8)) = true := bne_iff_ne.mpr c2
    by_cases c3 : a0.toList = ([48] : List UInt8)
    · rw [if_pos c3] at H
      have c3b0 : (a0.toList == ([48] : List UInt8)) = true := beq_iff_eq.mpr c3
      have c3b1 : (a0.toList != ([48] : List UInt8)) = false := bne_eq_false_iff_eq.mpr c3
      clear c3
      simp only [Option.some.injEq, Prod.mk.injEq] at H
      obtain ⟨rfl, rfl⟩ := H
      go_enter Tryz.func14, Tryz.ntmps14
      go_wp2
      go_ret2
      exact ⟨by first | rfl | (rw [c4b0]; rfl) | (simp [c4b0, errW_none, errW_some]; done) | (have e_ : (a0.toList == ([49] : List UInt8)) = false := (by rw [beq_iff_eq.mp c3b0]; rfl); (rw [e_]; rfl)) | (simp; done) | (simp [*]; done) | (simp; unfold wrap64; omega), by repeat (first | exact Drawn0.refl _ | apply Drawn0.step)⟩
    · rw [if_neg c3] at H
      have c3b0 : (a0.toList == ([48] : List UInt8)) = false := beq_eq_false_iff_ne.mpr c3
      have c3b1 : (a0.toList != ([48] : List UInt8)) = true := bne_iff_ne.mpr c3
      by_cases c4 : a0.toList = ([49] : List UInt8)
      · rw [if_pos c4] at H
        have c4b0 : (a0.toList == ([49] : List UInt8)) = true := beq_iff_eq.mpr c4
        have c4b1 : (a0.toList != ([49] : List UInt8)) = false := bne_eq_false_iff_eq.mpr c4
        clear c4
        simp only [Option.some.injEq, Prod.mk.injEq] at H
        obtain ⟨rfl, rfl⟩ := H
        go_enter Tryz.func14, Tryz.ntmps14
        go_wp2
        go_ret2
        exact ⟨by first | rfl | (rw [c4b0]; rfl) | (simp [c4b0, errW_none, errW_some]; done) | (have e_ : (a0.toList == ([49] : List UInt8)) = false := (by rw [beq_iff_eq.mp c3b0]; rfl); (rw [e_]; rfl)) | (simp; done) | (simp [*]; done) | (simp; unfold wrap64; omega), by repeat (first | exact Drawn0.refl _ | apply Drawn0.step)⟩
      · rw [if_neg c4] at H
        have c4b0 : (a0.toList == ([49] : List UInt8)) = false := beq_eq_false_iff_ne.mpr c4
        have c4b1 : (a0.toList != ([49] : List UInt8)) = true := bne_iff_ne.mpr c4
        simp only [Option.some.injEq, Prod.mk.injEq] at H
        obtain ⟨rfl, rfl⟩ := H
        go_enter Tryz.func14, Tryz.ntmps14
        go_wp2
        go_ret2
        exact ⟨by first | rfl | (rw [c4b0]; rfl) | (simp [c4b0, errW_none, errW_some]; done) | (have e_ : (a0.toList == ([49] : List UInt8)) = false := (by rw [beq_iff_eq.mp c3b0]; rfl); (rw [e_]; rfl)) | (simp; done) | (simp [*]; done) | (simp; unfold wrap64; omega), by repeat (first | exact Drawn0.refl _ | apply Drawn0.step)⟩

end Go.Proofs.YtahjnjlkpbjfnaaGreatDoor.P
