-- written by myprint.py (this claim's own program, after the kit's print)
import Derived.Test.YtahjnjlkpbjfnaaGreatDoorPx0
import Derived.Test.YtahjnjlkpbjfnaaGreatDoorPx9
import Derived.Test.YtahjnjlkpbjfnaaGreatDoorPack
namespace Go.Proofs.YtahjnjlkpbjfnaaGreatDoor.P
open Go.RowKit Go.Proofs.YtahjnjlkpbjfnaaGreatDoorW.PrintWords Go.Proofs.YtahjnjlkpbjfnaaGreatDoorW.PrintLast Go.Proofs.YtahjnjlkpbjfnaaGreatDoorW.PrintMore
attribute [local go_sem] max2_int min2_int max_two min_two max_three min_three max_four min_four   -- for this text's walks alone
set_option linter.unusedVariables false
set_option linter.unusedSimpArgs false

/-! ### belvedereref10_Options: function 17 -/
mutual
def belvedereref10_Options.j0 : Nat → ByteArray → List ByteArray → Bool → Option (Int × Int)
 | 0, _, _, _ => none
 | k + 1, x1, x6, x36 => if x36 = true then (some (0, 0)) else (belvedereref10_Options.l0 k x1 x6 0 0)
def belvedereref10_Options.l0 : Nat → ByteArray → List ByteArray → Int → Int → Option (Int × Int)
 | 0, _, _, _, _ => none
 | k + 1, x1, x6, x8, x9 => if x9 < (x6.length : Int) then (if 0 ≤ x9 then (if ((rdOf ByteArray.empty x6 x9).size : Int) = 1 then (if 0 < ((rdOf ByteArray.empty x6 x9).size : Int) then ((belvedereref10_at.f k x1 (bt (rdOf ByteArray.empty x6 x9) 0)).bind fun t224 => (belvedereref10_Options.j2 k x1 x6 x8 x9 (decide (t224 < 0)))) else (none)) else (belvedereref10_Options.j2 k x1 x6 x8 x9 true)) else (none)) else (some (x8, 0))
def belvedereref10_Options.j2 : Nat → ByteArray → List ByteArray → Int → Int → Bool → Option (Int × Int)
 | 0, _, _, _, _, _ => none
 | k + 1, x1, x6, x8, x9, x58 => if x58 = true then (some (0, 3)) else (belvedereref10_Options.l1 k x1 x6 x8 x9 1 0)
def belvedereref10_Options.l1 : Nat → ByteArray → List ByteArray → Int → Int → Int → Int → Option (Int × Int)
 | 0, _, _, _, _, _, _ => none
 | k + 1, x1, x6, x8, x9, x10, x11 => if 0 ≤ x9 then (if x9 < (x6.length : Int) then (if 0 < ((rdOf ByteArray.empty x6 x9).size : Int) then ((belvedereref10_at.f k x1 (bt (rdOf ByteArray.empty x6 x9) 0)).bind fun t226 => (if x11 < t226 then (belvedereref10_Options.l1 k x1 x6 x8 x9 (wrap64 (2 * x10)) (wrap64 (x11 + 1))) else (belvedereref10_Options.l0 k x1 x6 (wrap64 (x8 + x10)) (wrap64 (x9 + 1))))) else (none)) else (none)) else (none)
end
def belvedereref10_Options.f (k : Nat) (a0 : ByteArray) (a1 : ByteArray) : Option (Int × Int) := (belvedereref10_May.f k a1).bind fun t215 => (if t215 = true then ((belvedereref10_List.f k a0).bind fun bt216 => (if bt216.2 = 0 then (if (bt216.1.length : Int) = 1 then (if 0 < (bt216.1.length : Int) then (if (rdOf ByteArray.empty bt216.1 0).toList = ([110] : List UInt8) then ((belvedereref10_at.f k a1 110).bind fun t221 => (belvedereref10_Options.j0 k a1 bt216.1 (decide (t221 < 0)))) else (belvedereref10_Options.j0 k a1 bt216.1 false)) else (none)) else (belvedereref10_Options.j0 k a1 bt216.1 false)) else (some (0, bt216.2)))) else (some (0, 1)))
theorem belvedereref10_Options.mono_l : ∀ k, (∀ y0 y1 y2, LeO (belvedereref10_Options.j0 k y0 y1 y2) (belvedereref10_Options.j0 (k + 1) y0 y1 y2)) ∧ (∀ y0 y1 y2 y3, LeO (belvedereref10_Options.l0 k y0 y1 y2 y3) (belvedereref10_Options.l0 (k + 1) y0 y1 y2 y3)) ∧ (∀ y0 y1 y2 y3 y4, LeO (belvedereref10_Options.j2 k y0 y1 y2 y3 y4) (belvedereref10_Options.j2 (k + 1) y0 y1 y2 y3 y4)) ∧ (∀ y0 y1 y2 y3 y4 y5, LeO (belvedereref10_Options.l1 k y0 y1 y2 y3 y4 y5) (belvedereref10_Options.l1 (k + 1) y0 y1 y2 y3 y4 y5))
 | 0 => ⟨fun _ _ _ r h => by simp [belvedereref10_Options.j0] at h, fun _ _ _ _ r h => by simp [belvedereref10_Options.l0] at h, fun _ _ _ _ _ r h => by simp [belvedereref10_Options.j2] at h, fun _ _ _ _ _ _ r h => by simp [belvedereref10_Options.l1] at h⟩
 | k + 1 => by
  obtain ⟨ih0, ih1, ih2, ih3⟩ := belvedereref10_Options.mono_l k;refine ⟨?_, ?_, ?_, ?_⟩
  ·intro y0 y1 y2;unfold belvedereref10_Options.j0
   repeat' first
   | (with_reducible exact ih0 _ _ _)
   | (with_reducible exact ih1 _ _ _ _)
   | (with_reducible exact ih2 _ _ _ _ _)
   | (with_reducible exact ih3 _ _ _ _ _ _)
   | (with_reducible exact belvedereref10_List.mono _ _)
   | (with_reducible exact belvedereref10_May.mono _ _)
   | (with_reducible exact belvedereref10_at.mono _ _ _)
   | (with_reducible exact LeO.refl _)
   | (with_reducible exact LeO.none _)
   | (with_reducible refine LeO.ite ?_ ?_)
   | (with_reducible refine LeO.bind ?_ (fun _ => ?_))
   | exact ih0 _ _ _
   | exact ih1 _ _ _ _
   | exact ih2 _ _ _ _ _
   | exact ih3 _ _ _ _ _ _
   | exact belvedereref10_List.mono _ _
   | exact belvedereref10_May.mono _ _
   | exact belvedereref10_at.mono _ _ _
   | exact LeO.none _
   | refine LeO.ite ?_ ?_
   | refine LeO.bind ?_ (fun _ => ?_)
  ·intro y0 y1 y2 y3;unfold belvedereref10_Options.l0
   repeat' first
   | (with_reducible exact ih0 _ _ _)
   | (with_reducible exact ih1 _ _ _ _)
   | (with_reducible exact ih2 _ _ _ _ _)
   | (with_reducible exact ih3 _ _ _ _ _ _)
   | (with_reducible exact belvedereref10_List.mono _ _)
   | (with_reducible exact belvedereref10_May.mono _ _)
   | (with_reducible exact belvedereref10_at.mono _ _ _)
   | (with_reducible exact LeO.refl _)
   | (with_reducible exact LeO.none _)
   | (with_reducible refine LeO.ite ?_ ?_)
   | (with_reducible refine LeO.bind ?_ (fun _ => ?_))
   | exact ih0 _ _ _
   | exact ih1 _ _ _ _
   | exact ih2 _ _ _ _ _
   | exact ih3 _ _ _ _ _ _
   | exact belvedereref10_List.mono _ _
   | exact belvedereref10_May.mono _ _
   | exact belvedereref10_at.mono _ _ _
   | exact LeO.none _
   | refine LeO.ite ?_ ?_
   | refine LeO.bind ?_ (fun _ => ?_)
  ·intro y0 y1 y2 y3 y4;unfold belvedereref10_Options.j2
   repeat' first
   | (with_reducible exact ih0 _ _ _)
   | (with_reducible exact ih1 _ _ _ _)
   | (with_reducible exact ih2 _ _ _ _ _)
   | (with_reducible exact ih3 _ _ _ _ _ _)
   | (with_reducible exact belvedereref10_List.mono _ _)
   | (with_reducible exact belvedereref10_May.mono _ _)
   | (with_reducible exact belvedereref10_at.mono _ _ _)
   | (with_reducible exact LeO.refl _)
   | (with_reducible exact LeO.none _)
   | (with_reducible refine LeO.ite ?_ ?_)
   | (with_reducible refine LeO.bind ?_ (fun _ => ?_))
   | exact ih0 _ _ _
   | exact ih1 _ _ _ _
   | exact ih2 _ _ _ _ _
   | exact ih3 _ _ _ _ _ _
   | exact belvedereref10_List.mono _ _
   | exact belvedereref10_May.mono _ _
   | exact belvedereref10_at.mono _ _ _
   | exact LeO.none _
   | refine LeO.ite ?_ ?_
   | refine LeO.bind ?_ (fun _ => ?_)
  ·intro y0 y1 y2 y3 y4 y5;unfold belvedereref10_Options.l1
   repeat' first
   | (with_reducible exact ih0 _ _ _)
   | (with_reducible exact ih1 _ _ _ _)
   | (with_reducible exact ih2 _ _ _ _ _)
   | (with_reducible exact ih3 _ _ _ _ _ _)
   | (with_reducible exact belvedereref10_List.mono _ _)
   | (with_reducible exact belvedereref10_May.mono _ _)
   | (with_reducible exact belvedereref10_at.mono _ _ _)
   | (with_reducible exact LeO.refl _)
   | (with_reducible exact LeO.none _)
   | (with_reducible refine LeO.ite ?_ ?_)
   | (with_reducible refine LeO.bind ?_ (fun _ => ?_))
   | exact ih0 _ _ _
   | exact ih1 _ _ _ _
   | exact ih2 _ _ _ _ _
   | exact ih3 _ _ _ _ _ _
   | exact belvedereref10_List.mono _ _
   | exact belvedereref10_May.mono _ _
   | exact belvedereref10_at.mono _ _ _
   | exact LeO.none _
   | refine LeO.ite ?_ ?_
   | refine LeO.bind ?_ (fun _ => ?_)
theorem belvedereref10_Options.mono : ∀ a0 a1 k, LeO (belvedereref10_Options.f k a0 a1) (belvedereref10_Options.f (k + 1) a0 a1) := by
 intro a0 a1 k;obtain ⟨ih0, ih1, ih2, ih3⟩ := belvedereref10_Options.mono_l k;unfold belvedereref10_Options.f
 repeat' first
   | (with_reducible exact ih0 _ _ _)
   | (with_reducible exact ih1 _ _ _ _)
   | (with_reducible exact ih2 _ _ _ _ _)
   | (with_reducible exact ih3 _ _ _ _ _ _)
   | (with_reducible exact belvedereref10_List.mono _ _)
   | (with_reducible exact belvedereref10_May.mono _ _)
   | (with_reducible exact belvedereref10_at.mono _ _ _)
   | (with_reducible exact LeO.refl _)
   | (with_reducible exact LeO.none _)
   | (with_reducible refine LeO.ite ?_ ?_)
   | (with_reducible refine LeO.bind ?_ (fun _ => ?_))
   | exact ih0 _ _ _
   | exact ih1 _ _ _ _
   | exact ih2 _ _ _ _ _
   | exact ih3 _ _ _ _ _ _
   | exact belvedereref10_List.mono _ _
   | exact belvedereref10_May.mono _ _
   | exact belvedereref10_at.mono _ _ _
   | exact LeO.none _
   | refine LeO.ite ?_ ?_
   | refine LeO.bind ?_ (fun _ => ?_)
set_option maxHeartbeats 8000000 in
set_option maxRecDepth 100000 in
theorem belvedereref10_Options.calls (k : Nat) (a0 : ByteArray) (a1 : ByteArray) (r1 : Int) (r2 : Int) (w : World) (h : belvedereref10_Options.f k a0 a1 = some (r1, r2)) :
  Calls Tryz.prog 17 #[.string a0, .string a1] w fun e w' => e = .returned (.tuple #[.int .i64 r1, .int .i64 r2]) ∧ Below w.heap.size w w' := by
 have HB := As (Below.refl w.heap.size w);have H : ((belvedereref10_May.f k a1).bind fun t215 => (if t215 = true then ((belvedereref10_List.f k a0).bind fun bt216 => (if bt216.2 = 0 then (if (bt216.1.length : Int) = 1 then (if 0 < (bt216.1.length : Int) then (if (rdOf ByteArray.empty bt216.1 0).toList = ([110] : List UInt8) then ((belvedereref10_at.f k a1 110).bind fun t221 => (belvedereref10_Options.j0 k a1 bt216.1 (decide (t221 < 0)))) else (belvedereref10_Options.j0 k a1 bt216.1 false)) else (none)) else (belvedereref10_Options.j0 k a1 bt216.1 false)) else (some (0, bt216.2)))) else (some (0, 1)))) = some (r1, r2) := h;clear h;replace H := bE H;obtain ⟨t215, A30, H⟩ := H;replace H : (if t215 = true then ((belvedereref10_List.f k a0).bind fun bt216 => (if bt216.2 = 0 then (if (bt216.1.length : Int) = 1 then (if 0 < (bt216.1.length : Int) then (if (rdOf ByteArray.empty bt216.1 0).toList = ([110] : List UInt8) then ((belvedereref10_at.f k a1 110).bind fun t221 => (belvedereref10_Options.j0 k a1 bt216.1 (decide (t221 < 0)))) else (belvedereref10_Options.j0 k a1 bt216.1 false)) else (none)) else (belvedereref10_Options.j0 k a1 bt216.1 false)) else (some (0, bt216.2)))) else (some (0, 1))) = some (r1, r2) := H;have A3 := As A30;clear A30
 by_cases c4 : t215 = true
 focus
  subst c4
  have H1 : ((belvedereref10_List.f k a0).bind fun bt216 => (if bt216.2 = 0 then (if (bt216.1.length : Int) = 1 then (if 0 < (bt216.1.length : Int) then (if (rdOf ByteArray.empty bt216.1 0).toList = ([110] : List UInt8) then ((belvedereref10_at.f k a1 110).bind fun t221 => (belvedereref10_Options.j0 k a1 bt216.1 (decide (t221 < 0)))) else (belvedereref10_Options.j0 k a1 bt216.1 false)) else (none)) else (belvedereref10_Options.j0 k a1 bt216.1 false)) else (some (0, bt216.2)))) = some (r1, r2) := by rw [if_pos rfl] at H; exact H
  clear H;have H := H1;clear H1;replace H := bE H;obtain ⟨⟨t216, t217⟩, A50, H⟩ := H;replace H : (if t217 = 0 then (if (t216.length : Int) = 1 then (if 0 < (t216.length : Int) then (if (rdOf ByteArray.empty t216 0).toList = ([110] : List UInt8) then ((belvedereref10_at.f k a1 110).bind fun t221 => (belvedereref10_Options.j0 k a1 t216 (decide (t221 < 0)))) else (belvedereref10_Options.j0 k a1 t216 false)) else (none)) else (belvedereref10_Options.j0 k a1 t216 false)) else (some (0, t217))) = some (r1, r2) := H;have A5 := As A50;clear A50
  by_cases c6 : t217 = 0
  rw [if_pos c6] at H;have c6b0 : (t217 == 0) = true := beq_iff_eq.mpr c6;have c6b1 : (t217 != 0) = false := bne_eq_false_iff_eq.mpr c6;clear c6;have HC7 := As H;clear H
  rotate_left
  rw [if_neg c6] at H;have c6b0 : (t217 == 0) = false := beq_eq_false_iff_ne.mpr c6;have c6b1 : (t217 != 0) = true := bne_iff_ne.mpr c6;simp only [Option.some.injEq, Prod.mk.injEq] at H;obtain ⟨rfl, rfl⟩ := H
  have m1_ := trivial
 rotate_left 2
 replace c4 := Bool.eq_false_iff.mpr c4;subst c4
 have H1 : (some (0, 1)) = some (r1, r2) := by rw [if_neg (show ¬ (false = true) by decide)] at H; exact H
 clear H;have H := H1;clear H1;simp only [Option.some.injEq, Prod.mk.injEq] at H;obtain ⟨rfl, rfl⟩ := H
 have m2_ := trivial
 all_goals go_enter Tryz.func17, Tryz.ntmps17
 all_goals try
  first | (clear m1_; have m1_ := trivial) | (clear m2_; have m2_ := trivial)
  go_wp2_with (first | ((with_reducible refine gate_callee (f := 32) rfl ?_); refine goesL_ (some 13) rfl rfl Tryz.func32 kr rfl #[.string a1] rfl sa ?_; (with_reducible refine (belvedereref10_May.calls k a1 _ _ A3.out).mono ?_); rintro e w' ⟨rfl, ⟨nd, rfl⟩⟩; refine ⟨_, rfl, ?_⟩) | ((with_reducible refine gate_callee (f := 21) rfl ?_); refine goesL_ (some 17) rfl rfl Tryz.func21 kr rfl #[.string a0] rfl sa ?_; (with_reducible refine (belvedereref10_List.calls k a0 _ _ _ A5.out).mono ?_); rintro e w33 ⟨v218, rfl, ho0, hb⟩; refine ⟨_, rfl, ?_⟩; have HO219 := As (Kd.R_lower ho0 (XZ (be HB.out))); replace HB := As (XT (be HB.out) hb); (try clear hb); (try clear hb2); (try clear hk); (try clear hi); (try clear ho0)))
  go_ret2
  exact ⟨by first | rfl | (simp [errW_none, errW_some] <;> rfl) | (simp [*, errW_none, errW_some] <;> rfl), by repeat (first | (with_reducible first | exact HB.out | apply XA | apply XN | apply XD) | exact HB.out)⟩
 ·go_upto_region 6 with (first | ((with_reducible refine gate_callee (f := 32) rfl ?_); refine goesL_ (some 13) rfl rfl Tryz.func32 kr rfl #[.string a1] rfl sa ?_; (with_reducible refine (belvedereref10_May.calls k a1 _ _ A3.out).mono ?_); rintro e w' ⟨rfl, ⟨nd, rfl⟩⟩; refine ⟨_, rfl, ?_⟩) | ((with_reducible refine gate_callee (f := 21) rfl ?_); refine goesL_ (some 17) rfl rfl Tryz.func21 kr rfl #[.string a0] rfl sa ?_; (with_reducible refine (belvedereref10_List.calls k a0 _ _ _ A5.out).mono ?_); rintro e w8 ⟨v218, rfl, ho0, hb⟩; refine ⟨_, rfl, ?_⟩; have HO219 := As (Kd.R_lower ho0 (XZ (be HB.out))); replace HB := As (XT (be HB.out) hb); (try clear hb); (try clear hb2); (try clear hk); (try clear hi); (try clear ho0)))
  (try simp only [Act.put, List.setIfInBounds_toArray, List.set_cons_zero, List.set_cons_succ])
  go_cut [36] (fun v36 wc => ∃ (kq : Nat) (x36_6 : Bool), v36 = .bool x36_6 ∧ Aside0 (belvedereref10_Options.j0 kq a1 t216 x36_6 = some (r1, r2)) ∧ Aside0 (kq ≤ k) ∧ Aside0 (Kd.R Kd.string 9 wc w.heap.size (fun _ => True) v218 t216) ∧ Aside0 (Below w.heap.size w wc))
  case first =>
   have H := HC7.out;clear HC7
   by_cases c9 : (t216.length : Int) = 1
   focus
    rw [if_pos c9] at H;have c9b0 : ((t216.length : Int) == 1) = true := beq_iff_eq.mpr c9;have c9b1 : ((t216.length : Int) != 1) = false := bne_eq_false_iff_eq.mpr c9;clear c9
    (first | rw [c9b0] | (simp only [i64_w, i32_w]; rw [c9b0]) | skip)
    by_cases c10 : 0 < (t216.length : Int)
    rotate_left
    ·rw [if_neg c10] at H;exact absurd H (by simp)
    rw [if_pos c10] at H;have c10b0 : decide (0 < (t216.length : Int)) = true := dY c10;have c10b1 : decide (0 < t216.length) = true := dY (by omega);clear c10
    by_cases c11 : (rdOf ByteArray.empty t216 0).toList = ([110] : List UInt8)
    rw [if_pos c11] at H;have c11b0 : ((rdOf ByteArray.empty t216 0).toList == ([110] : List UInt8)) = true := beq_iff_eq.mpr c11;have c11b1 : ((rdOf ByteArray.empty t216 0).toList != ([110] : List UInt8)) = false := bne_eq_false_iff_eq.mpr c11;clear c11;replace H := bE H;obtain ⟨t221, A120, H⟩ := H;replace H : (belvedereref10_Options.j0 k a1 t216 (decide (t221 < 0))) = some (r1, r2) := H;have A12 := As A120;clear A120;have H' := As H;clear H;obtain ⟨Ao13, co13, eo13⟩ := Kd.R_slice HO219.out;subst eo13
    have p220 : 0 ≤ (0 : Int) := (by omega)
    have q220 : 0 < (t216.length : Int) := dT hy;obtain ⟨ad220, e220, hx220_0⟩ := Kd.at_string (RR HO219.out).2.2 0 p220 q220
    cases e220
    have qi220 : (0 < t216.length) = True := eq_true (by omega)
    (try rw [show ((0 : Int)).toNat = 0 from rfl] at hx220_0)
    (try rw [Addr.add_zero'] at hx220_0)
    replace p220 := eq_true p220;replace q220 := eq_true q220
    rotate_left
    rw [if_neg c11] at H;have c11b0 : ((rdOf ByteArray.empty t216 0).toList == ([110] : List UInt8)) = false := beq_eq_false_iff_ne.mpr c11;have c11b1 : ((rdOf ByteArray.empty t216 0).toList != ([110] : List UInt8)) = true := bne_iff_ne.mpr c11;have H' := As H;clear H;obtain ⟨Ao14, co14, eo14⟩ := Kd.R_slice HO219.out;subst eo14
    have p220 : 0 ≤ (0 : Int) := (by omega)
    have q220 : 0 < (t216.length : Int) := dT hy;obtain ⟨ad220, e220, hx220_0⟩ := Kd.at_string (RR HO219.out).2.2 0 p220 q220
    cases e220
    have qi220 : (0 < t216.length) = True := eq_true (by omega)
    (try rw [show ((0 : Int)).toNat = 0 from rfl] at hx220_0)
    (try rw [Addr.add_zero'] at hx220_0)
    replace p220 := eq_true p220;replace q220 := eq_true q220
    have m4_ := trivial
   rotate_left 2
   rw [if_neg c9] at H;have c9b0 : ((t216.length : Int) == 1) = false := beq_eq_false_iff_ne.mpr c9;have c9b1 : ((t216.length : Int) != 1) = true := bne_iff_ne.mpr c9
   (first | rw [c9b0] | (simp only [i64_w, i32_w]; rw [c9b0]) | skip)
   have H' := As H;clear H;obtain ⟨Ao15, co15, eo15⟩ := Kd.R_slice HO219.out;subst eo15
   have m3_ := trivial
   all_goals try
    first | (clear m3_; have m3_ := trivial) | (clear m4_; have m4_ := trivial)
    go_wp2
    go_meet
    case rel => exact ⟨_, (false), sw, H', ⟨by first | omega | exact Nat.le_refl _⟩, ⟨by (with_reducible repeat (first | apply RA | apply RN | apply RD)); exact HO219.out⟩, ⟨by repeat (first | (with_reducible first | exact HB.out | apply XA | apply XN | apply XD) | exact HB.out)⟩⟩
   ·go_wp2_with (first | (go_at_call 33; (with_reducible refine (belvedereref10_at.calls k a1 110 _ _ A12.out).mono ?_); rintro e w' ⟨rfl, ⟨nd, rfl⟩⟩))
    go_meet
    case rel => exact ⟨_, (decide (t221 < 0)), sw, H', ⟨by first | omega | exact Nat.le_refl _⟩, ⟨by (with_reducible repeat (first | apply RA | apply RN | apply RD)); exact HO219.out⟩, ⟨by repeat (first | (with_reducible first | exact HB.out | apply XA | apply XN | apply XD) | exact HB.out)⟩⟩
  case rest =>
   clear HC7
   try clear c1
   try clear c2
   try clear p2
   try clear q2
   try clear hx2
   try clear qi2
   try clear c3
   try clear c4
   try clear c6
   try clear c6b0
   try clear c6b1
   try clear p6
   try clear c9
   try clear c9b0
   try clear c9b1
   try clear c10
   try clear c10b0
   try clear c10b1
   try clear c11
   try clear c11b0
   try clear c11b1
   try clear hx220_0
   try clear p220
   try clear q220
   obtain ⟨kq, x36_6, rfl, HA, HJ6, HO_6, HB⟩ := hcut
   cases kq with
   | zero => exact absurd HA.out (by simp [belvedereref10_Options.j0])
   | succ kj6 =>
    have H := HA.out;clear HA;simp only [belvedereref10_Options.j0] at H
    by_cases c16 : x36_6 = true
    ·subst c16
     have H1 : (some (0, 0)) = some (r1, r2) := by rw [if_pos rfl] at H; exact H
     clear H;have H := H1;clear H1;simp only [Option.some.injEq, Prod.mk.injEq] at H;obtain ⟨rfl, rfl⟩ := H
     go_wp2
     go_ret2
     exact ⟨by first | rfl | (simp [errW_none, errW_some] <;> rfl) | (simp [*, errW_none, errW_some] <;> rfl), by repeat (first | (with_reducible first | exact HB.out | apply XA | apply XN | apply XD) | exact HB.out)⟩
    ·replace c16 := Bool.eq_false_iff.mpr c16;subst c16
     have H1 : (belvedereref10_Options.l0 kj6 a1 t216 0 0) = some (r1, r2) := by rw [if_neg (show ¬ (false = true) by decide)] at H; exact H
     clear H;have H := H1;clear H1;have H' := As H;clear H
     go_wp2
     go_loopg [8, 9] kj6 (fun kq v8 v9 w' => ∃ (x8_2 : Int) (x9_2 : Int), v8 = .int .i64 x8_2 ∧ v9 = .int .i64 x9_2 ∧ Aside0 (belvedereref10_Options.l0 kq a1 t216 x8_2 x9_2 = some (r1, r2)) ∧ Aside0 (kq ≤ kj6) ∧ Aside0 (Kd.R Kd.string 9 w' w.heap.size (fun _ => True) v218 t216) ∧ Aside0 (Below w.heap.size w w'))
     case atStart => exact ⟨(0), (0), sw, sw, H', ⟨Nat.le_refl _⟩, ⟨by (with_reducible repeat (first | apply RA | apply RN | apply RD)); exact HO_6.out⟩, ⟨by repeat (first | (with_reducible first | exact HB.out | apply XA | apply XN | apply XD) | exact HB.out)⟩⟩
     case round =>
      clear H'
      try clear c1
      try clear c2
      try clear p2
      try clear q2
      try clear hx2
      try clear qi2
      try clear c3
      try clear c4
      try clear c6
      try clear c6b0
      try clear c6b1
      try clear p6
      try clear c9
      try clear c9b0
      try clear c9b1
      try clear c10
      try clear c10b0
      try clear c10b1
      try clear c11
      try clear c11b0
      try clear c11b1
      try clear c16
      try clear hx220_0
      try clear p2
      try clear p220
      try clear p6
      try clear q2
      try clear q220
      obtain ⟨x8_2, x9_2, rfl, rfl, HA, HK2, HO_6, HB⟩ := hrel
      cases gk with
      | zero => exact absurd HA.out (by simp [belvedereref10_Options.l0])
      | succ k2 =>
       have H := HA.out;clear HA;simp only [belvedereref10_Options.l0] at H
       by_cases c17 : x9_2 < (t216.length : Int)
       ·rw [if_pos c17] at H;have c17b0 : decide (x9_2 < (t216.length : Int)) = true := dY c17;clear c17;have HC18 := As H;clear H;obtain ⟨Ao19, co19, eo19⟩ := Kd.R_slice HO_6.out;subst eo19
        go_upto_region 12 with (fail)
        go_cut [58] (fun v58 wc => ∃ (kq : Nat) (x58_17 : Bool), v58 = .bool x58_17 ∧ Aside0 (belvedereref10_Options.j2 kq a1 t216 x8_2 x9_2 x58_17 = some (r1, r2)) ∧ Aside0 (kq ≤ k2) ∧ Aside0 (Kd.R Kd.string 9 wc w.heap.size (fun _ => True) (.slice Ao19 t216.length co19) t216) ∧ Aside0 (Below w.heap.size w wc))
        case first =>
         have H := HC18.out;clear HC18
         by_cases c20 : 0 ≤ x9_2
         ·rw [if_pos c20] at H;have c20b0 : decide (0 ≤ x9_2) = true := dY c20;clear c20
          (first | rw [c20b0] | (simp only [i64_w, i32_w]; rw [c20b0]) | skip)
          by_cases c21 : ((rdOf ByteArray.empty t216 x9_2).size : Int) = 1
          ·rw [if_pos c21] at H;have c21b0 : (((rdOf ByteArray.empty t216 x9_2).size : Int) == 1) = true := beq_iff_eq.mpr c21;have c21b1 : (((rdOf ByteArray.empty t216 x9_2).size : Int) != 1) = false := bne_eq_false_iff_eq.mpr c21;clear c21
           by_cases c22 : 0 < ((rdOf ByteArray.empty t216 x9_2).size : Int)
           ·rw [if_pos c22] at H;have c22b0 : decide (0 < ((rdOf ByteArray.empty t216 x9_2).size : Int)) = true := dY c22;have c22b1 : decide (0 < (rdOf ByteArray.empty t216 x9_2).size) = true := dY (by omega);clear c22;replace H := bE H;obtain ⟨t224, A240, H⟩ := H;replace H : (belvedereref10_Options.j2 k2 a1 t216 x8_2 x9_2 (decide (t224 < 0))) = some (r1, r2) := H;have A24 := As A240;clear A240;have H' := As H;clear H;have p222 : 0 ≤ (x9_2 : Int) := dT hy;have q222 : x9_2 < (t216.length : Int) := dT hy;obtain ⟨ad222, e222, hx222_0⟩ := Kd.at_string (RR HO_6.out).2.2 x9_2 p222 q222
            cases e222
            replace p222 := eq_true p222;replace q222 := eq_true q222;have p223 : 0 ≤ (x9_2 : Int) := dT hy;have q223 : x9_2 < (t216.length : Int) := dT hy;obtain ⟨ad223, e223, hx223_0⟩ := Kd.at_string (RR HO_6.out).2.2 x9_2 p223 q223
            obtain rfl : ad222 = ad223 := (by injection e223)
            replace p223 := eq_true p223;replace q223 := eq_true q223
            have p23 : 0 ≤ (0 : Int) := (by omega)
            have q23 : 0 < (rdOf ByteArray.empty t216 x9_2).size := (by have : (0 : Int) < ((rdOf ByteArray.empty t216 x9_2).size : Int) := dT hy; omega)
            have hx23 : ∀ h : 0 < (rdOf ByteArray.empty t216 x9_2).size, (((rdOf ByteArray.empty t216 x9_2)[0]'h).toNat : Int) = bt (rdOf ByteArray.empty t216 x9_2) 0 := bt_at (rdOf ByteArray.empty t216 x9_2) 0;clear p23;have qi23 : (0 < ((rdOf ByteArray.empty t216 x9_2).size : Int)) = True := eq_true (dT hy);replace q23 := eq_true q23
            go_wp2_with (first | (go_at_call 33; (with_reducible refine (belvedereref10_at.calls k2 a1 (bt (rdOf ByteArray.empty t216 x9_2) 0) _ _ A24.out).mono ?_); rintro e w' ⟨rfl, ⟨nd, rfl⟩⟩))
            go_meet
            case rel => exact ⟨_, (decide (t224 < 0)), sw, H', ⟨by have := HJ6.out; have := HK2.out; first | omega | exact Nat.le_refl _⟩, ⟨by (with_reducible repeat (first | apply RA | apply RN | apply RD)); exact HO_6.out⟩, ⟨by repeat (first | (with_reducible first | exact HB.out | apply XA | apply XN | apply XD) | exact HB.out)⟩⟩
           ·rw [if_neg c22] at H;exact absurd H (by simp)
          ·rw [if_neg c21] at H;have c21b0 : (((rdOf ByteArray.empty t216 x9_2).size : Int) == 1) = false := beq_eq_false_iff_ne.mpr c21;have c21b1 : (((rdOf ByteArray.empty t216 x9_2).size : Int) != 1) = true := bne_iff_ne.mpr c21;have H' := As H;clear H;have p222 : 0 ≤ (x9_2 : Int) := dT hy;have q222 : x9_2 < (t216.length : Int) := dT hy;obtain ⟨ad222, e222, hx222_0⟩ := Kd.at_string (RR HO_6.out).2.2 x9_2 p222 q222
           cases e222
           replace p222 := eq_true p222;replace q222 := eq_true q222
           go_wp2
           go_meet
           case rel => exact ⟨_, (true), sw, H', ⟨by have := HJ6.out; have := HK2.out; first | omega | exact Nat.le_refl _⟩, ⟨by (with_reducible repeat (first | apply RA | apply RN | apply RD)); exact HO_6.out⟩, ⟨by repeat (first | (with_reducible first | exact HB.out | apply XA | apply XN | apply XD) | exact HB.out)⟩⟩
         ·rw [if_neg c20] at H;exact absurd H (by simp)
        case rest =>
         clear HC18
         try clear c1
         try clear c2
         try clear p2
         try clear q2
         try clear hx2
         try clear qi2
         try clear c3
         try clear c4
         try clear c6
         try clear c6b0
         try clear c6b1
         try clear p6
         try clear c9
         try clear c9b0
         try clear c9b1
         try clear c10
         try clear c10b0
         try clear c10b1
         try clear c11
         try clear c11b0
         try clear c11b1
         try clear c16
         try clear c17
         try clear c17b0
         try clear c20
         try clear c20b0
         try clear c21
         try clear c21b0
         try clear c21b1
         try clear c22
         try clear c22b0
         try clear c22b1
         try clear p22
         try clear q22
         try clear hx22
         try clear qi22
         try clear p23
         try clear q23
         try clear hx23
         try clear qi23
         try clear hx220_0
         try clear hx222_0
         try clear hx223_0
         try clear p2
         try clear p220
         try clear p222
         try clear p223
         try clear p23
         try clear p6
         try clear q2
         try clear q220
         try clear q222
         try clear q223
         try clear q23
         obtain ⟨kq, x58_17, rfl, HA, HJ17, HO_6, HB⟩ := hcut
         cases kq with
         | zero => exact absurd HA.out (by simp [belvedereref10_Options.j2])
         | succ kj17 =>
          have H := HA.out;clear HA;simp only [belvedereref10_Options.j2] at H
          by_cases c25 : x58_17 = true
          ·subst c25
           have H1 : (some (0, 3)) = some (r1, r2) := by rw [if_pos rfl] at H; exact H
           clear H;have H := H1;clear H1;simp only [Option.some.injEq, Prod.mk.injEq] at H;obtain ⟨rfl, rfl⟩ := H
           go_wp2
           go_ret2
           exact ⟨by first | rfl | (simp [errW_none, errW_some] <;> rfl) | (simp [*, errW_none, errW_some] <;> rfl), by repeat (first | (with_reducible first | exact HB.out | apply XA | apply XN | apply XD) | exact HB.out)⟩
          ·replace c25 := Bool.eq_false_iff.mpr c25;subst c25
           have H1 : (belvedereref10_Options.l1 kj17 a1 t216 x8_2 x9_2 1 0) = some (r1, r2) := by rw [if_neg (show ¬ (false = true) by decide)] at H; exact H
           clear H;have H := H1;clear H1;have H' := As H;clear H
           go_wp2
           go_loopg [10, 11] kj17 (fun kq v10 v11 w' => ∃ (x10_4 : Int) (x11_4 : Int), v10 = .int .i64 x10_4 ∧ v11 = .int .i64 x11_4 ∧ Aside0 (belvedereref10_Options.l1 kq a1 t216 x8_2 x9_2 x10_4 x11_4 = some (r1, r2)) ∧ Aside0 (kq ≤ kj17) ∧ Aside0 (Kd.R Kd.string 9 w' w.heap.size (fun _ => True) (.slice Ao19 t216.length co19) t216) ∧ Aside0 (Below w.heap.size w w'))
           case atStart => exact ⟨(1), (0), sw, sw, H', ⟨Nat.le_refl _⟩, ⟨by (with_reducible repeat (first | apply RA | apply RN | apply RD)); exact HO_6.out⟩, ⟨by repeat (first | (with_reducible first | exact HB.out | apply XA | apply XN | apply XD) | exact HB.out)⟩⟩
           case round =>
            clear H'
            try clear c1
            try clear c2
            try clear p2
            try clear q2
            try clear hx2
            try clear qi2
            try clear c3
            try clear c4
            try clear c6
            try clear c6b0
            try clear c6b1
            try clear p6
            try clear c9
            try clear c9b0
            try clear c9b1
            try clear c10
            try clear c10b0
            try clear c10b1
            try clear c11
            try clear c11b0
            try clear c11b1
            try clear c16
            try clear c17
            try clear c17b0
            try clear c20
            try clear c20b0
            try clear c21
            try clear c21b0
            try clear c21b1
            try clear c22
            try clear c22b0
            try clear c22b1
            try clear p22
            try clear q22
            try clear hx22
            try clear qi22
            try clear p23
            try clear q23
            try clear hx23
            try clear qi23
            try clear c25
            try clear hx220_0
            try clear hx222_0
            try clear hx223_0
            try clear p2
            try clear p22
            try clear p220
            try clear p222
            try clear p223
            try clear p23
            try clear p6
            try clear q2
            try clear q22
            try clear q220
            try clear q222
            try clear q223
            try clear q23
            obtain ⟨x10_4, x11_4, rfl, rfl, HA, HK4, HO_6, HB⟩ := hrel
            cases gk with
            | zero => exact absurd HA.out (by simp [belvedereref10_Options.l1])
            | succ k4 =>
             have H := HA.out;clear HA;simp only [belvedereref10_Options.l1] at H
             by_cases c26 : 0 ≤ x9_2
             rotate_left
             ·rw [if_neg c26] at H;exact absurd H (by simp)
             rw [if_pos c26] at H;have c26b0 : decide (0 ≤ x9_2) = true := dY c26;clear c26
             by_cases c27 : x9_2 < (t216.length : Int)
             rotate_left
             ·rw [if_neg c27] at H;exact absurd H (by simp)
             rw [if_pos c27] at H;have c27b0 : decide (x9_2 < (t216.length : Int)) = true := dY c27;clear c27
             by_cases c28 : 0 < ((rdOf ByteArray.empty t216 x9_2).size : Int)
             rotate_left
             ·rw [if_neg c28] at H;exact absurd H (by simp)
             rw [if_pos c28] at H;have c28b0 : decide (0 < ((rdOf ByteArray.empty t216 x9_2).size : Int)) = true := dY c28;have c28b1 : decide (0 < (rdOf ByteArray.empty t216 x9_2).size) = true := dY (by omega);clear c28;replace H := bE H;obtain ⟨t226, A300, H⟩ := H;replace H : (if x11_4 < t226 then (belvedereref10_Options.l1 k4 a1 t216 x8_2 x9_2 (wrap64 (2 * x10_4)) (wrap64 (x11_4 + 1))) else (belvedereref10_Options.l0 k4 a1 t216 (wrap64 (x8_2 + x10_4)) (wrap64 (x9_2 + 1)))) = some (r1, r2) := H;have A30 := As A300;clear A300
             by_cases c31 : x11_4 < t226
             rw [if_pos c31] at H;have c31b0 : decide (x11_4 < t226) = true := dY c31;clear c31;have H' := As H;clear H;have p225 : 0 ≤ (x9_2 : Int) := dT hy;have q225 : x9_2 < (t216.length : Int) := dT hy;obtain ⟨ad225, e225, hx225_0⟩ := Kd.at_string (RR HO_6.out).2.2 x9_2 p225 q225
             cases e225
             replace p225 := eq_true p225;replace q225 := eq_true q225
             have p29 : 0 ≤ (0 : Int) := (by omega)
             have q29 : 0 < (rdOf ByteArray.empty t216 x9_2).size := (by have : (0 : Int) < ((rdOf ByteArray.empty t216 x9_2).size : Int) := dT hy; omega)
             have hx29 : ∀ h : 0 < (rdOf ByteArray.empty t216 x9_2).size, (((rdOf ByteArray.empty t216 x9_2)[0]'h).toNat : Int) = bt (rdOf ByteArray.empty t216 x9_2) 0 := bt_at (rdOf ByteArray.empty t216 x9_2) 0;clear p29;have qi29 : (0 < ((rdOf ByteArray.empty t216 x9_2).size : Int)) = True := eq_true (dT hy);replace q29 := eq_true q29
             rotate_left
             rw [if_neg c31] at H;have c31b0 : decide (x11_4 < t226) = false := dN c31;clear c31;have H' := As H;clear H;have p225 : 0 ≤ (x9_2 : Int) := dT hy;have q225 : x9_2 < (t216.length : Int) := dT hy;obtain ⟨ad225, e225, hx225_0⟩ := Kd.at_string (RR HO_6.out).2.2 x9_2 p225 q225
             cases e225
             replace p225 := eq_true p225;replace q225 := eq_true q225
             have p29 : 0 ≤ (0 : Int) := (by omega)
             have q29 : 0 < (rdOf ByteArray.empty t216 x9_2).size := (by have : (0 : Int) < ((rdOf ByteArray.empty t216 x9_2).size : Int) := dT hy; omega)
             have hx29 : ∀ h : 0 < (rdOf ByteArray.empty t216 x9_2).size, (((rdOf ByteArray.empty t216 x9_2)[0]'h).toNat : Int) = bt (rdOf ByteArray.empty t216 x9_2) 0 := bt_at (rdOf ByteArray.empty t216 x9_2) 0;clear p29;have qi29 : (0 < ((rdOf ByteArray.empty t216 x9_2).size : Int)) = True := eq_true (dT hy);replace q29 := eq_true q29
             all_goals
              go_wp2_with (first | ((with_reducible refine gate_callee (f := 33) rfl ?_); refine goesL_ (some 66) rfl rfl Tryz.func33 kr rfl #[.string a1, .int .u8 (bt (rdOf ByteArray.empty t216 x9_2) 0)] rfl sa ?_; (with_reducible refine (belvedereref10_at.calls k4 a1 (bt (rdOf ByteArray.empty t216 x9_2) 0) _ _ A30.out).mono ?_); rintro e w' ⟨rfl, ⟨nd, rfl⟩⟩; refine ⟨_, rfl, ?_⟩))
              go_roundg k4
              case measure => have := HJ6.out; have := HK2.out; have := HJ17.out; have := HK4.out; omega
             ·case rel => exact ⟨(wrap64 (x8_2 + x10_4)), (wrap64 (x9_2 + 1)), sw, sw, H', ⟨by have := HJ6.out; have := HK2.out; have := HJ17.out; have := HK4.out; omega⟩, ⟨by (with_reducible repeat (first | apply RA | apply RN | apply RD)); exact HO_6.out⟩, ⟨by repeat (first | (with_reducible first | exact HB.out | apply XA | apply XN | apply XD) | exact HB.out)⟩⟩
             ·case rel => exact ⟨(wrap64 (2 * x10_4)), (wrap64 (x11_4 + 1)), sw, sw, H', ⟨by have := HJ6.out; have := HK2.out; have := HJ17.out; have := HK4.out; omega⟩, ⟨by (with_reducible repeat (first | apply RA | apply RN | apply RD)); exact HO_6.out⟩, ⟨by repeat (first | (with_reducible first | exact HB.out | apply XA | apply XN | apply XD) | exact HB.out)⟩⟩
       ·rw [if_neg c17] at H;have c17b0 : decide (x9_2 < (t216.length : Int)) = false := dN c17;clear c17;simp only [Option.some.injEq, Prod.mk.injEq] at H;obtain ⟨rfl, rfl⟩ := H;obtain ⟨Ao32, co32, eo32⟩ := Kd.R_slice HO_6.out;subst eo32
        go_wp2
        go_ret2
        exact ⟨by first | rfl | (simp [errW_none, errW_some] <;> rfl) | (simp [*, errW_none, errW_some] <;> rfl), by repeat (first | (with_reducible first | exact HB.out | apply XA | apply XN | apply XD) | exact HB.out)⟩

end Go.Proofs.YtahjnjlkpbjfnaaGreatDoor.P
-- SHRUNK
-- PACKED
-- PACKED2
