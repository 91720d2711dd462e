-- written by myprint.py (this claim's own program, after the kit's print)
import Derived.Test.YtdakfmldbddokaaGreatDoorPx0
import Derived.Test.YtdakfmldbddokaaGreatDoorVaInt
import Derived.Test.YtdakfmldbddokaaGreatDoorVaList
import Derived.Test.YtdakfmldbddokaaGreatDoorVaMay
import Derived.Test.YtdakfmldbddokaaGreatDoorVaShelf
import Derived.Test.YtdakfmldbddokaaGreatDoorPack
namespace Go.Proofs.YtdakfmldbddokaaGreatDoor.P
open Go.RowKit Go.Proofs.YtdakfmldbddokaaGreatDoorW.PrintWords Go.Proofs.YtdakfmldbddokaaGreatDoorW.PrintLast Go.Proofs.YtdakfmldbddokaaGreatDoorW.PrintMore
attribute [local go_sem] max2_int min2_int max_two min_two max_three min_three max_four min_four   -- for this text's walks alone
set_option linter.unusedVariables false
set_option linter.unusedSimpArgs false

/-! ### oO: function 40 -/
mutual
def oO.j0 : Nat → ByteArray → List ByteArray → Bool → Option (Int × Option Int)
 | 0, _, _, _ => none
 | k + 1, x1, x6, x37 => if x37 = true then (some (0, none)) else (oO.l0 k x1 0 x6 (x6.length : Int) 0)
def oO.l0 : Nat → ByteArray → Int → List ByteArray → Int → Int → Option (Int × Option Int)
 | 0, _, _, _, _, _ => none
 | k + 1, x1, x8, x38, x39, x40 => if x40 < x39 then (if 0 ≤ x40 then (if x40 < (x38.length : Int) then ((stI.f x1 (rdOf ByteArray.empty x38 x40)).bind fun t161 => (if t161 < 0 then (some (0, some 3)) else (if ((rdOf ByteArray.empty x38 x40).size : Int) = 1 then (if 0 ≤ t161 then (oO.l0 k x1 (Go.bits .or .i64 x8 (shl .i64 1 t161)) x38 x39 (wrap64 (x40 + 1))) else (none)) else (some (0, some 3))))) else (none)) else (none)) else (some (x8, none))
end
def oO.f (k : Nat) (a0 : ByteArray) (a1 : ByteArray) : Option (Int × Option Int) := (vMay.f a1).bind fun t152 => (if t152 = true then ((vLst.f a0).bind fun bt153 => (if bt153.2.isNone = true then (if (bt153.1.length : Int) = 1 then (if 0 < (bt153.1.length : Int) then (if (rdOf ByteArray.empty bt153.1 0).toList = ([110] : List UInt8) then ((stC.f a1 (⟨#[110]⟩ : ByteArray)).bind fun t159 => (oO.j0 k a1 bt153.1 (!t159))) else (oO.j0 k a1 bt153.1 false)) else (none)) else (oO.j0 k a1 bt153.1 false)) else (some (0, some (bt153.2.getD 0))))) else (some (0, some 1)))
theorem oO.mono_l : ∀ k, (∀ y0 y1 y2, LeO (oO.j0 k y0 y1 y2) (oO.j0 (k + 1) y0 y1 y2)) ∧ (∀ y0 y1 y2 y3 y4, LeO (oO.l0 k y0 y1 y2 y3 y4) (oO.l0 (k + 1) y0 y1 y2 y3 y4))
 | 0 => ⟨fun _ _ _ r h => by simp [oO.j0] at h, fun _ _ _ _ _ r h => by simp [oO.l0] at h⟩
 | k + 1 => by
  obtain ⟨ih0, ih1⟩ := oO.mono_l k;refine ⟨?_, ?_⟩
  ·intro y0 y1 y2;unfold oO.j0
   repeat' (with_reducible first|apply ih0|apply ih1|apply LeO.refl|apply LeO.none|refine LeO.ite ?_ ?_|refine LeO.bind ?_ (fun _=>?_))
  ·intro y0 y1 y2 y3 y4;unfold oO.l0
   repeat' (with_reducible first|apply ih0|apply ih1|apply LeO.refl|apply LeO.none|refine LeO.ite ?_ ?_|refine LeO.bind ?_ (fun _=>?_))
theorem oO.mono : ∀ a0 a1 k, LeO (oO.f k a0 a1) (oO.f (k + 1) a0 a1) := by
 intro a0 a1 k;obtain ⟨ih0, ih1⟩ := oO.mono_l k;unfold oO.f
 repeat' (with_reducible first|apply ih0|apply ih1|apply LeO.refl|apply LeO.none|refine LeO.ite ?_ ?_|refine LeO.bind ?_ (fun _=>?_))
set_option maxHeartbeats 8000000 in
set_option maxRecDepth 100000 in
theorem oO.calls (k : Nat) (a0 : ByteArray) (a1 : ByteArray) (r1 : Int) (r2 : Option Int) (w : World) (h : oO.f k a0 a1 = some (r1, r2)) (hG : GL w) :
  Calls Tryz.prog 40 #[.string a0, .string a1] w fun e w' => e = .returned (.tuple #[.int .i64 r1, errW r2]) ∧ Below w.heap.size w w' := by
 have hu27 := Tryz.underlying27;have hu45 := Tryz.underlying45;have HB := As (Below.refl w.heap.size w);have H : ((vMay.f a1).bind fun t152 => (if t152 = true then ((vLst.f a0).bind fun bt153 => (if bt153.2.isNone = true then (if (bt153.1.length : Int) = 1 then (if 0 < (bt153.1.length : Int) then (if (rdOf ByteArray.empty bt153.1 0).toList = ([110] : List UInt8) then ((stC.f a1 (⟨#[110]⟩ : ByteArray)).bind fun t159 => (oO.j0 k a1 bt153.1 (!t159))) else (oO.j0 k a1 bt153.1 false)) else (none)) else (oO.j0 k a1 bt153.1 false)) else (some (0, some (bt153.2.getD 0))))) else (some (0, some 1)))) = some (r1, r2) := h;clear h;replace H := bE H;obtain ⟨t152, A30, H⟩ := H;replace H : (if t152 = true then ((vLst.f a0).bind fun bt153 => (if bt153.2.isNone = true then (if (bt153.1.length : Int) = 1 then (if 0 < (bt153.1.length : Int) then (if (rdOf ByteArray.empty bt153.1 0).toList = ([110] : List UInt8) then ((stC.f a1 (⟨#[110]⟩ : ByteArray)).bind fun t159 => (oO.j0 k a1 bt153.1 (!t159))) else (oO.j0 k a1 bt153.1 false)) else (none)) else (oO.j0 k a1 bt153.1 false)) else (some (0, some (bt153.2.getD 0))))) else (some (0, some 1))) = some (r1, r2) := H;have A3 := As A30;clear A30
 by_cases c4 : t152 = true
 focus
  subst c4
  have H1 : ((vLst.f a0).bind fun bt153 => (if bt153.2.isNone = true then (if (bt153.1.length : Int) = 1 then (if 0 < (bt153.1.length : Int) then (if (rdOf ByteArray.empty bt153.1 0).toList = ([110] : List UInt8) then ((stC.f a1 (⟨#[110]⟩ : ByteArray)).bind fun t159 => (oO.j0 k a1 bt153.1 (!t159))) else (oO.j0 k a1 bt153.1 false)) else (none)) else (oO.j0 k a1 bt153.1 false)) else (some (0, some (bt153.2.getD 0))))) = some (r1, r2) := by rw [if_pos rfl] at H; exact H
  clear H;have H := H1;clear H1;replace H := bE H;obtain ⟨⟨t153, t154⟩, A50, H⟩ := H;replace H : (if t154.isNone = true then (if (t153.length : Int) = 1 then (if 0 < (t153.length : Int) then (if (rdOf ByteArray.empty t153 0).toList = ([110] : List UInt8) then ((stC.f a1 (⟨#[110]⟩ : ByteArray)).bind fun t159 => (oO.j0 k a1 t153 (!t159))) else (oO.j0 k a1 t153 false)) else (none)) else (oO.j0 k a1 t153 false)) else (some (0, some (t154.getD 0)))) = some (r1, r2) := H;have A5 := As A50;clear A50
  rcases t154 with _ | q157
  have H1 : (if (t153.length : Int) = 1 then (if 0 < (t153.length : Int) then (if (rdOf ByteArray.empty t153 0).toList = ([110] : List UInt8) then ((stC.f a1 (⟨#[110]⟩ : ByteArray)).bind fun t159 => (oO.j0 k a1 t153 (!t159))) else (oO.j0 k a1 t153 false)) else (none)) else (oO.j0 k a1 t153 false)) = some (r1, r2) := by rw [if_pos no0] at H; exact H
  clear H;have H := H1;clear H1
  try simp only [errW_none, errW_some]
  have HC6 := As H;clear H
  rotate_left
  have H1 : (some (0, some q157)) = some (r1, r2) := by rw [if_neg (show ¬ (some q157).isNone = true by simp)] at H; exact H
  clear H;have H := H1;clear H1
  try simp only [errW_none, errW_some]
  simp only [Option.some.injEq, Prod.mk.injEq] at H;obtain ⟨rfl, rfl⟩ := H
  have m1_ := trivial
 rotate_left 2
 replace c4 := Bool.eq_false_iff.mpr c4;subst c4
 have H1 : (some (0, some 1)) = some (r1, r2) := by rw [if_neg (show ¬ (false = true) by decide)] at H; exact H
 clear H;have H := H1;clear H1;simp only [Option.some.injEq, Prod.mk.injEq] at H;obtain ⟨rfl, rfl⟩ := H
 have m2_ := trivial
 all_goals go_enter Tryz.func40, Tryz.ntmps40
 all_goals try
  first | (clear m1_; have m1_ := trivial) | (clear m2_; have m2_ := trivial)
  go_wp2_with (first | ((with_reducible refine gate_callee (f := 31) rfl ?_); refine goesL_ (some 13) rfl rfl Tryz.func31 kr rfl #[.string a1] rfl sa ?_; (with_reducible refine (vMay.calls a1 _ _ A3.out).mono ?_); rintro e w26 ⟨rfl, hb⟩; refine ⟨_, rfl, ?_⟩; replace HB := As (XT (be HB.out) hb); (try clear hb); (try clear hb2); (try clear hk); (try clear hi)) | ((with_reducible refine gate_callee (f := 66) rfl ?_); refine goesL_ (some 18) rfl rfl Tryz.func66 kr rfl #[.string a0] rfl sa ?_; (with_reducible refine (vLst.calls a0 _ _ _ A5.out).mono ?_); rintro e w27 ⟨v155, rfl, ho0, hb⟩; refine ⟨_, rfl, ?_⟩; have HO156 := As (Kd.R_lower ho0 (XZ (be HB.out))); replace HB := As (XT (be HB.out) hb); (try clear hb); (try clear hb2); (try clear hk); (try clear hi); (try clear ho0); (try simp only [errW_none, errW_some])))
  go_ret2
  exact ⟨by first | rfl | (simp [errW_none, errW_some] <;> rfl) | (simp [*, errW_none, errW_some] <;> rfl), by repeat (first | (with_reducible first | exact HB.out | apply XA | apply XN | apply XD) | exact HB.out)⟩
 ·go_upto_region 6 with (first | ((with_reducible refine gate_callee (f := 31) rfl ?_); refine goesL_ (some 13) rfl rfl Tryz.func31 kr rfl #[.string a1] rfl sa ?_; (with_reducible refine (vMay.calls a1 _ _ A3.out).mono ?_); rintro e w7 ⟨rfl, hb⟩; refine ⟨_, rfl, ?_⟩; replace HB := As (XT (be HB.out) hb); (try clear hb); (try clear hb2); (try clear hk); (try clear hi)) | ((with_reducible refine gate_callee (f := 66) rfl ?_); refine goesL_ (some 18) rfl rfl Tryz.func66 kr rfl #[.string a0] rfl sa ?_; (with_reducible refine (vLst.calls a0 _ _ _ A5.out).mono ?_); rintro e w8 ⟨v155, rfl, ho0, hb⟩; refine ⟨_, rfl, ?_⟩; have HO156 := As (Kd.R_lower ho0 (XZ (be HB.out))); replace HB := As (XT (be HB.out) hb); (try clear hb); (try clear hb2); (try clear hk); (try clear hi); (try clear ho0); (try simp only [errW_none, errW_some])))
  (try simp only [Act.put, List.setIfInBounds_toArray, List.set_cons_zero, List.set_cons_succ])
  go_cut [37] (fun v37 wc => ∃ (kq : Nat) (x37_5 : Bool), v37 = .bool x37_5 ∧ Aside0 (oO.j0 kq a1 t153 x37_5 = some (r1, r2)) ∧ Aside0 (kq ≤ k) ∧ Aside0 (Kd.R Kd.string 9 wc w.heap.size (fun _ => True) v155 t153) ∧ Aside0 (Below w.heap.size w wc))
  case first =>
   have H := HC6.out;clear HC6
   by_cases c9 : (t153.length : Int) = 1
   focus
    rw [if_pos c9] at H;have c9b0 : ((t153.length : Int) == 1) = true := beq_iff_eq.mpr c9;have c9b1 : ((t153.length : Int) != 1) = false := bne_eq_false_iff_eq.mpr c9;clear c9
    (first | rw [c9b0] | (simp only [i64_w, i32_w]; rw [c9b0]) | skip)
    by_cases c10 : 0 < (t153.length : Int)
    rotate_left
    ·rw [if_neg c10] at H;exact absurd H (by simp)
    rw [if_pos c10] at H;have c10b0 : decide (0 < (t153.length : Int)) = true := dY c10;have c10b1 : decide (0 < t153.length) = true := dY (by omega);clear c10
    by_cases c11 : (rdOf ByteArray.empty t153 0).toList = ([110] : List UInt8)
    rw [if_pos c11] at H;have c11b0 : ((rdOf ByteArray.empty t153 0).toList == ([110] : List UInt8)) = true := beq_iff_eq.mpr c11;have c11b1 : ((rdOf ByteArray.empty t153 0).toList != ([110] : List UInt8)) = false := bne_eq_false_iff_eq.mpr c11;clear c11;replace H := bE H;obtain ⟨t159, A120, H⟩ := H;replace H : (oO.j0 k a1 t153 (!t159)) = some (r1, r2) := H;have A12 := As A120;clear A120;have H' := As H;clear H;obtain ⟨Ao13, co13, eo13⟩ := Kd.R_slice HO156.out;subst eo13
    have p158 : 0 ≤ (0 : Int) := (by omega)
    have q158 : 0 < (t153.length : Int) := dT hy;obtain ⟨ad158, e158, hx158_0⟩ := Kd.at_string (RR HO156.out).2.2 0 p158 q158
    cases e158
    have qi158 : (0 < t153.length) = True := eq_true (by omega)
    (try rw [show ((0 : Int)).toNat = 0 from rfl] at hx158_0)
    (try rw [Addr.add_zero'] at hx158_0)
    replace p158 := eq_true p158;replace q158 := eq_true q158
    rotate_left
    rw [if_neg c11] at H;have c11b0 : ((rdOf ByteArray.empty t153 0).toList == ([110] : List UInt8)) = false := beq_eq_false_iff_ne.mpr c11;have c11b1 : ((rdOf ByteArray.empty t153 0).toList != ([110] : List UInt8)) = true := bne_iff_ne.mpr c11;have H' := As H;clear H;obtain ⟨Ao14, co14, eo14⟩ := Kd.R_slice HO156.out;subst eo14
    have p158 : 0 ≤ (0 : Int) := (by omega)
    have q158 : 0 < (t153.length : Int) := dT hy;obtain ⟨ad158, e158, hx158_0⟩ := Kd.at_string (RR HO156.out).2.2 0 p158 q158
    cases e158
    have qi158 : (0 < t153.length) = True := eq_true (by omega)
    (try rw [show ((0 : Int)).toNat = 0 from rfl] at hx158_0)
    (try rw [Addr.add_zero'] at hx158_0)
    replace p158 := eq_true p158;replace q158 := eq_true q158
    have m4_ := trivial
   rotate_left 2
   rw [if_neg c9] at H;have c9b0 : ((t153.length : Int) == 1) = false := beq_eq_false_iff_ne.mpr c9;have c9b1 : ((t153.length : Int) != 1) = true := bne_iff_ne.mpr c9
   (first | rw [c9b0] | (simp only [i64_w, i32_w]; rw [c9b0]) | skip)
   have H' := As H;clear H;obtain ⟨Ao15, co15, eo15⟩ := Kd.R_slice HO156.out;subst eo15
   have m3_ := trivial
   all_goals try
    first | (clear m3_; have m3_ := trivial) | (clear m4_; have m4_ := trivial)
    go_wp2
    go_meet
    case rel => exact ⟨_, (false), sw, H', ⟨by first | omega | exact Nat.le_refl _⟩, ⟨by (with_reducible repeat (first | apply RA | apply RN | apply RD)); exact HO156.out⟩, ⟨by repeat (first | (with_reducible first | exact HB.out | apply XA | apply XN | apply XD) | exact HB.out)⟩⟩
   ·go_wp2_with (first | (go_at_call 32; (with_reducible refine (stC.calls a1 (⟨#[110]⟩ : ByteArray) t159 _ A12.out ?side1).mono ?_); (case side1 => first | exact hG | exact GL.below hG (be HB.out) | (repeat (first | exact hG | apply GL.drewN | apply GL.drew | apply GL.alloc))); rintro e w' ⟨rfl, ⟨nd, rfl⟩⟩))
    go_meet
    case rel => exact ⟨_, (!t159), sw, H', ⟨by first | omega | exact Nat.le_refl _⟩, ⟨by (with_reducible repeat (first | apply RA | apply RN | apply RD)); exact HO156.out⟩, ⟨by repeat (first | (with_reducible first | exact HB.out | apply XA | apply XN | apply XD) | exact HB.out)⟩⟩
  case rest =>
   clear HC6
   try clear c1
   try clear p1
   try clear q1
   try clear hx1
   try clear qi1
   try clear p2
   try clear c3
   try clear c4
   try clear c6
   try clear p6
   try clear c9
   try clear c9b0
   try clear c9b1
   try clear c10
   try clear c10b0
   try clear c10b1
   try clear c11
   try clear c11b0
   try clear c11b1
   try clear p15
   try clear q15
   try clear hx15
   try clear qi15
   try clear hx158_0
   try clear p158
   try clear q157
   try clear q158
   obtain ⟨kq, x37_5, rfl, HA, HJ5, HO_6, HB⟩ := hcut
   cases kq with
   | zero => exact absurd HA.out (by simp [oO.j0])
   | succ kj5 =>
    have H := HA.out;clear HA;simp only [oO.j0] at H
    by_cases c16 : x37_5 = true
    ·subst c16
     have H1 : (some (0, none)) = some (r1, r2) := by rw [if_pos rfl] at H; exact H
     clear H;have H := H1;clear H1;simp only [Option.some.injEq, Prod.mk.injEq] at H;obtain ⟨rfl, rfl⟩ := H
     go_wp2
     go_ret2
     exact ⟨by first | rfl | (simp [errW_none, errW_some] <;> rfl) | (simp [*, errW_none, errW_some] <;> rfl), by repeat (first | (with_reducible first | exact HB.out | apply XA | apply XN | apply XD) | exact HB.out)⟩
    ·replace c16 := Bool.eq_false_iff.mpr c16;subst c16
     have H1 : (oO.l0 kj5 a1 0 t153 (t153.length : Int) 0) = some (r1, r2) := by rw [if_neg (show ¬ (false = true) by decide)] at H; exact H
     clear H;have H := H1;clear H1;have H' := As H;clear H;obtain ⟨Ao17, co17, eo17⟩ := Kd.R_slice HO_6.out;subst eo17
     go_wp2
     go_loopg [8, 40] kj5 (fun kq v8 v40 w' => ∃ (x8_2 : Int) (x40_2 : Int), v8 = .int .i64 x8_2 ∧ v40 = .int .i64 x40_2 ∧ Aside0 (oO.l0 kq a1 x8_2 t153 (t153.length : Int) x40_2 = some (r1, r2)) ∧ Aside0 (kq ≤ kj5) ∧ Aside0 (Kd.R Kd.string 9 w' w.heap.size (fun _ => True) (.slice Ao17 t153.length co17) t153) ∧ Aside0 (Below w.heap.size w w'))
     case atStart => exact ⟨(0), (0), sw, sw, H', ⟨Nat.le_refl _⟩, ⟨by (with_reducible repeat (first | apply RA | apply RN | apply RD)); exact HO_6.out⟩, ⟨by repeat (first | (with_reducible first | exact HB.out | apply XA | apply XN | apply XD) | exact HB.out)⟩⟩
     case round =>
      clear H'
      try clear c1
      try clear p1
      try clear q1
      try clear hx1
      try clear qi1
      try clear p2
      try clear c3
      try clear c4
      try clear c6
      try clear p6
      try clear c9
      try clear c9b0
      try clear c9b1
      try clear c10
      try clear c10b0
      try clear c10b1
      try clear c11
      try clear c11b0
      try clear c11b1
      try clear p15
      try clear q15
      try clear hx15
      try clear qi15
      try clear c16
      try clear hx158_0
      try clear p1
      try clear p15
      try clear p158
      try clear p2
      try clear p6
      try clear q1
      try clear q15
      try clear q157
      try clear q158
      obtain ⟨x8_2, x40_2, rfl, rfl, HA, HK2, HO_38, HB⟩ := hrel
      cases gk with
      | zero => exact absurd HA.out (by simp [oO.l0])
      | succ k2 =>
       have H := HA.out;clear HA;simp only [oO.l0] at H
       by_cases c18 : x40_2 < (t153.length : Int)
       focus
        rw [if_pos c18] at H;have c18b0 : decide (x40_2 < (t153.length : Int)) = true := dY c18;clear c18
        by_cases c19 : 0 ≤ x40_2
        rotate_left
        ·rw [if_neg c19] at H;exact absurd H (by simp)
        rw [if_pos c19] at H;have c19b0 : decide (0 ≤ x40_2) = true := dY c19;clear c19
        by_cases c20 : x40_2 < (t153.length : Int)
        rotate_left
        ·rw [if_neg c20] at H;exact absurd H (by simp)
        rw [if_pos c20] at H;have c20b0 : decide (x40_2 < (t153.length : Int)) = true := dY c20;clear c20;replace H := bE H;obtain ⟨t161, A210, H⟩ := H;replace H : (if t161 < 0 then (some (0, some 3)) else (if ((rdOf ByteArray.empty t153 x40_2).size : Int) = 1 then (if 0 ≤ t161 then (oO.l0 k2 a1 (Go.bits .or .i64 x8_2 (shl .i64 1 t161)) t153 (t153.length : Int) (wrap64 (x40_2 + 1))) else (none)) else (some (0, some 3)))) = some (r1, r2) := H;have A21 := As A210;clear A210
        by_cases c22 : t161 < 0
        rw [if_pos c22] at H;have c22b0 : decide (t161 < 0) = true := dY c22;clear c22;simp only [Option.some.injEq, Prod.mk.injEq] at H;obtain ⟨rfl, rfl⟩ := H;have p160 : 0 ≤ (x40_2 : Int) := dT hy;have q160 : x40_2 < (t153.length : Int) := dT hy;obtain ⟨ad160, e160, hx160_0⟩ := Kd.at_string (RR HO_38.out).2.2 x40_2 p160 q160
        cases e160
        replace p160 := eq_true p160;replace q160 := eq_true q160
        have m7_ := trivial
        rotate_left
        focus
         rw [if_neg c22] at H;have c22b0 : decide (t161 < 0) = false := dN c22;clear c22
         by_cases c23 : ((rdOf ByteArray.empty t153 x40_2).size : Int) = 1
         focus
          rw [if_pos c23] at H;have c23b0 : (((rdOf ByteArray.empty t153 x40_2).size : Int) == 1) = true := beq_iff_eq.mpr c23;have c23b1 : (((rdOf ByteArray.empty t153 x40_2).size : Int) != 1) = false := bne_eq_false_iff_eq.mpr c23;clear c23
          by_cases c24 : 0 ≤ t161
          rotate_left
          ·rw [if_neg c24] at H;exact absurd H (by simp)
          rw [if_pos c24] at H;have c24b0 := eq_true c24;have c24b1 : decide (0 ≤ t161) = true := dY c24;clear c24
          obtain ⟨ji25, hji25⟩ : ∃ j_ : Int, (shl .i64 1 t161) = j_ := ⟨_, rfl⟩
          replace H : (oO.l0 k2 a1 (Go.bits .or .i64 x8_2 (ji25)) t153 (t153.length : Int) (wrap64 (x40_2 + 1))) = some (r1, r2) := by first | (rw [hji25] at H; exact H) | (simp only [hji25] at H ⊢; exact H)
          (try rw [hji25] at A21)
          have hji25_ : (IntKind.i64.wrap (1 * 2 ^ min t161.toNat 64)) = ji25 := hji25;have hji25z : t161 ≤ 64 → (IntKind.i64.wrap (1 * 2 ^ t161.toNat)) = ji25 := shl_small hji25
          have hji25u : (IntKind.i64.wrap (2 ^ min t161.toNat 64)) = ji25 := by have h_ := hji25_; rw [Int.one_mul] at h_; exact h_
          have hji25v : t161 ≤ 64 → (IntKind.i64.wrap (2 ^ t161.toNat)) = ji25 := fun hle_ => by have h_ := hji25z hle_; rw [Int.one_mul] at h_; exact h_
          have hji25y : (wrap64 (1 * 2 ^ min t161.toNat 64)) = ji25 := (i64_w _).symm.trans hji25_
          have hji25x : t161 ≤ 64 → (wrap64 (1 * 2 ^ t161.toNat)) = ji25 := fun h_ => (i64_w _).symm.trans (hji25z h_)
          have H' := As H;clear H;have p160 : 0 ≤ (x40_2 : Int) := dT hy;have q160 : x40_2 < (t153.length : Int) := dT hy;obtain ⟨ad160, e160, hx160_0⟩ := Kd.at_string (RR HO_38.out).2.2 x40_2 p160 q160
          cases e160
          replace p160 := eq_true p160;replace q160 := eq_true q160
          have m6_ := trivial
         rotate_left
         rw [if_neg c23] at H;have c23b0 : (((rdOf ByteArray.empty t153 x40_2).size : Int) == 1) = false := beq_eq_false_iff_ne.mpr c23;have c23b1 : (((rdOf ByteArray.empty t153 x40_2).size : Int) != 1) = true := bne_iff_ne.mpr c23;simp only [Option.some.injEq, Prod.mk.injEq] at H;obtain ⟨rfl, rfl⟩ := H;have p160 : 0 ≤ (x40_2 : Int) := dT hy;have q160 : x40_2 < (t153.length : Int) := dT hy;obtain ⟨ad160, e160, hx160_0⟩ := Kd.at_string (RR HO_38.out).2.2 x40_2 p160 q160
         cases e160
         replace p160 := eq_true p160;replace q160 := eq_true q160
         have m5_ := trivial
       rotate_left 3
       rw [if_neg c18] at H;have c18b0 : decide (x40_2 < (t153.length : Int)) = false := dN c18;clear c18;simp only [Option.some.injEq, Prod.mk.injEq] at H;obtain ⟨rfl, rfl⟩ := H
       all_goals try
        first | (clear m5_; have m5_ := trivial) | (clear m6_; have m6_ := trivial) | (clear m7_; have m7_ := trivial)
        go_wp2_with (first | ((with_reducible refine gate_callee (f := 58) rfl ?_); refine goesL_ (some 46) rfl rfl Tryz.func58 kr rfl #[.string a1, .string (rdOf ByteArray.empty t153 x40_2)] rfl sa ?_; (with_reducible refine (stI.calls a1 (rdOf ByteArray.empty t153 x40_2) t161 _ A21.out ?side1).mono ?_); (case side1 => first | exact hG | exact GL.below hG (be HB.out) | (repeat (first | exact hG | apply GL.drewN | apply GL.drew | apply GL.alloc))); rintro e w' ⟨rfl, ⟨nd, rfl⟩⟩; refine ⟨_, rfl, ?_⟩))
       all_goals try
        first | (clear m5_; have m5_ := trivial) | (clear m7_; have m7_ := trivial)
        go_ret2
        exact ⟨by first | rfl | (simp [errW_none, errW_some] <;> rfl) | (simp [*, errW_none, errW_some] <;> rfl), by repeat (first | (with_reducible first | exact HB.out | apply XA | apply XN | apply XD) | exact HB.out)⟩
       ·go_wp2
        go_ret2
        exact ⟨by first | rfl | (simp [errW_none, errW_some] <;> rfl) | (simp [*, errW_none, errW_some] <;> rfl), by repeat (first | (with_reducible first | exact HB.out | apply XA | apply XN | apply XD) | exact HB.out)⟩
       ·go_roundg k2
        case measure => have := HJ5.out; have := HK2.out; omega
        case rel => exact ⟨(Go.bits .or .i64 x8_2 (ji25)), (wrap64 (x40_2 + 1)), (by first | rfl | (simp; done) | (simp only [← hji25] <;> (first | rfl | simp)) | (simp [*]; done)), sw, H', ⟨by have := HJ5.out; have := HK2.out; omega⟩, ⟨by (with_reducible repeat (first | apply RA | apply RN | apply RD)); exact HO_38.out⟩, ⟨by repeat (first | (with_reducible first | exact HB.out | apply XA | apply XN | apply XD) | exact HB.out)⟩⟩

/-! ### cR: function 23 -/
def cR.f (k : Nat) (a0 : Int) (a1 : ByteArray) : Option (Int × Option Int) := if a0 = 1 then ((vInt.f a1 0 1).bind fun bt162 => (some (bt162.1, bt162.2))) else (if a0 = 2 then ((vInt.f a1 0 2147483648).bind fun bt164 => (some (bt164.1, bt164.2))) else (if a0 = 3 then ((vInt.f a1 0 4611686018427387904).bind fun bt166 => (some (bt166.1, bt166.2))) else (if a0 = 4 then ((vInt.f a1 0 34560000).bind fun bt168 => (some (bt168.1, bt168.2))) else (if a0 = 5 then ((vInt.f a1 1 2147483648).bind fun bt170 => (some (bt170.1, bt170.2))) else (if a0 = 6 then ((oO.f k a1 (⟨#[97, 99, 102]⟩ : ByteArray)).bind fun bt172 => (some (bt172.1, bt172.2))) else (if a0 = 7 then ((vInt.f a1 0 3).bind fun bt174 => (some (bt174.1, bt174.2))) else ((vInt.f a1 0 255).bind fun bt176 => (some (bt176.1, bt176.2)))))))))
theorem cR.mono : ∀ a0 a1 k, LeO (cR.f k a0 a1) (cR.f (k + 1) a0 a1) := by
 intro a0 a1 k;unfold cR.f
 repeat' (with_reducible first|apply oO.mono|apply LeO.refl|apply LeO.none|refine LeO.ite ?_ ?_|refine LeO.bind ?_ (fun _=>?_))
set_option maxHeartbeats 8000000 in
set_option maxRecDepth 100000 in
theorem cR.calls (k : Nat) (a0 : Int) (a1 : ByteArray) (r1 : Int) (r2 : Option Int) (w : World) (h : cR.f k a0 a1 = some (r1, r2)) (hG : GL w) :
  Calls Tryz.prog 23 #[.int .i64 a0, .string a1] w fun e w' => e = .returned (.tuple #[.int .i64 r1, errW r2]) ∧ Below w.heap.size w w' := by
 have HB := As (Below.refl w.heap.size w);have H : (if a0 = 1 then ((vInt.f a1 0 1).bind fun bt162 => (some (bt162.1, bt162.2))) else (if a0 = 2 then ((vInt.f a1 0 2147483648).bind fun bt164 => (some (bt164.1, bt164.2))) else (if a0 = 3 then ((vInt.f a1 0 4611686018427387904).bind fun bt166 => (some (bt166.1, bt166.2))) else (if a0 = 4 then ((vInt.f a1 0 34560000).bind fun bt168 => (some (bt168.1, bt168.2))) else (if a0 = 5 then ((vInt.f a1 1 2147483648).bind fun bt170 => (some (bt170.1, bt170.2))) else (if a0 = 6 then ((oO.f k a1 (⟨#[97, 99, 102]⟩ : ByteArray)).bind fun bt172 => (some (bt172.1, bt172.2))) else (if a0 = 7 then ((vInt.f a1 0 3).bind fun bt174 => (some (bt174.1, bt174.2))) else ((vInt.f a1 0 255).bind fun bt176 => (some (bt176.1, bt176.2)))))))))) = some (r1, r2) := h;clear h
 by_cases c3 : a0 = 1
 ·rw [if_pos c3] at H;have c3b0 : (a0 == 1) = true := beq_iff_eq.mpr c3;have c3b1 : (a0 != 1) = false := bne_eq_false_iff_eq.mpr c3;clear c3;replace H := bE H;obtain ⟨⟨t162, t163⟩, A40, H⟩ := H;replace H : (some (t162, t163)) = some (r1, r2) := H;have A4 := As A40;clear A40;simp only [Option.some.injEq, Prod.mk.injEq] at H;obtain ⟨rfl, rfl⟩ := H
  go_enter Tryz.func23, Tryz.ntmps23
  go_wp2_with (first | ((with_reducible refine gate_callee (f := 39) rfl ?_); refine goesL_ (some 10) rfl rfl Tryz.func39 kr rfl #[.string a1, .int .i64 0, .int .i64 1] rfl sa ?_; (with_reducible refine (vInt.calls a1 0 1 t162 t163 _ A4.out ?side1).mono ?_); (case side1 => first | exact hG | exact GL.below hG (be HB.out) | (repeat (first | exact hG | apply GL.drewN | apply GL.drew | apply GL.alloc))); rintro e w5 ⟨rfl, hb⟩; refine ⟨_, rfl, ?_⟩; replace HB := As (XT (be HB.out) hb); (try clear hb); (try clear hb2); (try clear hk); (try clear hi); (try simp only [errW_none, errW_some])))
  go_ret2
  exact ⟨by first | rfl | (simp [errW_none, errW_some] <;> rfl) | (simp [*, errW_none, errW_some] <;> rfl), by repeat (first | (with_reducible first | exact HB.out | apply XA | apply XN | apply XD) | exact HB.out)⟩
 ·rw [if_neg c3] at H;have c3b0 : (a0 == 1) = false := beq_eq_false_iff_ne.mpr c3;have c3b1 : (a0 != 1) = true := bne_iff_ne.mpr c3
  by_cases c6 : a0 = 2
  ·rw [if_pos c6] at H;have c6b0 : (a0 == 2) = true := beq_iff_eq.mpr c6;have c6b1 : (a0 != 2) = false := bne_eq_false_iff_eq.mpr c6;clear c6;replace H := bE H;obtain ⟨⟨t164, t165⟩, A70, H⟩ := H;replace H : (some (t164, t165)) = some (r1, r2) := H;have A7 := As A70;clear A70;simp only [Option.some.injEq, Prod.mk.injEq] at H;obtain ⟨rfl, rfl⟩ := H
   go_enter Tryz.func23, Tryz.ntmps23
   go_wp2_with (first | ((with_reducible refine gate_callee (f := 39) rfl ?_); refine goesL_ (some 16) rfl rfl Tryz.func39 kr rfl #[.string a1, .int .i64 0, .int .i64 2147483648] rfl sa ?_; (with_reducible refine (vInt.calls a1 0 2147483648 t164 t165 _ A7.out ?side1).mono ?_); (case side1 => first | exact hG | exact GL.below hG (be HB.out) | (repeat (first | exact hG | apply GL.drewN | apply GL.drew | apply GL.alloc))); rintro e w8 ⟨rfl, hb⟩; refine ⟨_, rfl, ?_⟩; replace HB := As (XT (be HB.out) hb); (try clear hb); (try clear hb2); (try clear hk); (try clear hi); (try simp only [errW_none, errW_some])))
   go_ret2
   exact ⟨by first | rfl | (simp [errW_none, errW_some] <;> rfl) | (simp [*, errW_none, errW_some] <;> rfl), by repeat (first | (with_reducible first | exact HB.out | apply XA | apply XN | apply XD) | exact HB.out)⟩
  ·rw [if_neg c6] at H;have c6b0 : (a0 == 2) = false := beq_eq_false_iff_ne.mpr c6;have c6b1 : (a0 != 2) = true := bne_iff_ne.mpr c6
   by_cases c9 : a0 = 3
   ·rw [if_pos c9] at H;have c9b0 : (a0 == 3) = true := beq_iff_eq.mpr c9;have c9b1 : (a0 != 3) = false := bne_eq_false_iff_eq.mpr c9;clear c9;replace H := bE H;obtain ⟨⟨t166, t167⟩, A100, H⟩ := H;replace H : (some (t166, t167)) = some (r1, r2) := H;have A10 := As A100;clear A100;simp only [Option.some.injEq, Prod.mk.injEq] at H;obtain ⟨rfl, rfl⟩ := H
    go_enter Tryz.func23, Tryz.ntmps23
    go_wp2_with (first | ((with_reducible refine gate_callee (f := 39) rfl ?_); refine goesL_ (some 22) rfl rfl Tryz.func39 kr rfl #[.string a1, .int .i64 0, .int .i64 4611686018427387904] rfl sa ?_; (with_reducible refine (vInt.calls a1 0 4611686018427387904 t166 t167 _ A10.out ?side1).mono ?_); (case side1 => first | exact hG | exact GL.below hG (be HB.out) | (repeat (first | exact hG | apply GL.drewN | apply GL.drew | apply GL.alloc))); rintro e w11 ⟨rfl, hb⟩; refine ⟨_, rfl, ?_⟩; replace HB := As (XT (be HB.out) hb); (try clear hb); (try clear hb2); (try clear hk); (try clear hi); (try simp only [errW_none, errW_some])))
    go_ret2
    exact ⟨by first | rfl | (simp [errW_none, errW_some] <;> rfl) | (simp [*, errW_none, errW_some] <;> rfl), by repeat (first | (with_reducible first | exact HB.out | apply XA | apply XN | apply XD) | exact HB.out)⟩
   ·rw [if_neg c9] at H;have c9b0 : (a0 == 3) = false := beq_eq_false_iff_ne.mpr c9;have c9b1 : (a0 != 3) = true := bne_iff_ne.mpr c9
    by_cases c12 : a0 = 4
    ·rw [if_pos c12] at H;have c12b0 : (a0 == 4) = true := beq_iff_eq.mpr c12;have c12b1 : (a0 != 4) = false := bne_eq_false_iff_eq.mpr c12;clear c12;replace H := bE H;obtain ⟨⟨t168, t169⟩, A130, H⟩ := H;replace H : (some (t168, t169)) = some (r1, r2) := H;have A13 := As A130;clear A130;simp only [Option.some.injEq, Prod.mk.injEq] at H;obtain ⟨rfl, rfl⟩ := H
     go_enter Tryz.func23, Tryz.ntmps23
     go_wp2_with (first | ((with_reducible refine gate_callee (f := 39) rfl ?_); refine goesL_ (some 28) rfl rfl Tryz.func39 kr rfl #[.string a1, .int .i64 0, .int .i64 34560000] rfl sa ?_; (with_reducible refine (vInt.calls a1 0 34560000 t168 t169 _ A13.out ?side1).mono ?_); (case side1 => first | exact hG | exact GL.below hG (be HB.out) | (repeat (first | exact hG | apply GL.drewN | apply GL.drew | apply GL.alloc))); rintro e w14 ⟨rfl, hb⟩; refine ⟨_, rfl, ?_⟩; replace HB := As (XT (be HB.out) hb); (try clear hb); (try clear hb2); (try clear hk); (try clear hi); (try simp only [errW_none, errW_some])))
     go_ret2
     exact ⟨by first | rfl | (simp [errW_none, errW_some] <;> rfl) | (simp [*, errW_none, errW_some] <;> rfl), by repeat (first | (with_reducible first | exact HB.out | apply XA | apply XN | apply XD) | exact HB.out)⟩
    ·rw [if_neg c12] at H;have c12b0 : (a0 == 4) = false := beq_eq_false_iff_ne.mpr c12;have c12b1 : (a0 != 4) = true := bne_iff_ne.mpr c12
     by_cases c15 : a0 = 5
     ·rw [if_pos c15] at H;have c15b0 : (a0 == 5) = true := beq_iff_eq.mpr c15;have c15b1 : (a0 != 5) = false := bne_eq_false_iff_eq.mpr c15;clear c15;replace H := bE H;obtain ⟨⟨t170, t171⟩, A160, H⟩ := H;replace H : (some (t170, t171)) = some (r1, r2) := H;have A16 := As A160;clear A160;simp only [Option.some.injEq, Prod.mk.injEq] at H;obtain ⟨rfl, rfl⟩ := H
      go_enter Tryz.func23, Tryz.ntmps23
      go_wp2_with (first | ((with_reducible refine gate_callee (f := 39) rfl ?_); refine goesL_ (some 34) rfl rfl Tryz.func39 kr rfl #[.string a1, .int .i64 1, .int .i64 2147483648] rfl sa ?_; (with_reducible refine (vInt.calls a1 1 2147483648 t170 t171 _ A16.out ?side1).mono ?_); (case side1 => first | exact hG | exact GL.below hG (be HB.out) | (repeat (first | exact hG | apply GL.drewN | apply GL.drew | apply GL.alloc))); rintro e w17 ⟨rfl, hb⟩; refine ⟨_, rfl, ?_⟩; replace HB := As (XT (be HB.out) hb); (try clear hb); (try clear hb2); (try clear hk); (try clear hi); (try simp only [errW_none, errW_some])))
      go_ret2
      exact ⟨by first | rfl | (simp [errW_none, errW_some] <;> rfl) | (simp [*, errW_none, errW_some] <;> rfl), by repeat (first | (with_reducible first | exact HB.out | apply XA | apply XN | apply XD) | exact HB.out)⟩
     ·rw [if_neg c15] at H;have c15b0 : (a0 == 5) = false := beq_eq_false_iff_ne.mpr c15;have c15b1 : (a0 != 5) = true := bne_iff_ne.mpr c15
      by_cases c18 : a0 = 6
      ·rw [if_pos c18] at H;have c18b0 : (a0 == 6) = true := beq_iff_eq.mpr c18;have c18b1 : (a0 != 6) = false := bne_eq_false_iff_eq.mpr c18;clear c18;replace H := bE H;obtain ⟨⟨t172, t173⟩, A190, H⟩ := H;replace H : (some (t172, t173)) = some (r1, r2) := H;have A19 := As A190;clear A190;simp only [Option.some.injEq, Prod.mk.injEq] at H;obtain ⟨rfl, rfl⟩ := H
       go_enter Tryz.func23, Tryz.ntmps23
       go_wp2_with (first | ((with_reducible refine gate_callee (f := 40) rfl ?_); refine goesL_ (some 40) rfl rfl Tryz.func40 kr rfl #[.string a1, .string (⟨#[97, 99, 102]⟩ : ByteArray)] rfl sa ?_; (with_reducible refine (oO.calls k a1 (⟨#[97, 99, 102]⟩ : ByteArray) t172 t173 _ A19.out ?side1).mono ?_); (case side1 => first | exact hG | exact GL.below hG (be HB.out) | (repeat (first | exact hG | apply GL.drewN | apply GL.drew | apply GL.alloc))); rintro e w20 ⟨rfl, hb⟩; refine ⟨_, rfl, ?_⟩; replace HB := As (XT (be HB.out) hb); (try clear hb); (try clear hb2); (try clear hk); (try clear hi); (try simp only [errW_none, errW_some])))
       go_ret2
       exact ⟨by first | rfl | (simp [errW_none, errW_some] <;> rfl) | (simp [*, errW_none, errW_some] <;> rfl), by repeat (first | (with_reducible first | exact HB.out | apply XA | apply XN | apply XD) | exact HB.out)⟩
      ·rw [if_neg c18] at H;have c18b0 : (a0 == 6) = false := beq_eq_false_iff_ne.mpr c18;have c18b1 : (a0 != 6) = true := bne_iff_ne.mpr c18
       by_cases c21 : a0 = 7
       ·rw [if_pos c21] at H;have c21b0 : (a0 == 7) = true := beq_iff_eq.mpr c21;have c21b1 : (a0 != 7) = false := bne_eq_false_iff_eq.mpr c21;clear c21;replace H := bE H;obtain ⟨⟨t174, t175⟩, A220, H⟩ := H;replace H : (some (t174, t175)) = some (r1, r2) := H;have A22 := As A220;clear A220;simp only [Option.some.injEq, Prod.mk.injEq] at H;obtain ⟨rfl, rfl⟩ := H
        go_enter Tryz.func23, Tryz.ntmps23
        go_wp2_with (first | ((with_reducible refine gate_callee (f := 39) rfl ?_); refine goesL_ (some 46) rfl rfl Tryz.func39 kr rfl #[.string a1, .int .i64 0, .int .i64 3] rfl sa ?_; (with_reducible refine (vInt.calls a1 0 3 t174 t175 _ A22.out ?side1).mono ?_); (case side1 => first | exact hG | exact GL.below hG (be HB.out) | (repeat (first | exact hG | apply GL.drewN | apply GL.drew | apply GL.alloc))); rintro e w23 ⟨rfl, hb⟩; refine ⟨_, rfl, ?_⟩; replace HB := As (XT (be HB.out) hb); (try clear hb); (try clear hb2); (try clear hk); (try clear hi); (try simp only [errW_none, errW_some])))
        go_ret2
        exact ⟨by first | rfl | (simp [errW_none, errW_some] <;> rfl) | (simp [*, errW_none, errW_some] <;> rfl), by repeat (first | (with_reducible first | exact HB.out | apply XA | apply XN | apply XD) | exact HB.out)⟩
       ·rw [if_neg c21] at H;have c21b0 : (a0 == 7) = false := beq_eq_false_iff_ne.mpr c21;have c21b1 : (a0 != 7) = true := bne_iff_ne.mpr c21;replace H := bE H;obtain ⟨⟨t176, t177⟩, A240, H⟩ := H;replace H : (some (t176, t177)) = some (r1, r2) := H;have A24 := As A240;clear A240;simp only [Option.some.injEq, Prod.mk.injEq] at H;obtain ⟨rfl, rfl⟩ := H
        go_enter Tryz.func23, Tryz.ntmps23
        go_wp2_with (first | ((with_reducible refine gate_callee (f := 39) rfl ?_); refine goesL_ (some 50) rfl rfl Tryz.func39 kr rfl #[.string a1, .int .i64 0, .int .i64 255] rfl sa ?_; (with_reducible refine (vInt.calls a1 0 255 t176 t177 _ A24.out ?side1).mono ?_); (case side1 => first | exact hG | exact GL.below hG (be HB.out) | (repeat (first | exact hG | apply GL.drewN | apply GL.drew | apply GL.alloc))); rintro e w25 ⟨rfl, hb⟩; refine ⟨_, rfl, ?_⟩; replace HB := As (XT (be HB.out) hb); (try clear hb); (try clear hb2); (try clear hk); (try clear hi); (try simp only [errW_none, errW_some])))
        go_ret2
        exact ⟨by first | rfl | (simp [errW_none, errW_some] <;> rfl) | (simp [*, errW_none, errW_some] <;> rfl), by repeat (first | (with_reducible first | exact HB.out | apply XA | apply XN | apply XD) | exact HB.out)⟩

end Go.Proofs.YtdakfmldbddokaaGreatDoor.P
-- SHRUNK
-- PACKED
-- PACKED2
