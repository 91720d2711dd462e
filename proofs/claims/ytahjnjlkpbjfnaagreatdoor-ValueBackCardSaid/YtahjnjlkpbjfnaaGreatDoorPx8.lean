-- written by myprint.py (this claim's own program, after the kit's print)
import Derived.Test.YtahjnjlkpbjfnaaGreatDoorPx0
import Derived.Test.YtahjnjlkpbjfnaaGreatDoorPx2
import Derived.Test.YtahjnjlkpbjfnaaGreatDoorVaList
import Derived.Test.YtahjnjlkpbjfnaaGreatDoorVaMayB
import Derived.Test.YtahjnjlkpbjfnaaGreatDoorVaShelf
import Derived.Test.YtahjnjlkpbjfnaaGreatDoorPack
namespace Go.Proofs.YtahjnjlkpbjfnaaGreatDoor.P
open Go.RowKit Go.Proofs.YtahjnjlkpbjfnaaGreatDoorW.PrintWords Go.Proofs.YtahjnjlkpbjfnaaGreatDoorW.PrintLast Go.Proofs.YtahjnjlkpbjfnaaGreatDoorW.PrintMore
attribute [local go_sem] max2_int min2_int max_two min_two max_three min_three max_four min_four   -- for this text's walks alone
set_option linter.unusedVariables false
set_option linter.unusedSimpArgs false

/-! ### value_Options: function 16 -/
mutual
def value_Options.j0 : Nat → ByteArray → List ByteArray → Bool → Option (Int × Option Int)
 | 0, _, _, _ => none
 | k + 1, x1, x6, x37 => if x37 = true then (some (0, none)) else (value_Options.l0 k x1 0 x6 (x6.length : Int) 0)
def value_Options.l0 : Nat → ByteArray → Int → List ByteArray → Int → Int → Option (Int × Option Int)
 | 0, _, _, _, _, _ => none
 | k + 1, x1, x8, x38, x39, x40 => if x40 < x39 then (if 0 ≤ x40 then (if x40 < (x38.length : Int) then ((strings_Index.f x1 (rdOf ByteArray.empty x38 x40)).bind fun t194 => (if t194 < 0 then (some (0, some 3)) else (if ((rdOf ByteArray.empty x38 x40).size : Int) = 1 then (if 0 ≤ t194 then (value_Options.l0 k x1 (Go.bits .or .i64 x8 (shl .i64 1 t194)) x38 x39 (wrap64 (x40 + 1))) else (none)) else (some (0, some 3))))) else (none)) else (none)) else (some (x8, none))
end
def value_Options.f (k : Nat) (a0 : ByteArray) (a1 : ByteArray) : Option (Int × Option Int) := (value_may.f a1).bind fun t185 => (if t185 = true then ((value_List.f a0).bind fun bt186 => (if bt186.2.isNone = true then (if (bt186.1.length : Int) = 1 then (if 0 < (bt186.1.length : Int) then (if (rdOf ByteArray.empty bt186.1 0).toList = ([110] : List UInt8) then ((strings_Contains.f a1 (⟨#[110]⟩ : ByteArray)).bind fun t192 => (value_Options.j0 k a1 bt186.1 (!t192))) else (value_Options.j0 k a1 bt186.1 false)) else (none)) else (value_Options.j0 k a1 bt186.1 false)) else (some (0, some (bt186.2.getD 0))))) else (some (0, some 1)))
theorem value_Options.mono_l : ∀ k, (∀ y0 y1 y2, LeO (value_Options.j0 k y0 y1 y2) (value_Options.j0 (k + 1) y0 y1 y2)) ∧ (∀ y0 y1 y2 y3 y4, LeO (value_Options.l0 k y0 y1 y2 y3 y4) (value_Options.l0 (k + 1) y0 y1 y2 y3 y4))
 | 0 => ⟨fun _ _ _ r h => by simp [value_Options.j0] at h, fun _ _ _ _ _ r h => by simp [value_Options.l0] at h⟩
 | k + 1 => by
  obtain ⟨ih0, ih1⟩ := value_Options.mono_l k;refine ⟨?_, ?_⟩
  ·intro y0 y1 y2;unfold value_Options.j0
   repeat' first
   | (with_reducible exact ih0 _ _ _)
   | (with_reducible exact ih1 _ _ _ _ _)
   | (with_reducible exact LeO.refl _)
   | (with_reducible exact LeO.none _)
   | (with_reducible refine LeO.ite ?_ ?_)
   | (with_reducible refine LeO.bind ?_ (fun _ => ?_))
   | exact ih0 _ _ _
   | exact ih1 _ _ _ _ _
   | exact LeO.none _
   | refine LeO.ite ?_ ?_
   | refine LeO.bind ?_ (fun _ => ?_)
  ·intro y0 y1 y2 y3 y4;unfold value_Options.l0
   repeat' first
   | (with_reducible exact ih0 _ _ _)
   | (with_reducible exact ih1 _ _ _ _ _)
   | (with_reducible exact LeO.refl _)
   | (with_reducible exact LeO.none _)
   | (with_reducible refine LeO.ite ?_ ?_)
   | (with_reducible refine LeO.bind ?_ (fun _ => ?_))
   | exact ih0 _ _ _
   | exact ih1 _ _ _ _ _
   | exact LeO.none _
   | refine LeO.ite ?_ ?_
   | refine LeO.bind ?_ (fun _ => ?_)
theorem value_Options.mono : ∀ a0 a1 k, LeO (value_Options.f k a0 a1) (value_Options.f (k + 1) a0 a1) := by
 intro a0 a1 k;obtain ⟨ih0, ih1⟩ := value_Options.mono_l k;unfold value_Options.f
 repeat' first
   | (with_reducible exact ih0 _ _ _)
   | (with_reducible exact ih1 _ _ _ _ _)
   | (with_reducible exact LeO.refl _)
   | (with_reducible exact LeO.none _)
   | (with_reducible refine LeO.ite ?_ ?_)
   | (with_reducible refine LeO.bind ?_ (fun _ => ?_))
   | exact ih0 _ _ _
   | exact ih1 _ _ _ _ _
   | exact LeO.none _
   | refine LeO.ite ?_ ?_
   | refine LeO.bind ?_ (fun _ => ?_)
set_option maxHeartbeats 8000000 in
set_option maxRecDepth 100000 in
theorem value_Options.calls (k : Nat) (a0 : ByteArray) (a1 : ByteArray) (r1 : Int) (r2 : Option Int) (w : World) (h : value_Options.f k a0 a1 = some (r1, r2)) (hG : GL w) :
  Calls Tryz.prog 16 #[.string a0, .string a1] w fun e w' => e = .returned (.tuple #[.int .i64 r1, errW r2]) ∧ Below w.heap.size w w' := by
 have hu26 := Tryz.underlying26;have hu58 := Tryz.underlying58;have HB := As (Below.refl w.heap.size w);have H : ((value_may.f a1).bind fun t185 => (if t185 = true then ((value_List.f a0).bind fun bt186 => (if bt186.2.isNone = true then (if (bt186.1.length : Int) = 1 then (if 0 < (bt186.1.length : Int) then (if (rdOf ByteArray.empty bt186.1 0).toList = ([110] : List UInt8) then ((strings_Contains.f a1 (⟨#[110]⟩ : ByteArray)).bind fun t192 => (value_Options.j0 k a1 bt186.1 (!t192))) else (value_Options.j0 k a1 bt186.1 false)) else (none)) else (value_Options.j0 k a1 bt186.1 false)) else (some (0, some (bt186.2.getD 0))))) else (some (0, some 1)))) = some (r1, r2) := h;clear h;replace H := bE H;obtain ⟨t185, A30, H⟩ := H;replace H : (if t185 = true then ((value_List.f a0).bind fun bt186 => (if bt186.2.isNone = true then (if (bt186.1.length : Int) = 1 then (if 0 < (bt186.1.length : Int) then (if (rdOf ByteArray.empty bt186.1 0).toList = ([110] : List UInt8) then ((strings_Contains.f a1 (⟨#[110]⟩ : ByteArray)).bind fun t192 => (value_Options.j0 k a1 bt186.1 (!t192))) else (value_Options.j0 k a1 bt186.1 false)) else (none)) else (value_Options.j0 k a1 bt186.1 false)) else (some (0, some (bt186.2.getD 0))))) else (some (0, some 1))) = some (r1, r2) := H;have A3 := As A30;clear A30
 by_cases c4 : t185 = true
 focus
  subst c4
  have H1 : ((value_List.f a0).bind fun bt186 => (if bt186.2.isNone = true then (if (bt186.1.length : Int) = 1 then (if 0 < (bt186.1.length : Int) then (if (rdOf ByteArray.empty bt186.1 0).toList = ([110] : List UInt8) then ((strings_Contains.f a1 (⟨#[110]⟩ : ByteArray)).bind fun t192 => (value_Options.j0 k a1 bt186.1 (!t192))) else (value_Options.j0 k a1 bt186.1 false)) else (none)) else (value_Options.j0 k a1 bt186.1 false)) else (some (0, some (bt186.2.getD 0))))) = some (r1, r2) := by rw [if_pos rfl] at H; exact H
  clear H;have H := H1;clear H1;replace H := bE H;obtain ⟨⟨t186, t187⟩, A50, H⟩ := H;replace H : (if t187.isNone = true then (if (t186.length : Int) = 1 then (if 0 < (t186.length : Int) then (if (rdOf ByteArray.empty t186 0).toList = ([110] : List UInt8) then ((strings_Contains.f a1 (⟨#[110]⟩ : ByteArray)).bind fun t192 => (value_Options.j0 k a1 t186 (!t192))) else (value_Options.j0 k a1 t186 false)) else (none)) else (value_Options.j0 k a1 t186 false)) else (some (0, some (t187.getD 0)))) = some (r1, r2) := H;have A5 := As A50;clear A50
  rcases t187 with _ | q190
  have H1 : (if (t186.length : Int) = 1 then (if 0 < (t186.length : Int) then (if (rdOf ByteArray.empty t186 0).toList = ([110] : List UInt8) then ((strings_Contains.f a1 (⟨#[110]⟩ : ByteArray)).bind fun t192 => (value_Options.j0 k a1 t186 (!t192))) else (value_Options.j0 k a1 t186 false)) else (none)) else (value_Options.j0 k a1 t186 false)) = some (r1, r2) := by rw [if_pos no0] at H; exact H
  clear H;have H := H1;clear H1
  try simp only [errW_none, errW_some]
  have HC6 := As H;clear H
  rotate_left
  have H1 : (some (0, some q190)) = some (r1, r2) := by rw [if_neg (show ¬ (some q190).isNone = true by simp)] at H; exact H
  clear H;have H := H1;clear H1
  try simp only [errW_none, errW_some]
  simp only [Option.some.injEq, Prod.mk.injEq] at H;obtain ⟨rfl, rfl⟩ := H
  have m1_ := trivial
 rotate_left 2
 replace c4 := Bool.eq_false_iff.mpr c4;subst c4
 have H1 : (some (0, some 1)) = some (r1, r2) := by rw [if_neg (show ¬ (false = true) by decide)] at H; exact H
 clear H;have H := H1;clear H1;simp only [Option.some.injEq, Prod.mk.injEq] at H;obtain ⟨rfl, rfl⟩ := H
 have m2_ := trivial
 all_goals go_enter Tryz.func16, Tryz.ntmps16
 all_goals try
  first | (clear m1_; have m1_ := trivial) | (clear m2_; have m2_ := trivial)
  go_wp2_with (first | ((with_reducible refine gate_callee (f := 29) rfl ?_); refine goesL_ (some 13) rfl rfl Tryz.func29 kr rfl #[.string a1] rfl sa ?_; (with_reducible refine (value_may.calls a1 _ _ A3.out).mono ?_); rintro e w26 ⟨rfl, hb⟩; refine ⟨_, rfl, ?_⟩; replace HB := As (XT (be HB.out) hb); (try clear hb); (try clear hb2); (try clear hk); (try clear hi)) | ((with_reducible refine gate_callee (f := 20) rfl ?_); refine goesL_ (some 18) rfl rfl Tryz.func20 kr rfl #[.string a0] rfl sa ?_; (with_reducible refine (value_List.calls a0 _ _ _ A5.out).mono ?_); rintro e w27 ⟨v188, rfl, ho0, hb⟩; refine ⟨_, rfl, ?_⟩; have HO189 := As (Kd.R_lower ho0 (XZ (be HB.out))); replace HB := As (XT (be HB.out) hb); (try clear hb); (try clear hb2); (try clear hk); (try clear hi); (try clear ho0); (try simp only [errW_none, errW_some])))
  go_ret2
  exact ⟨by first | rfl | (simp [errW_none, errW_some] <;> rfl) | (simp [*, errW_none, errW_some] <;> rfl), by repeat (first | (with_reducible first | exact HB.out | apply XA | apply XN | apply XD) | exact HB.out)⟩
 ·go_upto_region 6 with (first | ((with_reducible refine gate_callee (f := 29) rfl ?_); refine goesL_ (some 13) rfl rfl Tryz.func29 kr rfl #[.string a1] rfl sa ?_; (with_reducible refine (value_may.calls a1 _ _ A3.out).mono ?_); rintro e w7 ⟨rfl, hb⟩; refine ⟨_, rfl, ?_⟩; replace HB := As (XT (be HB.out) hb); (try clear hb); (try clear hb2); (try clear hk); (try clear hi)) | ((with_reducible refine gate_callee (f := 20) rfl ?_); refine goesL_ (some 18) rfl rfl Tryz.func20 kr rfl #[.string a0] rfl sa ?_; (with_reducible refine (value_List.calls a0 _ _ _ A5.out).mono ?_); rintro e w8 ⟨v188, rfl, ho0, hb⟩; refine ⟨_, rfl, ?_⟩; have HO189 := As (Kd.R_lower ho0 (XZ (be HB.out))); replace HB := As (XT (be HB.out) hb); (try clear hb); (try clear hb2); (try clear hk); (try clear hi); (try clear ho0); (try simp only [errW_none, errW_some])))
  (try simp only [Act.put, List.setIfInBounds_toArray, List.set_cons_zero, List.set_cons_succ])
  go_cut [37] (fun v37 wc => ∃ (kq : Nat) (x37_5 : Bool), v37 = .bool x37_5 ∧ Aside0 (value_Options.j0 kq a1 t186 x37_5 = some (r1, r2)) ∧ Aside0 (kq ≤ k) ∧ Aside0 (Kd.R Kd.string 9 wc w.heap.size (fun _ => True) v188 t186) ∧ Aside0 (Below w.heap.size w wc))
  case first =>
   have H := HC6.out;clear HC6
   by_cases c9 : (t186.length : Int) = 1
   focus
    rw [if_pos c9] at H;have c9b0 : ((t186.length : Int) == 1) = true := beq_iff_eq.mpr c9;have c9b1 : ((t186.length : Int) != 1) = false := bne_eq_false_iff_eq.mpr c9;clear c9
    (first | rw [c9b0] | (simp only [i64_w, i32_w]; rw [c9b0]) | skip)
    by_cases c10 : 0 < (t186.length : Int)
    rotate_left
    ·rw [if_neg c10] at H;exact absurd H (by simp)
    rw [if_pos c10] at H;have c10b0 : decide (0 < (t186.length : Int)) = true := dY c10;have c10b1 : decide (0 < t186.length) = true := dY (by omega);clear c10
    by_cases c11 : (rdOf ByteArray.empty t186 0).toList = ([110] : List UInt8)
    rw [if_pos c11] at H;have c11b0 : ((rdOf ByteArray.empty t186 0).toList == ([110] : List UInt8)) = true := beq_iff_eq.mpr c11;have c11b1 : ((rdOf ByteArray.empty t186 0).toList != ([110] : List UInt8)) = false := bne_eq_false_iff_eq.mpr c11;clear c11;replace H := bE H;obtain ⟨t192, A120, H⟩ := H;replace H : (value_Options.j0 k a1 t186 (!t192)) = some (r1, r2) := H;have A12 := As A120;clear A120;have H' := As H;clear H;obtain ⟨Ao13, co13, eo13⟩ := Kd.R_slice HO189.out;subst eo13
    have p191 : 0 ≤ (0 : Int) := (by omega)
    have q191 : 0 < (t186.length : Int) := dT hy;obtain ⟨ad191, e191, hx191_0⟩ := Kd.at_string (RR HO189.out).2.2 0 p191 q191
    cases e191
    have qi191 : (0 < t186.length) = True := eq_true (by omega)
    (try rw [show ((0 : Int)).toNat = 0 from rfl] at hx191_0)
    (try rw [Addr.add_zero'] at hx191_0)
    replace p191 := eq_true p191;replace q191 := eq_true q191
    rotate_left
    rw [if_neg c11] at H;have c11b0 : ((rdOf ByteArray.empty t186 0).toList == ([110] : List UInt8)) = false := beq_eq_false_iff_ne.mpr c11;have c11b1 : ((rdOf ByteArray.empty t186 0).toList != ([110] : List UInt8)) = true := bne_iff_ne.mpr c11;have H' := As H;clear H;obtain ⟨Ao14, co14, eo14⟩ := Kd.R_slice HO189.out;subst eo14
    have p191 : 0 ≤ (0 : Int) := (by omega)
    have q191 : 0 < (t186.length : Int) := dT hy;obtain ⟨ad191, e191, hx191_0⟩ := Kd.at_string (RR HO189.out).2.2 0 p191 q191
    cases e191
    have qi191 : (0 < t186.length) = True := eq_true (by omega)
    (try rw [show ((0 : Int)).toNat = 0 from rfl] at hx191_0)
    (try rw [Addr.add_zero'] at hx191_0)
    replace p191 := eq_true p191;replace q191 := eq_true q191
    have m4_ := trivial
   rotate_left 2
   rw [if_neg c9] at H;have c9b0 : ((t186.length : Int) == 1) = false := beq_eq_false_iff_ne.mpr c9;have c9b1 : ((t186.length : Int) != 1) = true := bne_iff_ne.mpr c9
   (first | rw [c9b0] | (simp only [i64_w, i32_w]; rw [c9b0]) | skip)
   have H' := As H;clear H;obtain ⟨Ao15, co15, eo15⟩ := Kd.R_slice HO189.out;subst eo15
   have m3_ := trivial
   all_goals try
    first | (clear m3_; have m3_ := trivial) | (clear m4_; have m4_ := trivial)
    go_wp2
    go_meet
    case rel => exact ⟨_, (false), sw, H', ⟨by first | omega | exact Nat.le_refl _⟩, ⟨by (with_reducible repeat (first | apply RA | apply RN | apply RD)); exact HO189.out⟩, ⟨by repeat (first | (with_reducible first | exact HB.out | apply XA | apply XN | apply XD) | exact HB.out)⟩⟩
   ·go_wp2_with (first | (go_at_call 30; (with_reducible refine (strings_Contains.calls a1 (⟨#[110]⟩ : ByteArray) t192 _ A12.out ?side1).mono ?_); (case side1 => first | exact hG | exact GL.below hG (be HB.out) | (repeat (first | exact hG | apply GL.drewN | apply GL.drew | apply GL.alloc))); rintro e w' ⟨rfl, ⟨nd, rfl⟩⟩))
    go_meet
    case rel => exact ⟨_, (!t192), sw, H', ⟨by first | omega | exact Nat.le_refl _⟩, ⟨by (with_reducible repeat (first | apply RA | apply RN | apply RD)); exact HO189.out⟩, ⟨by repeat (first | (with_reducible first | exact HB.out | apply XA | apply XN | apply XD) | exact HB.out)⟩⟩
  case rest =>
   clear HC6
   try clear c1
   try clear p1
   try clear q1
   try clear hx1
   try clear qi1
   try clear c2
   try clear p2
   try clear c4
   try clear p6
   try clear c9
   try clear c9b0
   try clear c9b1
   try clear c10
   try clear c10b0
   try clear c10b1
   try clear c11
   try clear c11b0
   try clear c11b1
   try clear hx191_0
   try clear p191
   try clear q190
   try clear q191
   obtain ⟨kq, x37_5, rfl, HA, HJ5, HO_6, HB⟩ := hcut
   cases kq with
   | zero => exact absurd HA.out (by simp [value_Options.j0])
   | succ kj5 =>
    have H := HA.out;clear HA;simp only [value_Options.j0] at H
    by_cases c16 : x37_5 = true
    ·subst c16
     have H1 : (some (0, none)) = some (r1, r2) := by rw [if_pos rfl] at H; exact H
     clear H;have H := H1;clear H1;simp only [Option.some.injEq, Prod.mk.injEq] at H;obtain ⟨rfl, rfl⟩ := H
     go_wp2
     go_ret2
     exact ⟨by first | rfl | (simp [errW_none, errW_some] <;> rfl) | (simp [*, errW_none, errW_some] <;> rfl), by repeat (first | (with_reducible first | exact HB.out | apply XA | apply XN | apply XD) | exact HB.out)⟩
    ·replace c16 := Bool.eq_false_iff.mpr c16;subst c16
     have H1 : (value_Options.l0 kj5 a1 0 t186 (t186.length : Int) 0) = some (r1, r2) := by rw [if_neg (show ¬ (false = true) by decide)] at H; exact H
     clear H;have H := H1;clear H1;have H' := As H;clear H;obtain ⟨Ao17, co17, eo17⟩ := Kd.R_slice HO_6.out;subst eo17
     go_wp2
     go_loopg [8, 40] kj5 (fun kq v8 v40 w' => ∃ (x8_2 : Int) (x40_2 : Int), v8 = .int .i64 x8_2 ∧ v40 = .int .i64 x40_2 ∧ Aside0 (value_Options.l0 kq a1 x8_2 t186 (t186.length : Int) x40_2 = some (r1, r2)) ∧ Aside0 (kq ≤ kj5) ∧ Aside0 (Kd.R Kd.string 9 w' w.heap.size (fun _ => True) (.slice Ao17 t186.length co17) t186) ∧ Aside0 (Below w.heap.size w w'))
     case atStart => exact ⟨(0), (0), sw, sw, H', ⟨Nat.le_refl _⟩, ⟨by (with_reducible repeat (first | apply RA | apply RN | apply RD)); exact HO_6.out⟩, ⟨by repeat (first | (with_reducible first | exact HB.out | apply XA | apply XN | apply XD) | exact HB.out)⟩⟩
     case round =>
      clear H'
      try clear c1
      try clear p1
      try clear q1
      try clear hx1
      try clear qi1
      try clear c2
      try clear p2
      try clear c4
      try clear p6
      try clear c9
      try clear c9b0
      try clear c9b1
      try clear c10
      try clear c10b0
      try clear c10b1
      try clear c11
      try clear c11b0
      try clear c11b1
      try clear c16
      try clear hx191_0
      try clear p1
      try clear p191
      try clear p2
      try clear p6
      try clear q1
      try clear q190
      try clear q191
      obtain ⟨x8_2, x40_2, rfl, rfl, HA, HK2, HO_38, HB⟩ := hrel
      cases gk with
      | zero => exact absurd HA.out (by simp [value_Options.l0])
      | succ k2 =>
       have H := HA.out;clear HA;simp only [value_Options.l0] at H
       by_cases c18 : x40_2 < (t186.length : Int)
       focus
        rw [if_pos c18] at H;have c18b0 : decide (x40_2 < (t186.length : Int)) = true := dY c18;clear c18
        by_cases c19 : 0 ≤ x40_2
        rotate_left
        ·rw [if_neg c19] at H;exact absurd H (by simp)
        rw [if_pos c19] at H;have c19b0 : decide (0 ≤ x40_2) = true := dY c19;clear c19
        by_cases c20 : x40_2 < (t186.length : Int)
        rotate_left
        ·rw [if_neg c20] at H;exact absurd H (by simp)
        rw [if_pos c20] at H;have c20b0 : decide (x40_2 < (t186.length : Int)) = true := dY c20;clear c20;replace H := bE H;obtain ⟨t194, A210, H⟩ := H;replace H : (if t194 < 0 then (some (0, some 3)) else (if ((rdOf ByteArray.empty t186 x40_2).size : Int) = 1 then (if 0 ≤ t194 then (value_Options.l0 k2 a1 (Go.bits .or .i64 x8_2 (shl .i64 1 t194)) t186 (t186.length : Int) (wrap64 (x40_2 + 1))) else (none)) else (some (0, some 3)))) = some (r1, r2) := H;have A21 := As A210;clear A210
        by_cases c22 : t194 < 0
        rw [if_pos c22] at H;have c22b0 : decide (t194 < 0) = true := dY c22;clear c22;simp only [Option.some.injEq, Prod.mk.injEq] at H;obtain ⟨rfl, rfl⟩ := H;have p193 : 0 ≤ (x40_2 : Int) := dT hy;have q193 : x40_2 < (t186.length : Int) := dT hy;obtain ⟨ad193, e193, hx193_0⟩ := Kd.at_string (RR HO_38.out).2.2 x40_2 p193 q193
        cases e193
        replace p193 := eq_true p193;replace q193 := eq_true q193
        have m7_ := trivial
        rotate_left
        focus
         rw [if_neg c22] at H;have c22b0 : decide (t194 < 0) = false := dN c22;clear c22
         by_cases c23 : ((rdOf ByteArray.empty t186 x40_2).size : Int) = 1
         focus
          rw [if_pos c23] at H;have c23b0 : (((rdOf ByteArray.empty t186 x40_2).size : Int) == 1) = true := beq_iff_eq.mpr c23;have c23b1 : (((rdOf ByteArray.empty t186 x40_2).size : Int) != 1) = false := bne_eq_false_iff_eq.mpr c23;clear c23
          by_cases c24 : 0 ≤ t194
          rotate_left
          ·rw [if_neg c24] at H;exact absurd H (by simp)
          rw [if_pos c24] at H;have c24b0 := eq_true c24;have c24b1 : decide (0 ≤ t194) = true := dY c24;clear c24
          obtain ⟨ji25, hji25⟩ : ∃ j_ : Int, (shl .i64 1 t194) = j_ := ⟨_, rfl⟩
          replace H : (value_Options.l0 k2 a1 (Go.bits .or .i64 x8_2 (ji25)) t186 (t186.length : Int) (wrap64 (x40_2 + 1))) = some (r1, r2) := by first | (rw [hji25] at H; exact H) | (simp only [hji25] at H ⊢; exact H)
          (try rw [hji25] at A21)
          have hji25_ : (IntKind.i64.wrap (1 * 2 ^ min t194.toNat 64)) = ji25 := hji25;have hji25z : t194 ≤ 64 → (IntKind.i64.wrap (1 * 2 ^ t194.toNat)) = ji25 := shl_small hji25
          have hji25u : (IntKind.i64.wrap (2 ^ min t194.toNat 64)) = ji25 := by have h_ := hji25_; rw [Int.one_mul] at h_; exact h_
          have hji25v : t194 ≤ 64 → (IntKind.i64.wrap (2 ^ t194.toNat)) = ji25 := fun hle_ => by have h_ := hji25z hle_; rw [Int.one_mul] at h_; exact h_
          have hji25y : (wrap64 (1 * 2 ^ min t194.toNat 64)) = ji25 := (i64_w _).symm.trans hji25_
          have hji25x : t194 ≤ 64 → (wrap64 (1 * 2 ^ t194.toNat)) = ji25 := fun h_ => (i64_w _).symm.trans (hji25z h_)
          have H' := As H;clear H;have p193 : 0 ≤ (x40_2 : Int) := dT hy;have q193 : x40_2 < (t186.length : Int) := dT hy;obtain ⟨ad193, e193, hx193_0⟩ := Kd.at_string (RR HO_38.out).2.2 x40_2 p193 q193
          cases e193
          replace p193 := eq_true p193;replace q193 := eq_true q193
          have m6_ := trivial
         rotate_left
         rw [if_neg c23] at H;have c23b0 : (((rdOf ByteArray.empty t186 x40_2).size : Int) == 1) = false := beq_eq_false_iff_ne.mpr c23;have c23b1 : (((rdOf ByteArray.empty t186 x40_2).size : Int) != 1) = true := bne_iff_ne.mpr c23;simp only [Option.some.injEq, Prod.mk.injEq] at H;obtain ⟨rfl, rfl⟩ := H;have p193 : 0 ≤ (x40_2 : Int) := dT hy;have q193 : x40_2 < (t186.length : Int) := dT hy;obtain ⟨ad193, e193, hx193_0⟩ := Kd.at_string (RR HO_38.out).2.2 x40_2 p193 q193
         cases e193
         replace p193 := eq_true p193;replace q193 := eq_true q193
         have m5_ := trivial
       rotate_left 3
       rw [if_neg c18] at H;have c18b0 : decide (x40_2 < (t186.length : Int)) = false := dN c18;clear c18;simp only [Option.some.injEq, Prod.mk.injEq] at H;obtain ⟨rfl, rfl⟩ := H
       all_goals try
        first | (clear m5_; have m5_ := trivial) | (clear m6_; have m6_ := trivial) | (clear m7_; have m7_ := trivial)
        go_wp2_with (first | ((with_reducible refine gate_callee (f := 31) rfl ?_); refine goesL_ (some 46) rfl rfl Tryz.func31 kr rfl #[.string a1, .string (rdOf ByteArray.empty t186 x40_2)] rfl sa ?_; (with_reducible refine (strings_Index.calls a1 (rdOf ByteArray.empty t186 x40_2) t194 _ A21.out ?side1).mono ?_); (case side1 => first | exact hG | exact GL.below hG (be HB.out) | (repeat (first | exact hG | apply GL.drewN | apply GL.drew | apply GL.alloc))); rintro e w' ⟨rfl, ⟨nd, rfl⟩⟩; refine ⟨_, rfl, ?_⟩))
       all_goals try
        first | (clear m5_; have m5_ := trivial) | (clear m7_; have m7_ := trivial)
        go_ret2
        exact ⟨by first | rfl | (simp [errW_none, errW_some] <;> rfl) | (simp [*, errW_none, errW_some] <;> rfl), by repeat (first | (with_reducible first | exact HB.out | apply XA | apply XN | apply XD) | exact HB.out)⟩
       ·go_wp2
        go_ret2
        exact ⟨by first | rfl | (simp [errW_none, errW_some] <;> rfl) | (simp [*, errW_none, errW_some] <;> rfl), by repeat (first | (with_reducible first | exact HB.out | apply XA | apply XN | apply XD) | exact HB.out)⟩
       ·go_roundg k2
        case measure => have := HJ5.out; have := HK2.out; omega
        case rel => exact ⟨(Go.bits .or .i64 x8_2 (ji25)), (wrap64 (x40_2 + 1)), (by first | rfl | (simp; done) | (simp only [← hji25] <;> (first | rfl | simp)) | (simp [*]; done)), sw, H', ⟨by have := HJ5.out; have := HK2.out; omega⟩, ⟨by (with_reducible repeat (first | apply RA | apply RN | apply RD)); exact HO_38.out⟩, ⟨by repeat (first | (with_reducible first | exact HB.out | apply XA | apply XN | apply XD) | exact HB.out)⟩⟩

/-! ### belvederelaw10_sure: function 10 -/
def belvederelaw10_sure.f (k : Nat)  : Option (Bool) := (value_Seconds.f (⟨#[53, 109]⟩ : ByteArray)).bind fun bt195 => ((value_Options.f k (⟨#[100, 44, 117]⟩ : ByteArray) (⟨#[100, 117, 114]⟩ : ByteArray)).bind fun bt197 => (if bt195.1 = 300 then (if bt195.2.isNone = true then (if bt197.1 = 3 then (if bt197.2.isNone = true then (some true) else (some false)) else (some false)) else (some false)) else (some false)))
theorem belvederelaw10_sure.mono : ∀ k, LeO (belvederelaw10_sure.f k ) (belvederelaw10_sure.f (k + 1) ) := by
 intro  k;unfold belvederelaw10_sure.f
 repeat' first
   | (with_reducible exact value_Options.mono _ _ _)
   | (with_reducible exact LeO.refl _)
   | (with_reducible exact LeO.none _)
   | (with_reducible refine LeO.ite ?_ ?_)
   | (with_reducible refine LeO.bind ?_ (fun _ => ?_))
   | exact value_Options.mono _ _ _
   | exact LeO.none _
   | refine LeO.ite ?_ ?_
   | refine LeO.bind ?_ (fun _ => ?_)
set_option maxHeartbeats 8000000 in
set_option maxRecDepth 100000 in
theorem belvederelaw10_sure.calls (k : Nat)  (r : Bool) (w : World) (h : belvederelaw10_sure.f k  = some r) (hG : GL w) :
  Calls Tryz.prog 10 #[] w fun e w' => e = .returned (.bool r) ∧ Below w.heap.size w w' := by
 have hu26 := Tryz.underlying26;have hu58 := Tryz.underlying58;have HB := As (Below.refl w.heap.size w);have H : ((value_Seconds.f (⟨#[53, 109]⟩ : ByteArray)).bind fun bt195 => ((value_Options.f k (⟨#[100, 44, 117]⟩ : ByteArray) (⟨#[100, 117, 114]⟩ : ByteArray)).bind fun bt197 => (if bt195.1 = 300 then (if bt195.2.isNone = true then (if bt197.1 = 3 then (if bt197.2.isNone = true then (some true) else (some false)) else (some false)) else (some false)) else (some false)))) = some r := h;clear h;replace H := bE H;obtain ⟨⟨t195, t196⟩, A10, H⟩ := H;replace H : ((value_Options.f k (⟨#[100, 44, 117]⟩ : ByteArray) (⟨#[100, 117, 114]⟩ : ByteArray)).bind fun bt197 => (if t195 = 300 then (if t196.isNone = true then (if bt197.1 = 3 then (if bt197.2.isNone = true then (some true) else (some false)) else (some false)) else (some false)) else (some false))) = some r := H;have A1 := As A10;clear A10;replace H := bE H;obtain ⟨⟨t197, t198⟩, A20, H⟩ := H;replace H : (if t195 = 300 then (if t196.isNone = true then (if t197 = 3 then (if t198.isNone = true then (some true) else (some false)) else (some false)) else (some false)) else (some false)) = some r := H;have A2 := As A20;clear A20
 by_cases c3 : t195 = 300
 ·rw [if_pos c3] at H;have c3b0 : (t195 == 300) = true := beq_iff_eq.mpr c3;have c3b1 : (t195 != 300) = false := bne_eq_false_iff_eq.mpr c3;clear c3
  rcases t196 with _ | q199
  ·have H1 : (if t197 = 3 then (if t198.isNone = true then (some true) else (some false)) else (some false)) = some r := by rw [if_pos no0] at H; exact H
   clear H;have H := H1;clear H1
   try simp only [errW_none, errW_some]
   by_cases c4 : t197 = 3
   ·rw [if_pos c4] at H;have c4b0 : (t197 == 3) = true := beq_iff_eq.mpr c4;have c4b1 : (t197 != 3) = false := bne_eq_false_iff_eq.mpr c4;clear c4
    rcases t198 with _ | q200
    ·have H1 : (some true) = some r := by rw [if_pos no0] at H; exact H
     clear H;have H := H1;clear H1
     try simp only [errW_none, errW_some]
     obtain rfl := Option.some.inj H
     go_enter Tryz.func10, Tryz.ntmps10
     go_wp2_with (first | ((with_reducible refine gate_callee (f := 8) rfl ?_); refine goesL_ (some 6) rfl rfl Tryz.func8 kr rfl #[.string (⟨#[53, 109]⟩ : ByteArray)] rfl sa ?_; (with_reducible refine (value_Seconds.calls (⟨#[53, 109]⟩ : ByteArray) t195 none _ A1.out ?side1).mono ?_); (case side1 => first | exact hG | exact GL.below hG (be HB.out) | (repeat (first | exact hG | apply GL.drewN | apply GL.drew | apply GL.alloc))); rintro e w5 ⟨rfl, hb⟩; refine ⟨_, rfl, ?_⟩; replace HB := As (XT (be HB.out) hb); (try clear hb); (try clear hb2); (try clear hk); (try clear hi); (try simp only [errW_none, errW_some])) | ((with_reducible refine gate_callee (f := 16) rfl ?_); refine goesL_ (some 10) rfl rfl Tryz.func16 kr rfl #[.string (⟨#[100, 44, 117]⟩ : ByteArray), .string (⟨#[100, 117, 114]⟩ : ByteArray)] rfl sa ?_; (with_reducible refine (value_Options.calls k (⟨#[100, 44, 117]⟩ : ByteArray) (⟨#[100, 117, 114]⟩ : ByteArray) t197 none _ A2.out ?side1).mono ?_); (case side1 => first | exact hG | exact GL.below hG (be HB.out) | (repeat (first | exact hG | apply GL.drewN | apply GL.drew | apply GL.alloc))); rintro e w6 ⟨rfl, hb⟩; refine ⟨_, rfl, ?_⟩; replace HB := As (XT (be HB.out) hb); (try clear hb); (try clear hb2); (try clear hk); (try clear hi); (try simp only [errW_none, errW_some])))
     go_ret
     exact ⟨by first | rfl | (simp [errW_none, errW_some] <;> rfl) | (simp [*, errW_none, errW_some] <;> rfl), by repeat (first | (with_reducible first | exact HB.out | apply XA | apply XN | apply XD) | exact HB.out)⟩
    ·have H1 : (some false) = some r := by rw [if_neg (show ¬ (some q200).isNone = true by simp)] at H; exact H
     clear H;have H := H1;clear H1
     try simp only [errW_none, errW_some]
     obtain rfl := Option.some.inj H
     go_enter Tryz.func10, Tryz.ntmps10
     go_wp2_with (first | ((with_reducible refine gate_callee (f := 8) rfl ?_); refine goesL_ (some 6) rfl rfl Tryz.func8 kr rfl #[.string (⟨#[53, 109]⟩ : ByteArray)] rfl sa ?_; (with_reducible refine (value_Seconds.calls (⟨#[53, 109]⟩ : ByteArray) t195 none _ A1.out ?side1).mono ?_); (case side1 => first | exact hG | exact GL.below hG (be HB.out) | (repeat (first | exact hG | apply GL.drewN | apply GL.drew | apply GL.alloc))); rintro e w7 ⟨rfl, hb⟩; refine ⟨_, rfl, ?_⟩; replace HB := As (XT (be HB.out) hb); (try clear hb); (try clear hb2); (try clear hk); (try clear hi); (try simp only [errW_none, errW_some])) | ((with_reducible refine gate_callee (f := 16) rfl ?_); refine goesL_ (some 10) rfl rfl Tryz.func16 kr rfl #[.string (⟨#[100, 44, 117]⟩ : ByteArray), .string (⟨#[100, 117, 114]⟩ : ByteArray)] rfl sa ?_; (with_reducible refine (value_Options.calls k (⟨#[100, 44, 117]⟩ : ByteArray) (⟨#[100, 117, 114]⟩ : ByteArray) t197 (some q200) _ A2.out ?side1).mono ?_); (case side1 => first | exact hG | exact GL.below hG (be HB.out) | (repeat (first | exact hG | apply GL.drewN | apply GL.drew | apply GL.alloc))); rintro e w8 ⟨rfl, hb⟩; refine ⟨_, rfl, ?_⟩; replace HB := As (XT (be HB.out) hb); (try clear hb); (try clear hb2); (try clear hk); (try clear hi); (try simp only [errW_none, errW_some])))
     go_ret
     exact ⟨by first | rfl | (simp [errW_none, errW_some] <;> rfl) | (simp [*, errW_none, errW_some] <;> rfl), by repeat (first | (with_reducible first | exact HB.out | apply XA | apply XN | apply XD) | exact HB.out)⟩
   ·rw [if_neg c4] at H;have c4b0 : (t197 == 3) = false := beq_eq_false_iff_ne.mpr c4;have c4b1 : (t197 != 3) = true := bne_iff_ne.mpr c4;obtain rfl := Option.some.inj H
    go_enter Tryz.func10, Tryz.ntmps10
    go_wp2_with (first | ((with_reducible refine gate_callee (f := 8) rfl ?_); refine goesL_ (some 6) rfl rfl Tryz.func8 kr rfl #[.string (⟨#[53, 109]⟩ : ByteArray)] rfl sa ?_; (with_reducible refine (value_Seconds.calls (⟨#[53, 109]⟩ : ByteArray) t195 none _ A1.out ?side1).mono ?_); (case side1 => first | exact hG | exact GL.below hG (be HB.out) | (repeat (first | exact hG | apply GL.drewN | apply GL.drew | apply GL.alloc))); rintro e w9 ⟨rfl, hb⟩; refine ⟨_, rfl, ?_⟩; replace HB := As (XT (be HB.out) hb); (try clear hb); (try clear hb2); (try clear hk); (try clear hi); (try simp only [errW_none, errW_some])) | ((with_reducible refine gate_callee (f := 16) rfl ?_); refine goesL_ (some 10) rfl rfl Tryz.func16 kr rfl #[.string (⟨#[100, 44, 117]⟩ : ByteArray), .string (⟨#[100, 117, 114]⟩ : ByteArray)] rfl sa ?_; (with_reducible refine (value_Options.calls k (⟨#[100, 44, 117]⟩ : ByteArray) (⟨#[100, 117, 114]⟩ : ByteArray) t197 t198 _ A2.out ?side1).mono ?_); (case side1 => first | exact hG | exact GL.below hG (be HB.out) | (repeat (first | exact hG | apply GL.drewN | apply GL.drew | apply GL.alloc))); rintro e w10 ⟨rfl, hb⟩; refine ⟨_, rfl, ?_⟩; replace HB := As (XT (be HB.out) hb); (try clear hb); (try clear hb2); (try clear hk); (try clear hi); (try simp only [errW_none, errW_some])))
    go_ret
    exact ⟨by first | rfl | (simp [errW_none, errW_some] <;> rfl) | (simp [*, errW_none, errW_some] <;> rfl), by repeat (first | (with_reducible first | exact HB.out | apply XA | apply XN | apply XD) | exact HB.out)⟩
  ·have H1 : (some false) = some r := by rw [if_neg (show ¬ (some q199).isNone = true by simp)] at H; exact H
   clear H;have H := H1;clear H1
   try simp only [errW_none, errW_some]
   obtain rfl := Option.some.inj H
   go_enter Tryz.func10, Tryz.ntmps10
   go_wp2_with (first | ((with_reducible refine gate_callee (f := 8) rfl ?_); refine goesL_ (some 6) rfl rfl Tryz.func8 kr rfl #[.string (⟨#[53, 109]⟩ : ByteArray)] rfl sa ?_; (with_reducible refine (value_Seconds.calls (⟨#[53, 109]⟩ : ByteArray) t195 (some q199) _ A1.out ?side1).mono ?_); (case side1 => first | exact hG | exact GL.below hG (be HB.out) | (repeat (first | exact hG | apply GL.drewN | apply GL.drew | apply GL.alloc))); rintro e w11 ⟨rfl, hb⟩; refine ⟨_, rfl, ?_⟩; replace HB := As (XT (be HB.out) hb); (try clear hb); (try clear hb2); (try clear hk); (try clear hi); (try simp only [errW_none, errW_some])) | ((with_reducible refine gate_callee (f := 16) rfl ?_); refine goesL_ (some 10) rfl rfl Tryz.func16 kr rfl #[.string (⟨#[100, 44, 117]⟩ : ByteArray), .string (⟨#[100, 117, 114]⟩ : ByteArray)] rfl sa ?_; (with_reducible refine (value_Options.calls k (⟨#[100, 44, 117]⟩ : ByteArray) (⟨#[100, 117, 114]⟩ : ByteArray) t197 t198 _ A2.out ?side1).mono ?_); (case side1 => first | exact hG | exact GL.below hG (be HB.out) | (repeat (first | exact hG | apply GL.drewN | apply GL.drew | apply GL.alloc))); rintro e w12 ⟨rfl, hb⟩; refine ⟨_, rfl, ?_⟩; replace HB := As (XT (be HB.out) hb); (try clear hb); (try clear hb2); (try clear hk); (try clear hi); (try simp only [errW_none, errW_some])))
   go_ret
   exact ⟨by first | rfl | (simp [errW_none, errW_some] <;> rfl) | (simp [*, errW_none, errW_some] <;> rfl), by repeat (first | (with_reducible first | exact HB.out | apply XA | apply XN | apply XD) | exact HB.out)⟩
 ·rw [if_neg c3] at H;have c3b0 : (t195 == 300) = false := beq_eq_false_iff_ne.mpr c3;have c3b1 : (t195 != 300) = true := bne_iff_ne.mpr c3;obtain rfl := Option.some.inj H
  go_enter Tryz.func10, Tryz.ntmps10
  go_wp2_with (first | ((with_reducible refine gate_callee (f := 8) rfl ?_); refine goesL_ (some 6) rfl rfl Tryz.func8 kr rfl #[.string (⟨#[53, 109]⟩ : ByteArray)] rfl sa ?_; (with_reducible refine (value_Seconds.calls (⟨#[53, 109]⟩ : ByteArray) t195 t196 _ A1.out ?side1).mono ?_); (case side1 => first | exact hG | exact GL.below hG (be HB.out) | (repeat (first | exact hG | apply GL.drewN | apply GL.drew | apply GL.alloc))); rintro e w13 ⟨rfl, hb⟩; refine ⟨_, rfl, ?_⟩; replace HB := As (XT (be HB.out) hb); (try clear hb); (try clear hb2); (try clear hk); (try clear hi); (try simp only [errW_none, errW_some])) | ((with_reducible refine gate_callee (f := 16) rfl ?_); refine goesL_ (some 10) rfl rfl Tryz.func16 kr rfl #[.string (⟨#[100, 44, 117]⟩ : ByteArray), .string (⟨#[100, 117, 114]⟩ : ByteArray)] rfl sa ?_; (with_reducible refine (value_Options.calls k (⟨#[100, 44, 117]⟩ : ByteArray) (⟨#[100, 117, 114]⟩ : ByteArray) t197 t198 _ A2.out ?side1).mono ?_); (case side1 => first | exact hG | exact GL.below hG (be HB.out) | (repeat (first | exact hG | apply GL.drewN | apply GL.drew | apply GL.alloc))); rintro e w14 ⟨rfl, hb⟩; refine ⟨_, rfl, ?_⟩; replace HB := As (XT (be HB.out) hb); (try clear hb); (try clear hb2); (try clear hk); (try clear hi); (try simp only [errW_none, errW_some])))
  go_ret
  exact ⟨by first | rfl | (simp [errW_none, errW_some] <;> rfl) | (simp [*, errW_none, errW_some] <;> rfl), by repeat (first | (with_reducible first | exact HB.out | apply XA | apply XN | apply XD) | exact HB.out)⟩

/-! ### belvedereref10_trim: function 39 -/
mutual
def belvedereref10_trim.j1 : Nat → ByteArray → Option (ByteArray)
 | 0, _ => none
 | k + 1, x0 => belvedereref10_trim.l1 k x0
def belvedereref10_trim.l1 : Nat → ByteArray → Option (ByteArray)
 | 0, _ => none
 | k + 1, x0 => if (x0.size : Int) > 0 then (if 0 ≤ (wrap64 ((x0.size : Int) - 1)) then (if (wrap64 ((x0.size : Int) - 1)) < (x0.size : Int) then (if (bt x0 (wrap64 ((x0.size : Int) - 1))) = 32 then (if (wrap64 ((x0.size : Int) - 1)) ≤ (x0.size : Int) then (belvedereref10_trim.l1 k (x0.extract 0 ((wrap64 ((x0.size : Int) - 1)) : Int).toNat)) else (none)) else (if (bt x0 (wrap64 ((x0.size : Int) - 1))) = 9 then (if (wrap64 ((x0.size : Int) - 1)) ≤ (x0.size : Int) then (belvedereref10_trim.l1 k (x0.extract 0 ((wrap64 ((x0.size : Int) - 1)) : Int).toNat)) else (none)) else (some x0))) else (none)) else (none)) else (some x0)
def belvedereref10_trim.l0 : Nat → ByteArray → Option (ByteArray)
 | 0, _ => none
 | k + 1, x0 => if (x0.size : Int) > 0 then (if 0 < (x0.size : Int) then (if (bt x0 0) = 32 then (if 1 ≤ (x0.size : Int) then (belvedereref10_trim.l0 k (x0.extract 1 x0.size)) else (none)) else (if (bt x0 0) = 9 then (if 1 ≤ (x0.size : Int) then (belvedereref10_trim.l0 k (x0.extract 1 x0.size)) else (none)) else (belvedereref10_trim.j1 k x0))) else (none)) else (belvedereref10_trim.j1 k x0)
end
def belvedereref10_trim.f (k : Nat) (a0 : ByteArray) : Option (ByteArray) := belvedereref10_trim.l0 k a0
theorem belvedereref10_trim.mono_l : ∀ k, (∀ y0, LeO (belvedereref10_trim.j1 k y0) (belvedereref10_trim.j1 (k + 1) y0)) ∧ (∀ y0, LeO (belvedereref10_trim.l1 k y0) (belvedereref10_trim.l1 (k + 1) y0)) ∧ (∀ y0, LeO (belvedereref10_trim.l0 k y0) (belvedereref10_trim.l0 (k + 1) y0))
 | 0 => ⟨fun _ r h => by simp [belvedereref10_trim.j1] at h, fun _ r h => by simp [belvedereref10_trim.l1] at h, fun _ r h => by simp [belvedereref10_trim.l0] at h⟩
 | k + 1 => by
  obtain ⟨ih0, ih1, ih2⟩ := belvedereref10_trim.mono_l k;refine ⟨?_, ?_, ?_⟩
  ·intro y0;unfold belvedereref10_trim.j1
   repeat' first
   | (with_reducible exact ih0 _)
   | (with_reducible exact ih1 _)
   | (with_reducible exact ih2 _)
   | (with_reducible exact LeO.refl _)
   | (with_reducible exact LeO.none _)
   | (with_reducible refine LeO.ite ?_ ?_)
   | (with_reducible refine LeO.bind ?_ (fun _ => ?_))
   | exact ih0 _
   | exact ih1 _
   | exact ih2 _
   | exact LeO.none _
   | refine LeO.ite ?_ ?_
   | refine LeO.bind ?_ (fun _ => ?_)
  ·intro y0;unfold belvedereref10_trim.l1
   repeat' first
   | (with_reducible exact ih0 _)
   | (with_reducible exact ih1 _)
   | (with_reducible exact ih2 _)
   | (with_reducible exact LeO.refl _)
   | (with_reducible exact LeO.none _)
   | (with_reducible refine LeO.ite ?_ ?_)
   | (with_reducible refine LeO.bind ?_ (fun _ => ?_))
   | exact ih0 _
   | exact ih1 _
   | exact ih2 _
   | exact LeO.none _
   | refine LeO.ite ?_ ?_
   | refine LeO.bind ?_ (fun _ => ?_)
  ·intro y0;unfold belvedereref10_trim.l0
   repeat' first
   | (with_reducible exact ih0 _)
   | (with_reducible exact ih1 _)
   | (with_reducible exact ih2 _)
   | (with_reducible exact LeO.refl _)
   | (with_reducible exact LeO.none _)
   | (with_reducible refine LeO.ite ?_ ?_)
   | (with_reducible refine LeO.bind ?_ (fun _ => ?_))
   | exact ih0 _
   | exact ih1 _
   | exact ih2 _
   | exact LeO.none _
   | refine LeO.ite ?_ ?_
   | refine LeO.bind ?_ (fun _ => ?_)
theorem belvedereref10_trim.mono : ∀ a0 k, LeO (belvedereref10_trim.f k a0) (belvedereref10_trim.f (k + 1) a0) := by
 intro a0 k;obtain ⟨ih0, ih1, ih2⟩ := belvedereref10_trim.mono_l k;unfold belvedereref10_trim.f
 repeat' first
   | (with_reducible exact ih0 _)
   | (with_reducible exact ih1 _)
   | (with_reducible exact ih2 _)
   | (with_reducible exact LeO.refl _)
   | (with_reducible exact LeO.none _)
   | (with_reducible refine LeO.ite ?_ ?_)
   | (with_reducible refine LeO.bind ?_ (fun _ => ?_))
   | exact ih0 _
   | exact ih1 _
   | exact ih2 _
   | exact LeO.none _
   | refine LeO.ite ?_ ?_
   | refine LeO.bind ?_ (fun _ => ?_)
set_option maxHeartbeats 8000000 in
set_option maxRecDepth 100000 in
theorem belvedereref10_trim.calls (k : Nat) (a0 : ByteArray) (r : ByteArray) (w : World) (h : belvedereref10_trim.f k a0 = some r) :
  Calls Tryz.prog 39 #[.string a0] w fun e w' => e = .returned (.string r) ∧ Drawn0 w w' := by
 have H : (belvedereref10_trim.l0 k a0) = some r := h;clear h;have HC2 := As H;clear H
 go_enter Tryz.func39, Tryz.ntmps39
 go_upto_block 0 with (fail)
 go_cut [0] (fun v0 wc => ∃ (kq : Nat) (x0_1 : ByteArray), v0 = .string x0_1 ∧ Aside0 (belvedereref10_trim.j1 kq x0_1 = some r) ∧ Aside0 (kq ≤ k) ∧ Drawn0 w wc)
 case first =>
  have H := HC2.out;clear HC2;have H' := As H;clear H
  go_wp2
  go_loopg [0] k (fun kq v0 w' => ∃ (x0_1 : ByteArray), v0 = .string x0_1 ∧ Aside0 (belvedereref10_trim.l0 kq x0_1 = some r) ∧ Aside0 (kq ≤ k) ∧ Drawn0 w w')
  case atStart => exact ⟨(a0), sw, H', ⟨Nat.le_refl _⟩, by repeat (first | exact Drawn0.refl _ | apply Drawn0.step)⟩
  case round =>
   clear H'
   try clear p2
   obtain ⟨x0_1, rfl, HA, HK1, ⟨m1, rfl⟩⟩ := hrel
   cases gk with
   | zero => exact absurd HA.out (by simp [belvedereref10_trim.l0])
   | succ k1 =>
    have H := HA.out;clear HA;simp only [belvedereref10_trim.l0] at H
    by_cases c3 : (x0_1.size : Int) > 0
    focus
     rw [if_pos c3] at H;have c3b0 : decide (0 < (x0_1.size : Int)) = true := dY c3;have c3b1 : decide (0 < x0_1.size) = true := dY (by omega);clear c3
     (first | rw [c3b0] | (simp only [i64_w, i32_w]; rw [c3b0]) | skip)
     by_cases c4 : 0 < (x0_1.size : Int)
     rotate_left
     ·rw [if_neg c4] at H;exact absurd H (by simp)
     rw [if_pos c4] at H;have c4b0 : decide (0 < (x0_1.size : Int)) = true := dY c4;have c4b1 : decide (0 < x0_1.size) = true := dY (by omega);clear c4
     by_cases c6 : (bt x0_1 0) = 32
     focus
      rw [if_pos c6] at H;have c6b0 : ((bt x0_1 0) == 32) = true := beq_iff_eq.mpr c6;have c6b1 : ((bt x0_1 0) != 32) = false := bne_eq_false_iff_eq.mpr c6;clear c6
      by_cases c7 : 1 ≤ (x0_1.size : Int)
      rotate_left
      ·rw [if_neg c7] at H;exact absurd H (by simp)
      rw [if_pos c7] at H;have c7b0 := eq_true c7;have c7b1 : decide (1 ≤ (x0_1.size : Int)) = true := dY c7;clear c7;have H' := As H;clear H
      have p5 : 0 ≤ (0 : Int) := (by omega)
      have q5 : 0 < x0_1.size := (by have : (0 : Int) < (x0_1.size : Int) := dT hy; omega)
      have hx5 : ∀ h : 0 < x0_1.size, ((x0_1[0]'h).toNat : Int) = bt x0_1 0 := bt_at x0_1 0;clear p5;have qi5 : (0 < (x0_1.size : Int)) = True := eq_true (dT hy);replace q5 := eq_true q5
      have m2_ := trivial
     rotate_left
     focus
      rw [if_neg c6] at H;have c6b0 : ((bt x0_1 0) == 32) = false := beq_eq_false_iff_ne.mpr c6;have c6b1 : ((bt x0_1 0) != 32) = true := bne_iff_ne.mpr c6
      by_cases c9 : (bt x0_1 0) = 9
      focus
       rw [if_pos c9] at H;have c9b0 : ((bt x0_1 0) == 9) = true := beq_iff_eq.mpr c9;have c9b1 : ((bt x0_1 0) != 9) = false := bne_eq_false_iff_eq.mpr c9;clear c9
       by_cases c10 : 1 ≤ (x0_1.size : Int)
       rotate_left
       ·rw [if_neg c10] at H;exact absurd H (by simp)
       rw [if_pos c10] at H;have c10b0 := eq_true c10;have c10b1 : decide (1 ≤ (x0_1.size : Int)) = true := dY c10;clear c10;have H' := As H;clear H
       have p5 : 0 ≤ (0 : Int) := (by omega)
       have q5 : 0 < x0_1.size := (by have : (0 : Int) < (x0_1.size : Int) := dT hy; omega)
       have hx5 : ∀ h : 0 < x0_1.size, ((x0_1[0]'h).toNat : Int) = bt x0_1 0 := bt_at x0_1 0;clear p5;have qi5 : (0 < (x0_1.size : Int)) = True := eq_true (dT hy);replace q5 := eq_true q5
       have p8 : 0 ≤ (0 : Int) := (by omega)
       have q8 : 0 < x0_1.size := (by have : (0 : Int) < (x0_1.size : Int) := dT hy; omega)
       have hx8 : ∀ h : 0 < x0_1.size, ((x0_1[0]'h).toNat : Int) = bt x0_1 0 := bt_at x0_1 0;clear p8;have qi8 : (0 < (x0_1.size : Int)) = True := eq_true (dT hy);replace q8 := eq_true q8
       have m1_ := trivial
      rotate_left
      rw [if_neg c9] at H;have c9b0 : ((bt x0_1 0) == 9) = false := beq_eq_false_iff_ne.mpr c9;have c9b1 : ((bt x0_1 0) != 9) = true := bne_iff_ne.mpr c9;have H' := As H;clear H
      have p5 : 0 ≤ (0 : Int) := (by omega)
      have q5 : 0 < x0_1.size := (by have : (0 : Int) < (x0_1.size : Int) := dT hy; omega)
      have hx5 : ∀ h : 0 < x0_1.size, ((x0_1[0]'h).toNat : Int) = bt x0_1 0 := bt_at x0_1 0;clear p5;have qi5 : (0 < (x0_1.size : Int)) = True := eq_true (dT hy);replace q5 := eq_true q5
      have p8 : 0 ≤ (0 : Int) := (by omega)
      have q8 : 0 < x0_1.size := (by have : (0 : Int) < (x0_1.size : Int) := dT hy; omega)
      have hx8 : ∀ h : 0 < x0_1.size, ((x0_1[0]'h).toNat : Int) = bt x0_1 0 := bt_at x0_1 0;clear p8;have qi8 : (0 < (x0_1.size : Int)) = True := eq_true (dT hy);replace q8 := eq_true q8
      have m4_ := trivial
    rotate_left 3
    rw [if_neg c3] at H;have c3b0 : decide (0 < (x0_1.size : Int)) = false := dN c3;have c3b1 : decide (0 < x0_1.size) = false := dN (by omega);clear c3
    (first | rw [c3b0] | (simp only [i64_w, i32_w]; rw [c3b0]) | skip)
    have H' := As H;clear H
    have m3_ := trivial
    all_goals go_wp2
    all_goals try
     first | (clear m1_; have m1_ := trivial) | (clear m2_; have m2_ := trivial)
     go_roundg k1
     case measure => have := HK1.out; omega
     case rel => exact ⟨(x0_1.extract 1 x0_1.size), sw, H', ⟨by have := HK1.out; omega⟩, by repeat (first | exact Drawn0.refl _ | apply Drawn0.step)⟩
    all_goals
     go_meet
     case rel => exact ⟨_, (x0_1), sw, H', ⟨by have := HK1.out; first | omega | exact Nat.le_refl _⟩, by repeat (first | exact Drawn0.refl _ | apply Drawn0.step)⟩
 case rest =>
  clear HC2
  try clear c1
  try clear p2
  try clear c3
  try clear c3b0
  try clear c3b1
  try clear c4
  try clear c4b0
  try clear c4b1
  try clear p5
  try clear q5
  try clear hx5
  try clear qi5
  try clear c6
  try clear c6b0
  try clear c6b1
  try clear p6
  try clear c7
  try clear c7b0
  try clear c7b1
  try clear p8
  try clear q8
  try clear hx8
  try clear qi8
  try clear c9
  try clear c9b0
  try clear c9b1
  try clear c10
  try clear c10b0
  try clear c10b1
  try clear p2
  try clear p5
  try clear p8
  try clear q5
  try clear q8
  obtain ⟨kq, x0_1, rfl, HA, HJ1, ⟨mc1, rfl⟩⟩ := hcut
  cases kq with
  | zero => exact absurd HA.out (by simp [belvedereref10_trim.j1])
  | succ kj1 =>
   have H := HA.out;clear HA;simp only [belvedereref10_trim.j1] at H;have H' := As H;clear H
   go_wp2
   go_loopg [0] kj1 (fun kq v0 w' => ∃ (x0_2 : ByteArray), v0 = .string x0_2 ∧ Aside0 (belvedereref10_trim.l1 kq x0_2 = some r) ∧ Aside0 (kq ≤ kj1) ∧ Drawn0 w w')
   case atStart => exact ⟨(x0_1), sw, H', ⟨Nat.le_refl _⟩, by repeat (first | exact Drawn0.refl _ | apply Drawn0.step)⟩
   case round =>
    clear H'
    try clear c1
    try clear p2
    try clear c3
    try clear c3b0
    try clear c3b1
    try clear c4
    try clear c4b0
    try clear c4b1
    try clear p5
    try clear q5
    try clear hx5
    try clear qi5
    try clear c6
    try clear c6b0
    try clear c6b1
    try clear p6
    try clear c7
    try clear c7b0
    try clear c7b1
    try clear p8
    try clear q8
    try clear hx8
    try clear qi8
    try clear c9
    try clear c9b0
    try clear c9b1
    try clear c10
    try clear c10b0
    try clear c10b1
    try clear p2
    try clear p5
    try clear p6
    try clear p8
    try clear q5
    try clear q8
    obtain ⟨x0_2, rfl, HA, HK2, ⟨m2, rfl⟩⟩ := hrel
    cases gk with
    | zero => exact absurd HA.out (by simp [belvedereref10_trim.l1])
    | succ k2 =>
     have H := HA.out;clear HA;simp only [belvedereref10_trim.l1] at H
     by_cases c11 : (x0_2.size : Int) > 0
     focus
      rw [if_pos c11] at H;have c11b0 : decide (0 < (x0_2.size : Int)) = true := dY c11;have c11b1 : decide (0 < x0_2.size) = true := dY (by omega);clear c11
      obtain ⟨ji12, hji12⟩ : ∃ j_ : Int, (wrap64 ((x0_2.size : Int) - 1)) = j_ := ⟨_, rfl⟩
      replace H : (if 0 ≤ (ji12) then (if (ji12) < (x0_2.size : Int) then (if (bt x0_2 (ji12)) = 32 then (if (ji12) ≤ (x0_2.size : Int) then (belvedereref10_trim.l1 k2 (x0_2.extract 0 ((ji12) : Int).toNat)) else (none)) else (if (bt x0_2 (ji12)) = 9 then (if (ji12) ≤ (x0_2.size : Int) then (belvedereref10_trim.l1 k2 (x0_2.extract 0 ((ji12) : Int).toNat)) else (none)) else (some x0_2))) else (none)) else (none)) = some r := by first | (rw [hji12] at H; exact H) | (simp only [hji12] at H ⊢; exact H)
      have hji12w : (IntKind.i64.wrap ((x0_2.size : Int) - 1)) = ji12 := (i64_w _).trans hji12
      by_cases c13 : 0 ≤ (ji12)
      rotate_left
      ·rw [if_neg c13] at H;exact absurd H (by simp)
      rw [if_pos c13] at H;have c13b0 : decide (0 ≤ (ji12)) = true := dY c13;clear c13
      by_cases c14 : (ji12) < (x0_2.size : Int)
      rotate_left
      ·rw [if_neg c14] at H;exact absurd H (by simp)
      rw [if_pos c14] at H;have c14b0 : decide ((ji12) < (x0_2.size : Int)) = true := dY c14;clear c14
      by_cases c16 : (bt x0_2 (ji12)) = 32
      focus
       rw [if_pos c16] at H;have c16b0 : ((bt x0_2 (ji12)) == 32) = true := beq_iff_eq.mpr c16;have c16b1 : ((bt x0_2 (ji12)) != 32) = false := bne_eq_false_iff_eq.mpr c16;clear c16;have c17b0 := eq_true (dT hy : 0 ≤ (ji12))
       by_cases c18 : (ji12) ≤ (x0_2.size : Int)
       rotate_left
       ·rw [if_neg c18] at H;exact absurd H (by simp)
       rw [if_pos c18] at H;have c18b0 := eq_true c18;have c18b1 : decide ((ji12) ≤ (x0_2.size : Int)) = true := dY c18;clear c18;have H' := As H;clear H;have p15 : 0 ≤ ((ji12) : Int) := dT hy;have q15 : (ji12) < (x0_2.size : Int) := dT hy;have hx15 := bt_at x0_2 (ji12);replace p15 := eq_true p15;replace q15 := eq_true q15
       have m6_ := trivial
      rotate_left
      focus
       rw [if_neg c16] at H;have c16b0 : ((bt x0_2 (ji12)) == 32) = false := beq_eq_false_iff_ne.mpr c16;have c16b1 : ((bt x0_2 (ji12)) != 32) = true := bne_iff_ne.mpr c16
       by_cases c20 : (bt x0_2 (ji12)) = 9
       focus
        rw [if_pos c20] at H;have c20b0 : ((bt x0_2 (ji12)) == 9) = true := beq_iff_eq.mpr c20;have c20b1 : ((bt x0_2 (ji12)) != 9) = false := bne_eq_false_iff_eq.mpr c20;clear c20;have c21b0 := eq_true (dT hy : 0 ≤ (ji12))
        by_cases c22 : (ji12) ≤ (x0_2.size : Int)
        rotate_left
        ·rw [if_neg c22] at H;exact absurd H (by simp)
        rw [if_pos c22] at H;have c22b0 := eq_true c22;have c22b1 : decide ((ji12) ≤ (x0_2.size : Int)) = true := dY c22;clear c22;have H' := As H;clear H;have p15 : 0 ≤ ((ji12) : Int) := dT hy;have q15 : (ji12) < (x0_2.size : Int) := dT hy;have hx15 := bt_at x0_2 (ji12);replace p15 := eq_true p15;replace q15 := eq_true q15;have p19 : 0 ≤ ((ji12) : Int) := dT hy;have q19 : (ji12) < (x0_2.size : Int) := dT hy;have hx19 := bt_at x0_2 (ji12);replace p19 := eq_true p19;replace q19 := eq_true q19
        have m5_ := trivial
       rotate_left
       rw [if_neg c20] at H;have c20b0 : ((bt x0_2 (ji12)) == 9) = false := beq_eq_false_iff_ne.mpr c20;have c20b1 : ((bt x0_2 (ji12)) != 9) = true := bne_iff_ne.mpr c20;obtain rfl := Option.some.inj H;have p15 : 0 ≤ ((ji12) : Int) := dT hy;have q15 : (ji12) < (x0_2.size : Int) := dT hy;have hx15 := bt_at x0_2 (ji12);replace p15 := eq_true p15;replace q15 := eq_true q15;have p19 : 0 ≤ ((ji12) : Int) := dT hy;have q19 : (ji12) < (x0_2.size : Int) := dT hy;have hx19 := bt_at x0_2 (ji12);replace p19 := eq_true p19;replace q19 := eq_true q19
       have m8_ := trivial
     rotate_left 3
     rw [if_neg c11] at H;have c11b0 : decide (0 < (x0_2.size : Int)) = false := dN c11;have c11b1 : decide (0 < x0_2.size) = false := dN (by omega);clear c11;obtain rfl := Option.some.inj H
     have m7_ := trivial
     all_goals go_wp2
     all_goals try
      first | (clear m5_; have m5_ := trivial) | (clear m6_; have m6_ := trivial)
      go_roundg k2
      case measure => have := HJ1.out; have := HK2.out; omega
      case rel => exact ⟨(x0_2.extract 0 ((ji12) : Int).toNat), (by first | rfl | (simp; done) | (simp only [← hji12] <;> (first | rfl | simp)) | (simp [*]; done)), H', ⟨by have := HJ1.out; have := HK2.out; omega⟩, by repeat (first | exact Drawn0.refl _ | apply Drawn0.step)⟩
     all_goals go_ret
     ·exact ⟨by first | rfl | (simp; done) | (simp [*]; done) | (simp; unfold wrap64; omega), by repeat (first | exact Drawn0.refl _ | apply Drawn0.step)⟩
     ·exact ⟨by first | rfl | (simp; done) | (simp only [← hji12] <;> (first | rfl | simp)) | (simp [*]; done), by repeat (first | exact Drawn0.refl _ | apply Drawn0.step)⟩

end Go.Proofs.YtahjnjlkpbjfnaaGreatDoor.P
-- SHRUNK
-- PACKED
-- PACKED2
