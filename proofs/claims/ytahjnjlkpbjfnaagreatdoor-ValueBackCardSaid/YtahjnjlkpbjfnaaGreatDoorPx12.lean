-- written by myprint.py (this claim's own program, after the kit's print)
import Derived.Test.YtahjnjlkpbjfnaaGreatDoorPx0
import Derived.Test.YtahjnjlkpbjfnaaGreatDoorPx11
import Derived.Test.YtahjnjlkpbjfnaaGreatDoorVaRep
import Derived.Test.YtahjnjlkpbjfnaaGreatDoorVaShelf
import Derived.Test.YtahjnjlkpbjfnaaGreatDoorPack
namespace Go.Proofs.YtahjnjlkpbjfnaaGreatDoor.P
open Go.RowKit Go.Proofs.YtahjnjlkpbjfnaaGreatDoorW.PrintWords Go.Proofs.YtahjnjlkpbjfnaaGreatDoorW.PrintLast Go.Proofs.YtahjnjlkpbjfnaaGreatDoorW.PrintMore
attribute [local go_sem] max2_int min2_int max_two min_two max_three min_three max_four min_four   -- for this text's walks alone
set_option linter.unusedVariables false
set_option linter.unusedSimpArgs false

/-! ### slices_IndexFunc_string_string__at_1_value_Joined_1_71: function 71 -/
def slices_IndexFunc_string_string__at_1_value_Joined_1_71.l0 : Nat → List ByteArray → Int → Int → Option (Int)
 | 0, _, _, _ => none
 | k + 1, x0, x7, x8 => if x8 < x7 then (if 0 ≤ x8 then (if x8 < (x0.length : Int) then ((value_Joined_1.f (rdOf ByteArray.empty x0 x8)).bind fun t251 => (if t251 = true then (some x8) else (slices_IndexFunc_string_string__at_1_value_Joined_1_71.l0 k x0 x7 (wrap64 (x8 + 1))))) else (none)) else (none)) else (some (-1))
def slices_IndexFunc_string_string__at_1_value_Joined_1_71.f (k : Nat) (l0 : List ByteArray)  : Option (Int) := slices_IndexFunc_string_string__at_1_value_Joined_1_71.l0 k l0 (l0.length : Int) 0
theorem slices_IndexFunc_string_string__at_1_value_Joined_1_71.mono_l : ∀ k, (∀ y0 y1 y2, LeO (slices_IndexFunc_string_string__at_1_value_Joined_1_71.l0 k y0 y1 y2) (slices_IndexFunc_string_string__at_1_value_Joined_1_71.l0 (k + 1) y0 y1 y2))
 | 0 => fun _ _ _ r h => by simp [slices_IndexFunc_string_string__at_1_value_Joined_1_71.l0] at h
 | k + 1 => by
  have ih0 := slices_IndexFunc_string_string__at_1_value_Joined_1_71.mono_l k
  ·intro y0 y1 y2;unfold slices_IndexFunc_string_string__at_1_value_Joined_1_71.l0
   repeat' first
   | (with_reducible exact ih0 _ _ _)
   | (with_reducible exact LeO.refl _)
   | (with_reducible exact LeO.none _)
   | (with_reducible refine LeO.ite ?_ ?_)
   | (with_reducible refine LeO.bind ?_ (fun _ => ?_))
   | exact ih0 _ _ _
   | exact LeO.none _
   | refine LeO.ite ?_ ?_
   | refine LeO.bind ?_ (fun _ => ?_)
theorem slices_IndexFunc_string_string__at_1_value_Joined_1_71.mono : ∀ a0 k, LeO (slices_IndexFunc_string_string__at_1_value_Joined_1_71.f k a0) (slices_IndexFunc_string_string__at_1_value_Joined_1_71.f (k + 1) a0) := by
 intro a0 k;have ih0 := slices_IndexFunc_string_string__at_1_value_Joined_1_71.mono_l k;unfold slices_IndexFunc_string_string__at_1_value_Joined_1_71.f
 repeat' first
   | (with_reducible exact ih0 _ _ _)
   | (with_reducible exact LeO.refl _)
   | (with_reducible exact LeO.none _)
   | (with_reducible refine LeO.ite ?_ ?_)
   | (with_reducible refine LeO.bind ?_ (fun _ => ?_))
   | exact ih0 _ _ _
   | exact LeO.none _
   | refine LeO.ite ?_ ?_
   | refine LeO.bind ?_ (fun _ => ?_)
set_option maxHeartbeats 8000000 in
set_option maxRecDepth 100000 in
theorem slices_IndexFunc_string_string__at_1_value_Joined_1_71.calls (k : Nat) (A0 : Option Addr) (c0 : Nat) (l0 : List ByteArray)  (r : Int) (w : World) (hr0 : Kd.C Kd.string w A0 l0.length l0) (hc0 : l0.length ≤ c0) (h : slices_IndexFunc_string_string__at_1_value_Joined_1_71.f k l0 = some r) (hG : GL w) :
  Calls Tryz.prog 71 #[.slice A0 l0.length c0, .func (.func 41) #[] #[]] w fun e w' => e = .returned (.int .i64 r) ∧ Below w.heap.size w w' := by
 have HR0 := As hr0;have HC0 := As hc0;clear hr0 hc0;have HB := As (Below.refl w.heap.size w);have H : (slices_IndexFunc_string_string__at_1_value_Joined_1_71.l0 k l0 (l0.length : Int) 0) = some r := h;clear h;have H' := As H;clear H
 go_enter Tryz.func71, Tryz.ntmps71
 go_wp2
 go_loopg [8] k (fun kq v8 w' => ∃ (x8_1 : Int), v8 = .int .i64 x8_1 ∧ Aside0 (slices_IndexFunc_string_string__at_1_value_Joined_1_71.l0 kq l0 (l0.length : Int) x8_1 = some r) ∧ Aside0 (kq ≤ k) ∧ Aside0 (Below w.heap.size w w'))
 case atStart => exact ⟨(0), sw, H', ⟨Nat.le_refl _⟩, ⟨by repeat (first | (with_reducible first | exact HB.out | apply XA | apply XN | apply XD) | exact HB.out)⟩⟩
 case round =>
  clear H'
  try clear p2
  obtain ⟨x8_1, rfl, HA, HK1, HB⟩ := hrel
  cases gk with
  | zero => exact absurd HA.out (by simp [slices_IndexFunc_string_string__at_1_value_Joined_1_71.l0])
  | succ k1 =>
   have H := HA.out;clear HA;simp only [slices_IndexFunc_string_string__at_1_value_Joined_1_71.l0] at H
   by_cases c3 : x8_1 < (l0.length : Int)
   ·rw [if_pos c3] at H;have c3b0 : decide (x8_1 < (l0.length : Int)) = true := dY c3;clear c3
    by_cases c4 : 0 ≤ x8_1
    ·rw [if_pos c4] at H;have c4b0 : decide (0 ≤ x8_1) = true := dY c4;clear c4
     by_cases c5 : x8_1 < (l0.length : Int)
     ·rw [if_pos c5] at H;have c5b0 : decide (x8_1 < (l0.length : Int)) = true := dY c5;clear c5;replace H := bE H;obtain ⟨t251, A60, H⟩ := H;replace H : (if t251 = true then (some x8_1) else (slices_IndexFunc_string_string__at_1_value_Joined_1_71.l0 k1 l0 (l0.length : Int) (wrap64 (x8_1 + 1)))) = some r := H;have A6 := As A60;clear A60
      by_cases c7 : t251 = true
      ·subst c7
       have H1 : (some x8_1) = some r := by rw [if_pos rfl] at H; exact H
       clear H;have H := H1;clear H1;obtain rfl := Option.some.inj H;have p250 : 0 ≤ (x8_1 : Int) := dT hy;have q250 : x8_1 < (l0.length : Int) := dT hy;obtain ⟨ad250, e250, hx250_0⟩ := Kd.at_string HR0.out x8_1 p250 q250
       cases e250
       replace hx250_0 := (HB.out.cell (BL w _ hx250_0)).trans hx250_0;replace p250 := eq_true p250;replace q250 := eq_true q250
       go_wp2_with (first | ((with_reducible refine gate_dst (N := 16) rfl ?_); refine goesT_ (some 16) rfl rfl Tryz.func41 kr rfl #[.string (rdOf ByteArray.empty l0 x8_1)] rfl rfl sa ?_; (with_reducible refine (value_Joined_1.calls (rdOf ByteArray.empty l0 x8_1) true _ A6.out ?side1).mono ?_); (case side1 => first | exact hG | exact GL.below hG (be HB.out) | (repeat (first | exact hG | apply GL.drewN | apply GL.drew | apply GL.alloc))); rintro e w8 ⟨rfl, hb⟩; refine ⟨_, rfl, ?_⟩; replace HB := As (XT (be HB.out) hb); (try clear hb); (try clear hb2); (try clear hk); (try clear hi)))
       go_ret
       exact ⟨by first | rfl | (simp [errW_none, errW_some] <;> rfl) | (simp [*, errW_none, errW_some] <;> rfl), by repeat (first | (with_reducible first | exact HB.out | apply XA | apply XN | apply XD) | exact HB.out)⟩
      ·replace c7 := Bool.eq_false_iff.mpr c7;subst c7
       have H1 : (slices_IndexFunc_string_string__at_1_value_Joined_1_71.l0 k1 l0 (l0.length : Int) (wrap64 (x8_1 + 1))) = some r := by rw [if_neg (show ¬ (false = true) by decide)] at H; exact H
       clear H;have H := H1;clear H1;have H' := As H;clear H;have p250 : 0 ≤ (x8_1 : Int) := dT hy;have q250 : x8_1 < (l0.length : Int) := dT hy;obtain ⟨ad250, e250, hx250_0⟩ := Kd.at_string HR0.out x8_1 p250 q250
       cases e250
       replace hx250_0 := (HB.out.cell (BL w _ hx250_0)).trans hx250_0;replace p250 := eq_true p250;replace q250 := eq_true q250
       go_wp2_with (first | ((with_reducible refine gate_dst (N := 16) rfl ?_); refine goesT_ (some 16) rfl rfl Tryz.func41 kr rfl #[.string (rdOf ByteArray.empty l0 x8_1)] rfl rfl sa ?_; (with_reducible refine (value_Joined_1.calls (rdOf ByteArray.empty l0 x8_1) false _ A6.out ?side1).mono ?_); (case side1 => first | exact hG | exact GL.below hG (be HB.out) | (repeat (first | exact hG | apply GL.drewN | apply GL.drew | apply GL.alloc))); rintro e w9 ⟨rfl, hb⟩; refine ⟨_, rfl, ?_⟩; replace HB := As (XT (be HB.out) hb); (try clear hb); (try clear hb2); (try clear hk); (try clear hi)))
       go_roundg k1
       case measure => have := HK1.out; omega
       case rel => exact ⟨(wrap64 (x8_1 + 1)), sw, H', ⟨by have := HK1.out; omega⟩, ⟨by repeat (first | (with_reducible first | exact HB.out | apply XA | apply XN | apply XD) | exact HB.out)⟩⟩
     ·rw [if_neg c5] at H;exact absurd H (by simp)
    ·rw [if_neg c4] at H;exact absurd H (by simp)
   ·rw [if_neg c3] at H;have c3b0 : decide (x8_1 < (l0.length : Int)) = false := dN c3;clear c3;obtain rfl := Option.some.inj H
    go_wp2
    go_ret
    exact ⟨by first | rfl | (simp [errW_none, errW_some] <;> rfl) | (simp [*, errW_none, errW_some] <;> rfl), by repeat (first | (with_reducible first | exact HB.out | apply XA | apply XN | apply XD) | exact HB.out)⟩

/-! ### slices_ContainsFunc_string_string__at_1_value_Joined_1_42: function 42 -/
def slices_ContainsFunc_string_string__at_1_value_Joined_1_42.f (k : Nat) (l0 : List ByteArray)  : Option (Bool) := (slices_IndexFunc_string_string__at_1_value_Joined_1_71.f k l0).bind fun t252 => (some (decide (t252 ≥ 0)))
theorem slices_ContainsFunc_string_string__at_1_value_Joined_1_42.mono : ∀ a0 k, LeO (slices_ContainsFunc_string_string__at_1_value_Joined_1_42.f k a0) (slices_ContainsFunc_string_string__at_1_value_Joined_1_42.f (k + 1) a0) := by
 intro a0 k;unfold slices_ContainsFunc_string_string__at_1_value_Joined_1_42.f
 repeat' first
   | (with_reducible exact slices_IndexFunc_string_string__at_1_value_Joined_1_71.mono _ _)
   | (with_reducible exact LeO.refl _)
   | (with_reducible exact LeO.none _)
   | (with_reducible refine LeO.ite ?_ ?_)
   | (with_reducible refine LeO.bind ?_ (fun _ => ?_))
   | exact slices_IndexFunc_string_string__at_1_value_Joined_1_71.mono _ _
   | exact LeO.none _
   | refine LeO.ite ?_ ?_
   | refine LeO.bind ?_ (fun _ => ?_)
set_option maxHeartbeats 8000000 in
set_option maxRecDepth 100000 in
theorem slices_ContainsFunc_string_string__at_1_value_Joined_1_42.calls (k : Nat) (A0 : Option Addr) (c0 : Nat) (l0 : List ByteArray)  (r : Bool) (w : World) (hr0 : Kd.C Kd.string w A0 l0.length l0) (hc0 : l0.length ≤ c0) (h : slices_ContainsFunc_string_string__at_1_value_Joined_1_42.f k l0 = some r) (hG : GL w) :
  Calls Tryz.prog 42 #[.slice A0 l0.length c0, .func (.func 41) #[] #[]] w fun e w' => e = .returned (.bool r) ∧ Below w.heap.size w w' := by
 have HR0 := As hr0;have HC0 := As hc0;clear hr0 hc0;have HB := As (Below.refl w.heap.size w);have H : ((slices_IndexFunc_string_string__at_1_value_Joined_1_71.f k l0).bind fun t252 => (some (decide (t252 ≥ 0)))) = some r := h;clear h;replace H := bE H;obtain ⟨t252, A30, H⟩ := H;replace H : (some (decide (t252 ≥ 0))) = some r := H;have A3 := As A30;clear A30;obtain rfl := Option.some.inj H
 go_enter Tryz.func42, Tryz.ntmps42
 go_wp2_with (first | ((with_reducible refine gate_callee (f := 71) rfl ?_); refine goesL_ (some 7) rfl rfl Tryz.func71 kr rfl #[.slice A0 l0.length c0, .func (.func 41) #[] #[]] rfl sa ?_; (with_reducible refine (slices_IndexFunc_string_string__at_1_value_Joined_1_71.calls k _ _ l0  t252 _ ?side1 ?side2 A3.out ?side3).mono ?_); (case side1 => repeat (first | exact HR0.out | (with_reducible refine Kd.C_alloc ?_ _) | (with_reducible refine Kd.C_drewN ?_ _) | (with_reducible refine Kd.C_drew ?_))); (case side2 => exact HC0.out); (case side3 => first | exact hG | exact GL.below hG (be HB.out) | (repeat (first | exact hG | apply GL.drewN | apply GL.drew | apply GL.alloc))); rintro e w4 ⟨rfl, hb⟩; refine ⟨_, rfl, ?_⟩; replace HB := As (XT (be HB.out) hb); (try clear hb); (try clear hb2); (try clear hk); (try clear hi)))
 go_ret
 exact ⟨by first | rfl | (simp [errW_none, errW_some] <;> rfl) | (simp [*, errW_none, errW_some] <;> rfl), by repeat (first | (with_reducible first | exact HB.out | apply XA | apply XN | apply XD) | exact HB.out)⟩

/-! ### value_Joined: function 22 -/
def value_Joined.f (k : Nat) (l0 : List ByteArray) : Option (ByteArray × Option Int) := if (l0.length : Int) = 0 then (some ((⟨#[]⟩ : ByteArray), some 13)) else ((slices_ContainsFunc_string_string__at_1_value_Joined_1_42.f k l0).bind fun t253 => (if t253 = true then (some ((⟨#[]⟩ : ByteArray), some 3)) else ((value_repeated.f l0).bind fun t254 => (if t254 = true then (some ((⟨#[]⟩ : ByteArray), some 7)) else (if (l0.length : Int) > 4096 then (some ((⟨#[]⟩ : ByteArray), some 2)) else ((strings_Join.f l0 (⟨#[44]⟩ : ByteArray)).bind fun t255 => (some (t255, none))))))))
theorem value_Joined.mono : ∀ a0 k, LeO (value_Joined.f k a0) (value_Joined.f (k + 1) a0) := by
 intro a0 k;unfold value_Joined.f
 repeat' first
   | (with_reducible exact slices_ContainsFunc_string_string__at_1_value_Joined_1_42.mono _ _)
   | (with_reducible exact LeO.refl _)
   | (with_reducible exact LeO.none _)
   | (with_reducible refine LeO.ite ?_ ?_)
   | (with_reducible refine LeO.bind ?_ (fun _ => ?_))
   | exact slices_ContainsFunc_string_string__at_1_value_Joined_1_42.mono _ _
   | exact LeO.none _
   | refine LeO.ite ?_ ?_
   | refine LeO.bind ?_ (fun _ => ?_)
set_option maxHeartbeats 8000000 in
set_option maxRecDepth 100000 in
theorem value_Joined.calls (k : Nat) (A0 : Option Addr) (c0 : Nat) (l0 : List ByteArray) (r1 : ByteArray) (r2 : Option Int) (w : World) (hr0 : Kd.C Kd.string w A0 l0.length l0) (hc0 : l0.length ≤ c0) (h : value_Joined.f k l0 = some (r1, r2)) (hG : GL w) :
  Calls Tryz.prog 22 #[.slice A0 l0.length c0] w fun e w' => e = .returned (.tuple #[.string r1, errW r2]) ∧ Below w.heap.size w w' := by
 have hu26 := Tryz.underlying26;have hu58 := Tryz.underlying58;have HR0 := As hr0;have HC0 := As hc0;clear hr0 hc0;have HB := As (Below.refl w.heap.size w);have H : (if (l0.length : Int) = 0 then (some ((⟨#[]⟩ : ByteArray), some 13)) else ((slices_ContainsFunc_string_string__at_1_value_Joined_1_42.f k l0).bind fun t253 => (if t253 = true then (some ((⟨#[]⟩ : ByteArray), some 3)) else ((value_repeated.f l0).bind fun t254 => (if t254 = true then (some ((⟨#[]⟩ : ByteArray), some 7)) else (if (l0.length : Int) > 4096 then (some ((⟨#[]⟩ : ByteArray), some 2)) else ((strings_Join.f l0 (⟨#[44]⟩ : ByteArray)).bind fun t255 => (some (t255, none))))))))) = some (r1, r2) := h;clear h
 by_cases c2 : (l0.length : Int) = 0
 rw [if_pos c2] at H;have c2b0 : ((l0.length : Int) == 0) = true := beq_iff_eq.mpr c2;have c2b1 : ((l0.length : Int) != 0) = false := bne_eq_false_iff_eq.mpr c2;clear c2;simp only [Option.some.injEq, Prod.mk.injEq] at H;obtain ⟨rfl, rfl⟩ := H
 rotate_left
 focus
  rw [if_neg c2] at H;have c2b0 : ((l0.length : Int) == 0) = false := beq_eq_false_iff_ne.mpr c2;have c2b1 : ((l0.length : Int) != 0) = true := bne_iff_ne.mpr c2
  have c2b2 : ¬ (l0 = []) := fun h_ => c2 (by rw [h_]; rfl)
  replace H := bE H;obtain ⟨t253, A30, H⟩ := H;replace H : (if t253 = true then (some ((⟨#[]⟩ : ByteArray), some 3)) else ((value_repeated.f l0).bind fun t254 => (if t254 = true then (some ((⟨#[]⟩ : ByteArray), some 7)) else (if (l0.length : Int) > 4096 then (some ((⟨#[]⟩ : ByteArray), some 2)) else ((strings_Join.f l0 (⟨#[44]⟩ : ByteArray)).bind fun t255 => (some (t255, none))))))) = some (r1, r2) := H;have A3 := As A30;clear A30
  by_cases c4 : t253 = true
  subst c4
  have H1 : (some ((⟨#[]⟩ : ByteArray), some 3)) = some (r1, r2) := by rw [if_pos rfl] at H; exact H
  clear H;have H := H1;clear H1;simp only [Option.some.injEq, Prod.mk.injEq] at H;obtain ⟨rfl, rfl⟩ := H
  rotate_left
  focus
   replace c4 := Bool.eq_false_iff.mpr c4;subst c4
   have H1 : ((value_repeated.f l0).bind fun t254 => (if t254 = true then (some ((⟨#[]⟩ : ByteArray), some 7)) else (if (l0.length : Int) > 4096 then (some ((⟨#[]⟩ : ByteArray), some 2)) else ((strings_Join.f l0 (⟨#[44]⟩ : ByteArray)).bind fun t255 => (some (t255, none)))))) = some (r1, r2) := by rw [if_neg (show ¬ (false = true) by decide)] at H; exact H
   clear H;have H := H1;clear H1;replace H := bE H;obtain ⟨t254, A60, H⟩ := H;replace H : (if t254 = true then (some ((⟨#[]⟩ : ByteArray), some 7)) else (if (l0.length : Int) > 4096 then (some ((⟨#[]⟩ : ByteArray), some 2)) else ((strings_Join.f l0 (⟨#[44]⟩ : ByteArray)).bind fun t255 => (some (t255, none))))) = some (r1, r2) := H;have A6 := As A60;clear A60
   by_cases c7 : t254 = true
   subst c7
   have H1 : (some ((⟨#[]⟩ : ByteArray), some 7)) = some (r1, r2) := by rw [if_pos rfl] at H; exact H
   clear H;have H := H1;clear H1;simp only [Option.some.injEq, Prod.mk.injEq] at H;obtain ⟨rfl, rfl⟩ := H
   have m3_ := trivial
   rotate_left
   focus
    replace c7 := Bool.eq_false_iff.mpr c7;subst c7
    have H1 : (if (l0.length : Int) > 4096 then (some ((⟨#[]⟩ : ByteArray), some 2)) else ((strings_Join.f l0 (⟨#[44]⟩ : ByteArray)).bind fun t255 => (some (t255, none)))) = some (r1, r2) := by rw [if_neg (show ¬ (false = true) by decide)] at H; exact H
    clear H;have H := H1;clear H1
    by_cases c10 : (l0.length : Int) > 4096
    rw [if_pos c10] at H;have c10b0 : decide (4096 < (l0.length : Int)) = true := dY c10;have c10b1 : decide (4096 < l0.length) = true := dY (by omega);clear c10;simp only [Option.some.injEq, Prod.mk.injEq] at H;obtain ⟨rfl, rfl⟩ := H
    have m2_ := trivial
    rotate_left
    rw [if_neg c10] at H;have c10b0 : decide (4096 < (l0.length : Int)) = false := dN c10;have c10b1 : decide (4096 < l0.length) = false := dN (by omega);clear c10;replace H := bE H;obtain ⟨t255, A130, H⟩ := H;replace H : (some (t255, none)) = some (r1, r2) := H;have A13 := As A130;clear A130;simp only [Option.some.injEq, Prod.mk.injEq] at H;obtain ⟨rfl, rfl⟩ := H
    have m1_ := trivial
 all_goals go_enter Tryz.func22, Tryz.ntmps22
 all_goals try
  first | (clear m1_; have m1_ := trivial) | (clear m2_; have m2_ := trivial) | (clear m3_; have m3_ := trivial)
  go_wp2_with (first | ((with_reducible refine gate_callee (f := 42) rfl ?_); refine goesL_ (some 13) rfl rfl Tryz.func42 kr rfl #[.slice A0 l0.length c0, .func (.func 41) #[] #[]] rfl sa ?_; (with_reducible refine (slices_ContainsFunc_string_string__at_1_value_Joined_1_42.calls k _ _ l0  false _ ?side1 ?side2 A3.out ?side3).mono ?_); (case side1 => repeat (first | exact HR0.out | (with_reducible refine Kd.C_alloc ?_ _) | (with_reducible refine Kd.C_drewN ?_ _) | (with_reducible refine Kd.C_drew ?_))); (case side2 => exact HC0.out); (case side3 => first | exact hG | exact GL.below hG (be HB.out) | (repeat (first | exact hG | apply GL.drewN | apply GL.drew | apply GL.alloc))); rintro e w14 ⟨rfl, hb⟩; refine ⟨_, rfl, ?_⟩; replace HB := As (XT (be HB.out) hb); (try clear hb); (try clear hb2); (try clear hk); (try clear hi)) | ((with_reducible refine gate_callee (f := 38) rfl ?_); refine goesL_ (some 17) rfl rfl Tryz.func38 kr rfl #[.slice A0 l0.length c0] rfl sa ?_; (with_reducible refine (value_repeated.calls _ _ l0 _ _ ?side1 ?side2 A6.out).mono ?_); (case side1 => repeat (first | exact (Kd.C_below HR0.out HB.out) | (with_reducible refine Kd.C_alloc ?_ _) | (with_reducible refine Kd.C_drewN ?_ _) | (with_reducible refine Kd.C_drew ?_))); (case side2 => exact HC0.out); rintro e w15 ⟨rfl, hb⟩; refine ⟨_, rfl, ?_⟩; replace HB := As (XT (be HB.out) hb); (try clear hb); (try clear hb2); (try clear hk); (try clear hi)) | ((with_reducible refine gate_callee (f := 34) rfl ?_); refine goesL_ (some 25) rfl rfl Tryz.func34 kr rfl #[.slice A0 l0.length c0, .string (⟨#[44]⟩ : ByteArray)] rfl sa ?_; (with_reducible refine (strings_Join.calls _ _ l0 (⟨#[44]⟩ : ByteArray) _ _ ?side1 ?side2 A13.out).mono ?_); (case side1 => repeat (first | exact (Kd.C_below HR0.out HB.out) | (with_reducible refine Kd.C_alloc ?_ _) | (with_reducible refine Kd.C_drewN ?_ _) | (with_reducible refine Kd.C_drew ?_))); (case side2 => exact HC0.out); rintro e w16 ⟨rfl, hb⟩; refine ⟨_, rfl, ?_⟩; replace HB := As (XT (be HB.out) hb); (try clear hb); (try clear hb2); (try clear hk); (try clear hi)))
  go_ret2
  exact ⟨by first | rfl | (simp [errW_none, errW_some] <;> rfl) | (simp [*, errW_none, errW_some] <;> rfl), by repeat (first | (with_reducible first | exact HB.out | apply XA | apply XN | apply XD) | exact HB.out)⟩
 ·go_wp2_with (first | ((with_reducible refine gate_callee (f := 42) rfl ?_); refine goesL_ (some 13) rfl rfl Tryz.func42 kr rfl #[.slice A0 l0.length c0, .func (.func 41) #[] #[]] rfl sa ?_; (with_reducible refine (slices_ContainsFunc_string_string__at_1_value_Joined_1_42.calls k _ _ l0  true _ ?side1 ?side2 A3.out ?side3).mono ?_); (case side1 => repeat (first | exact HR0.out | (with_reducible refine Kd.C_alloc ?_ _) | (with_reducible refine Kd.C_drewN ?_ _) | (with_reducible refine Kd.C_drew ?_))); (case side2 => exact HC0.out); (case side3 => first | exact hG | exact GL.below hG (be HB.out) | (repeat (first | exact hG | apply GL.drewN | apply GL.drew | apply GL.alloc))); rintro e w5 ⟨rfl, hb⟩; refine ⟨_, rfl, ?_⟩; replace HB := As (XT (be HB.out) hb); (try clear hb); (try clear hb2); (try clear hk); (try clear hi)))
  go_ret2
  exact ⟨by first | rfl | (simp [errW_none, errW_some] <;> rfl) | (simp [*, errW_none, errW_some] <;> rfl), by repeat (first | (with_reducible first | exact HB.out | apply XA | apply XN | apply XD) | exact HB.out)⟩
 ·go_wp2
  go_ret2
  exact ⟨by first | rfl | (simp [errW_none, errW_some] <;> rfl) | (simp [*, errW_none, errW_some] <;> rfl), by repeat (first | (with_reducible first | exact HB.out | apply XA | apply XN | apply XD) | exact HB.out)⟩

/-! ### belvederelaw10_texts: function 24 -/
def belvederelaw10_texts.l0 : Nat → List ByteArray → List ByteArray → Int → Option (Bool)
 | 0, _, _, _ => none
 | k + 1, x0, x1, x5 => if x5 < (x0.length : Int) then (if 0 ≤ x5 then (if x5 < (x1.length : Int) then (if (rdOf ByteArray.empty x0 x5).toList = (rdOf ByteArray.empty x1 x5).toList then (belvederelaw10_texts.l0 k x0 x1 (wrap64 (x5 + 1))) else (some false)) else (none)) else (none)) else (some true)
def belvederelaw10_texts.f (k : Nat) (l0 : List ByteArray) (l1 : List ByteArray) : Option (Bool) := if (l0.length : Int) = (l1.length : Int) then (belvederelaw10_texts.l0 k l0 l1 0) else (some false)
theorem belvederelaw10_texts.mono_l : ∀ k, (∀ y0 y1 y2, LeO (belvederelaw10_texts.l0 k y0 y1 y2) (belvederelaw10_texts.l0 (k + 1) y0 y1 y2))
 | 0 => fun _ _ _ r h => by simp [belvederelaw10_texts.l0] at h
 | k + 1 => by
  have ih0 := belvederelaw10_texts.mono_l k
  ·intro y0 y1 y2;unfold belvederelaw10_texts.l0
   repeat' first
   | (with_reducible exact ih0 _ _ _)
   | (with_reducible exact LeO.refl _)
   | (with_reducible exact LeO.none _)
   | (with_reducible refine LeO.ite ?_ ?_)
   | (with_reducible refine LeO.bind ?_ (fun _ => ?_))
   | exact ih0 _ _ _
   | exact LeO.none _
   | refine LeO.ite ?_ ?_
   | refine LeO.bind ?_ (fun _ => ?_)
theorem belvederelaw10_texts.mono : ∀ a0 a1 k, LeO (belvederelaw10_texts.f k a0 a1) (belvederelaw10_texts.f (k + 1) a0 a1) := by
 intro a0 a1 k;have ih0 := belvederelaw10_texts.mono_l k;unfold belvederelaw10_texts.f
 repeat' first
   | (with_reducible exact ih0 _ _ _)
   | (with_reducible exact LeO.refl _)
   | (with_reducible exact LeO.none _)
   | (with_reducible refine LeO.ite ?_ ?_)
   | (with_reducible refine LeO.bind ?_ (fun _ => ?_))
   | exact ih0 _ _ _
   | exact LeO.none _
   | refine LeO.ite ?_ ?_
   | refine LeO.bind ?_ (fun _ => ?_)
set_option maxHeartbeats 8000000 in
set_option maxRecDepth 100000 in
theorem belvederelaw10_texts.calls (k : Nat) (A0 : Option Addr) (c0 : Nat) (l0 : List ByteArray) (A1 : Option Addr) (c1 : Nat) (l1 : List ByteArray) (r : Bool) (w : World) (hr0 : Kd.C Kd.string w A0 l0.length l0) (hc0 : l0.length ≤ c0) (hr1 : Kd.C Kd.string w A1 l1.length l1) (hc1 : l1.length ≤ c1) (h : belvederelaw10_texts.f k l0 l1 = some r) :
  Calls Tryz.prog 24 #[.slice A0 l0.length c0, .slice A1 l1.length c1] w fun e w' => e = .returned (.bool r) ∧ Drawn0 w w' := by
 have HR0 := As hr0;have HC0 := As hc0;clear hr0 hc0;have HR1 := As hr1;have HC1 := As hc1;clear hr1 hc1;have H : (if (l0.length : Int) = (l1.length : Int) then (belvederelaw10_texts.l0 k l0 l1 0) else (some false)) = some r := h;clear h
 by_cases c3 : (l0.length : Int) = (l1.length : Int)
 ·rw [if_pos c3] at H;have c3b0 : ((l0.length : Int) == (l1.length : Int)) = true := beq_iff_eq.mpr c3;have c3b1 : ((l0.length : Int) != (l1.length : Int)) = false := bne_eq_false_iff_eq.mpr c3
  have c3b2 : (l0.length == l1.length) = true := by first | simpa using c3 | (simp at c3 ⊢; omega)
  clear c3;have H' := As H;clear H
  go_enter Tryz.func24, Tryz.ntmps24
  go_wp2
  repeat (go_quiet (fail); try go_wp2)
  go_loopg [5] k (fun kq v5 w' => ∃ (x5_1 : Int), v5 = .int .i64 x5_1 ∧ Aside0 (belvederelaw10_texts.l0 kq l0 l1 x5_1 = some r) ∧ Aside0 (kq ≤ k) ∧ Drawn0 w w')
  case atStart => exact ⟨(0), sw, H', ⟨Nat.le_refl _⟩, by repeat (first | exact Drawn0.refl _ | apply Drawn0.step)⟩
  case round =>
   clear H'
   try clear c1
   try clear c2
   try clear p2
   try clear c3
   try clear c3b0
   try clear c3b1
   try clear c3b2
   obtain ⟨x5_1, rfl, HA, HK1, ⟨m1, rfl⟩⟩ := hrel
   cases gk with
   | zero => exact absurd HA.out (by simp [belvederelaw10_texts.l0])
   | succ k1 =>
    have H := HA.out;clear HA;simp only [belvederelaw10_texts.l0] at H
    by_cases c4 : x5_1 < (l0.length : Int)
    ·rw [if_pos c4] at H;have c4b0 : decide (x5_1 < (l0.length : Int)) = true := dY c4;clear c4
     by_cases c5 : 0 ≤ x5_1
     ·rw [if_pos c5] at H;have c5b0 : decide (0 ≤ x5_1) = true := dY c5;clear c5
      by_cases c6 : x5_1 < (l1.length : Int)
      ·rw [if_pos c6] at H;have c6b0 : decide (x5_1 < (l1.length : Int)) = true := dY c6;clear c6
       by_cases c7 : (rdOf ByteArray.empty l0 x5_1).toList = (rdOf ByteArray.empty l1 x5_1).toList
       ·rw [if_pos c7] at H;have c7b0 : ((rdOf ByteArray.empty l0 x5_1).toList == (rdOf ByteArray.empty l1 x5_1).toList) = true := beq_iff_eq.mpr c7;have c7b1 : ((rdOf ByteArray.empty l0 x5_1).toList != (rdOf ByteArray.empty l1 x5_1).toList) = false := bne_eq_false_iff_eq.mpr c7;clear c7;have H' := As H;clear H;have p256 : 0 ≤ (x5_1 : Int) := dT hy;have q256 : x5_1 < (l0.length : Int) := dT hy;obtain ⟨ad256, e256, hx256_0⟩ := Kd.at_string HR0.out x5_1 p256 q256
        cases e256
        replace p256 := eq_true p256;replace q256 := eq_true q256;have p257 : 0 ≤ (x5_1 : Int) := dT hy;have q257 : x5_1 < (l1.length : Int) := dT hy;obtain ⟨ad257, e257, hx257_0⟩ := Kd.at_string HR1.out x5_1 p257 q257
        cases e257
        replace p257 := eq_true p257;replace q257 := eq_true q257
        go_wp2
        repeat (go_quiet (fail); try go_wp2)
        go_roundg k1
        case measure => have := HK1.out; omega
        case rel => exact ⟨(wrap64 (x5_1 + 1)), sw, H', ⟨by have := HK1.out; omega⟩, by repeat (first | exact Drawn0.refl _ | apply Drawn0.step)⟩
       ·rw [if_neg c7] at H;have c7b0 : ((rdOf ByteArray.empty l0 x5_1).toList == (rdOf ByteArray.empty l1 x5_1).toList) = false := beq_eq_false_iff_ne.mpr c7;have c7b1 : ((rdOf ByteArray.empty l0 x5_1).toList != (rdOf ByteArray.empty l1 x5_1).toList) = true := bne_iff_ne.mpr c7;obtain rfl := Option.some.inj H;have p256 : 0 ≤ (x5_1 : Int) := dT hy;have q256 : x5_1 < (l0.length : Int) := dT hy;obtain ⟨ad256, e256, hx256_0⟩ := Kd.at_string HR0.out x5_1 p256 q256
        cases e256
        replace p256 := eq_true p256;replace q256 := eq_true q256;have p257 : 0 ≤ (x5_1 : Int) := dT hy;have q257 : x5_1 < (l1.length : Int) := dT hy;obtain ⟨ad257, e257, hx257_0⟩ := Kd.at_string HR1.out x5_1 p257 q257
        cases e257
        replace p257 := eq_true p257;replace q257 := eq_true q257
        go_wp2
        repeat (go_quiet (fail); try go_wp2)
        go_ret
        exact ⟨by first | rfl | (simp; done) | (simp [*]; done) | (simp; unfold wrap64; omega), by repeat (first | exact Drawn0.refl _ | apply Drawn0.step)⟩
      ·rw [if_neg c6] at H;exact absurd H (by simp)
     ·rw [if_neg c5] at H;exact absurd H (by simp)
    ·rw [if_neg c4] at H;have c4b0 : decide (x5_1 < (l0.length : Int)) = false := dN c4;clear c4;obtain rfl := Option.some.inj H
     go_wp2
     repeat (go_quiet (fail); try go_wp2)
     go_ret
     exact ⟨by first | rfl | (simp; done) | (simp [*]; done) | (simp; unfold wrap64; omega), by repeat (first | exact Drawn0.refl _ | apply Drawn0.step)⟩
 ·rw [if_neg c3] at H;have c3b0 : ((l0.length : Int) == (l1.length : Int)) = false := beq_eq_false_iff_ne.mpr c3;have c3b1 : ((l0.length : Int) != (l1.length : Int)) = true := bne_iff_ne.mpr c3
  have c3b2 : (l0.length == l1.length) = false := by first | simpa using c3 | (simp at c3 ⊢; omega)
  obtain rfl := Option.some.inj H
  go_enter Tryz.func24, Tryz.ntmps24
  go_wp2
  repeat (go_quiet (fail); try go_wp2)
  go_ret
  exact ⟨by first | rfl | (simp; done) | (simp [*]; done) | (simp; unfold wrap64; omega), by repeat (first | exact Drawn0.refl _ | apply Drawn0.step)⟩

end Go.Proofs.YtahjnjlkpbjfnaaGreatDoor.P
-- SHRUNK
-- PACKED
-- PACKED2
