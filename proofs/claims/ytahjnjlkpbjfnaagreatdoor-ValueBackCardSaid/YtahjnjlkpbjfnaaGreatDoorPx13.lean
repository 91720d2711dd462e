-- written by myprint.py (this claim's own program, after the kit's print)
import Derived.Test.YtahjnjlkpbjfnaaGreatDoorPx0
import Derived.Test.YtahjnjlkpbjfnaaGreatDoorPx8
import Derived.Test.YtahjnjlkpbjfnaaGreatDoorPx11
import Derived.Test.YtahjnjlkpbjfnaaGreatDoorPx12
import Derived.Test.YtahjnjlkpbjfnaaGreatDoorNumP
import Derived.Test.YtahjnjlkpbjfnaaGreatDoorVaList
import Derived.Test.YtahjnjlkpbjfnaaGreatDoorPack
namespace Go.Proofs.YtahjnjlkpbjfnaaGreatDoor.P
open Go.RowKit Go.Proofs.YtahjnjlkpbjfnaaGreatDoorW.PrintWords Go.Proofs.YtahjnjlkpbjfnaaGreatDoorW.PrintLast Go.Proofs.YtahjnjlkpbjfnaaGreatDoorW.PrintMore
attribute [local go_sem] max2_int min2_int max_two min_two max_three min_three max_four min_four   -- for this text's walks alone
set_option linter.unusedVariables false
set_option linter.unusedSimpArgs false

/-! ### belvederelaw10_ValueBack: function 7 -/
mutual
def belvederelaw10_ValueBack.l0 : Nat → List ByteArray → ByteArray → Int → Int → Option (Bool)
 | 0, _, _, _, _ => none
 | k + 1, x0, x1, x2, x7 => if x7 < (x0.length : Int) then (if 0 ≤ x7 then (if ((rdOf ByteArray.empty x0 x7).size : Int) > 100 then ((belvederelaw10_sure.f k).bind fun t261 => (some t261)) else (belvederelaw10_ValueBack.l0 k x0 x1 x2 (wrap64 (x7 + 1)))) else (none)) else ((value_Joined.f k x0).bind fun bt262 => (if bt262.2.isNone = true then ((value_List.f bt262.1).bind fun bt265 => (belvederelaw10_ValueBack.l1 k x0 x1 x2 bt265.1 bt265.2 (⟨#[]⟩ : ByteArray) 0)) else ((value_Letters.f k x2 x1).bind fun bt288 => (if bt288.2.isNone = true then ((value_Options.f k bt288.1 x1).bind fun bt291 => (if bt291.2.isNone = true then (if bt291.1 = x2 then ((belvederelaw10_sure.f k).bind fun t294 => (some t294)) else (none)) else (none))) else ((belvederelaw10_num.f (some (bt288.2.getD 0))).bind fun t295 => (if t295 = 1 then (if bt288.1.toList = ([] : List UInt8) then ((belvederelaw10_sure.f k).bind fun t296 => (some t296)) else (none)) else (none)))))))
def belvederelaw10_ValueBack.l1 : Nat → List ByteArray → ByteArray → Int → List ByteArray → Option Int → ByteArray → Int → Option (Bool)
 | 0, _, _, _, _, _, _, _ => none
 | k + 1, x0, x1, x2, x10, x11, x12, x13 => if x13 < (x0.length : Int) then (if x13 > 0 then (if x12.size + 3 ≤ 9223372036854775807 then (if 0 ≤ x13 then (if (x12 ++ (⟨#[32, 44, 9]⟩ : ByteArray)).size + (rdOf ByteArray.empty x0 x13).size ≤ 9223372036854775807 then (belvederelaw10_ValueBack.l1 k x0 x1 x2 x10 x11 ((x12 ++ (⟨#[32, 44, 9]⟩ : ByteArray)) ++ (rdOf ByteArray.empty x0 x13)) (wrap64 (x13 + 1))) else (none)) else (none)) else (none)) else (if 0 ≤ x13 then (if x12.size + (rdOf ByteArray.empty x0 x13).size ≤ 9223372036854775807 then (belvederelaw10_ValueBack.l1 k x0 x1 x2 x10 x11 (x12 ++ (rdOf ByteArray.empty x0 x13)) (wrap64 (x13 + 1))) else (none)) else (none))) else (if 1 + x12.size ≤ 9223372036854775807 then (if ((⟨#[32]⟩ : ByteArray) ++ x12).size + 1 ≤ 9223372036854775807 then ((value_List.f (((⟨#[32]⟩ : ByteArray) ++ x12) ++ (⟨#[32]⟩ : ByteArray))).bind fun bt271 => (if x11.isNone = true then (if bt271.2.isNone = true then ((belvederelaw10_texts.f k x10 x0).bind fun t277 => (if t277 = true then ((belvederelaw10_texts.f k bt271.1 x0).bind fun t278 => (if t278 = true then ((value_Letters.f k x2 x1).bind fun bt279 => (if bt279.2.isNone = true then ((value_Options.f k bt279.1 x1).bind fun bt282 => (if bt282.2.isNone = true then (if bt282.1 = x2 then ((belvederelaw10_sure.f k).bind fun t285 => (some t285)) else (none)) else (none))) else ((belvederelaw10_num.f (some (bt279.2.getD 0))).bind fun t286 => (if t286 = 1 then (if bt279.1.toList = ([] : List UInt8) then ((belvederelaw10_sure.f k).bind fun t287 => (some t287)) else (none)) else (none))))) else (none))) else (none))) else (none)) else (none))) else (none)) else (none))
end
def belvederelaw10_ValueBack.f (k : Nat) (l0 : List ByteArray) (a1 : ByteArray) (a2 : Int) : Option (Bool) := if (l0.length : Int) > 60 then ((belvederelaw10_sure.f k).bind fun t258 => (some t258)) else (if (a1.size : Int) > 100 then ((belvederelaw10_sure.f k).bind fun t259 => (some t259)) else (belvederelaw10_ValueBack.l0 k l0 a1 a2 0))
theorem belvederelaw10_ValueBack.mono_l : ∀ k, (∀ y0 y1 y2 y3, LeO (belvederelaw10_ValueBack.l0 k y0 y1 y2 y3) (belvederelaw10_ValueBack.l0 (k + 1) y0 y1 y2 y3)) ∧ (∀ y0 y1 y2 y3 y4 y5 y6, LeO (belvederelaw10_ValueBack.l1 k y0 y1 y2 y3 y4 y5 y6) (belvederelaw10_ValueBack.l1 (k + 1) y0 y1 y2 y3 y4 y5 y6))
 | 0 => ⟨fun _ _ _ _ r h => by simp [belvederelaw10_ValueBack.l0] at h, fun _ _ _ _ _ _ _ r h => by simp [belvederelaw10_ValueBack.l1] at h⟩
 | k + 1 => by
  obtain ⟨ih0, ih1⟩ := belvederelaw10_ValueBack.mono_l k;refine ⟨?_, ?_⟩
  ·intro y0 y1 y2 y3;unfold belvederelaw10_ValueBack.l0
   repeat' first
   | (with_reducible exact ih0 _ _ _ _)
   | (with_reducible exact ih1 _ _ _ _ _ _ _)
   | (with_reducible exact belvederelaw10_sure.mono _)
   | (with_reducible exact belvederelaw10_texts.mono _ _ _)
   | (with_reducible exact value_Joined.mono _ _)
   | (with_reducible exact value_Letters.mono _ _ _)
   | (with_reducible exact value_Options.mono _ _ _)
   | (with_reducible exact LeO.refl _)
   | (with_reducible exact LeO.none _)
   | (with_reducible refine LeO.ite ?_ ?_)
   | (with_reducible refine LeO.bind ?_ (fun _ => ?_))
   | exact ih0 _ _ _ _
   | exact ih1 _ _ _ _ _ _ _
   | exact belvederelaw10_sure.mono _
   | exact belvederelaw10_texts.mono _ _ _
   | exact value_Joined.mono _ _
   | exact value_Letters.mono _ _ _
   | exact value_Options.mono _ _ _
   | exact LeO.none _
   | refine LeO.ite ?_ ?_
   | refine LeO.bind ?_ (fun _ => ?_)
  ·intro y0 y1 y2 y3 y4 y5 y6;unfold belvederelaw10_ValueBack.l1
   repeat' first
   | (with_reducible exact ih0 _ _ _ _)
   | (with_reducible exact ih1 _ _ _ _ _ _ _)
   | (with_reducible exact belvederelaw10_sure.mono _)
   | (with_reducible exact belvederelaw10_texts.mono _ _ _)
   | (with_reducible exact value_Joined.mono _ _)
   | (with_reducible exact value_Letters.mono _ _ _)
   | (with_reducible exact value_Options.mono _ _ _)
   | (with_reducible exact LeO.refl _)
   | (with_reducible exact LeO.none _)
   | (with_reducible refine LeO.ite ?_ ?_)
   | (with_reducible refine LeO.bind ?_ (fun _ => ?_))
   | exact ih0 _ _ _ _
   | exact ih1 _ _ _ _ _ _ _
   | exact belvederelaw10_sure.mono _
   | exact belvederelaw10_texts.mono _ _ _
   | exact value_Joined.mono _ _
   | exact value_Letters.mono _ _ _
   | exact value_Options.mono _ _ _
   | exact LeO.none _
   | refine LeO.ite ?_ ?_
   | refine LeO.bind ?_ (fun _ => ?_)
theorem belvederelaw10_ValueBack.mono : ∀ a0 a1 a2 k, LeO (belvederelaw10_ValueBack.f k a0 a1 a2) (belvederelaw10_ValueBack.f (k + 1) a0 a1 a2) := by
 intro a0 a1 a2 k;obtain ⟨ih0, ih1⟩ := belvederelaw10_ValueBack.mono_l k;unfold belvederelaw10_ValueBack.f
 repeat' first
   | (with_reducible exact ih0 _ _ _ _)
   | (with_reducible exact ih1 _ _ _ _ _ _ _)
   | (with_reducible exact belvederelaw10_sure.mono _)
   | (with_reducible exact belvederelaw10_texts.mono _ _ _)
   | (with_reducible exact value_Joined.mono _ _)
   | (with_reducible exact value_Letters.mono _ _ _)
   | (with_reducible exact value_Options.mono _ _ _)
   | (with_reducible exact LeO.refl _)
   | (with_reducible exact LeO.none _)
   | (with_reducible refine LeO.ite ?_ ?_)
   | (with_reducible refine LeO.bind ?_ (fun _ => ?_))
   | exact ih0 _ _ _ _
   | exact ih1 _ _ _ _ _ _ _
   | exact belvederelaw10_sure.mono _
   | exact belvederelaw10_texts.mono _ _ _
   | exact value_Joined.mono _ _
   | exact value_Letters.mono _ _ _
   | exact value_Options.mono _ _ _
   | exact LeO.none _
   | refine LeO.ite ?_ ?_
   | refine LeO.bind ?_ (fun _ => ?_)
set_option maxHeartbeats 8000000 in
set_option maxRecDepth 100000 in
theorem belvederelaw10_ValueBack.calls (k : Nat) (A0 : Option Addr) (c0 : Nat) (l0 : List ByteArray) (a1 : ByteArray) (a2 : Int) (r : Bool) (w : World) (hr0 : Kd.C Kd.string w A0 l0.length l0) (hc0 : l0.length ≤ c0) (h : belvederelaw10_ValueBack.f k l0 a1 a2 = some r) (hG : GL w) :
  Calls Tryz.prog 7 #[.slice A0 l0.length c0, .string a1, .int .i64 a2] w fun e w' => e = .returned (.bool r) ∧ Below w.heap.size w w' := by
 have hu26 := Tryz.underlying26;have hu58 := Tryz.underlying58;have HR0 := As hr0;have HC0 := As hc0;clear hr0 hc0;have HB := As (Below.refl w.heap.size w);have H : (if (l0.length : Int) > 60 then ((belvederelaw10_sure.f k).bind fun t258 => (some t258)) else (if (a1.size : Int) > 100 then ((belvederelaw10_sure.f k).bind fun t259 => (some t259)) else (belvederelaw10_ValueBack.l0 k l0 a1 a2 0))) = some r := h;clear h
 by_cases c4 : (l0.length : Int) > 60
 ·rw [if_pos c4] at H;have c4b0 : decide (60 < (l0.length : Int)) = true := dY c4;have c4b1 : decide (60 < l0.length) = true := dY (by omega);clear c4;replace H := bE H;obtain ⟨t258, A50, H⟩ := H;replace H : (some t258) = some r := H;have A5 := As A50;clear A50;obtain rfl := Option.some.inj H
  go_enter Tryz.func7, Tryz.ntmps7
  go_wp2_with (first | ((with_reducible refine gate_callee (f := 10) rfl ?_); refine goesL_ (some 28) rfl rfl Tryz.func10 kr rfl #[] rfl sa ?_; (with_reducible refine (belvederelaw10_sure.calls k  t258 _ A5.out ?side1).mono ?_); (case side1 => first | exact hG | exact GL.below hG (be HB.out) | (repeat (first | exact hG | apply GL.drewN | apply GL.drew | apply GL.alloc))); rintro e w6 ⟨rfl, hb⟩; refine ⟨_, rfl, ?_⟩; replace HB := As (XT (be HB.out) hb); (try clear hb); (try clear hb2); (try clear hk); (try clear hi)))
  go_ret
  exact ⟨by first | rfl | (simp [errW_none, errW_some] <;> rfl) | (simp [*, errW_none, errW_some] <;> rfl), by repeat (first | (with_reducible first | exact HB.out | apply XA | apply XN | apply XD) | exact HB.out)⟩
 ·rw [if_neg c4] at H;have c4b0 : decide (60 < (l0.length : Int)) = false := dN c4;have c4b1 : decide (60 < l0.length) = false := dN (by omega);clear c4
  by_cases c7 : (a1.size : Int) > 100
  ·rw [if_pos c7] at H;have c7b0 : decide (100 < (a1.size : Int)) = true := dY c7;have c7b1 : decide (100 < a1.size) = true := dY (by omega);clear c7;replace H := bE H;obtain ⟨t259, A80, H⟩ := H;replace H : (some t259) = some r := H;have A8 := As A80;clear A80;obtain rfl := Option.some.inj H
   go_enter Tryz.func7, Tryz.ntmps7
   go_wp2_with (first | ((with_reducible refine gate_callee (f := 10) rfl ?_); refine goesL_ (some 28) rfl rfl Tryz.func10 kr rfl #[] rfl sa ?_; (with_reducible refine (belvederelaw10_sure.calls k  t259 _ A8.out ?side1).mono ?_); (case side1 => first | exact hG | exact GL.below hG (be HB.out) | (repeat (first | exact hG | apply GL.drewN | apply GL.drew | apply GL.alloc))); rintro e w9 ⟨rfl, hb⟩; refine ⟨_, rfl, ?_⟩; replace HB := As (XT (be HB.out) hb); (try clear hb); (try clear hb2); (try clear hk); (try clear hi)))
   go_ret
   exact ⟨by first | rfl | (simp [errW_none, errW_some] <;> rfl) | (simp [*, errW_none, errW_some] <;> rfl), by repeat (first | (with_reducible first | exact HB.out | apply XA | apply XN | apply XD) | exact HB.out)⟩
  ·rw [if_neg c7] at H;have c7b0 : decide (100 < (a1.size : Int)) = false := dN c7;have c7b1 : decide (100 < a1.size) = false := dN (by omega);clear c7;have H' := As H;clear H
   go_enter Tryz.func7, Tryz.ntmps7
   go_wp2
   go_loopg [7] k (fun kq v7 w' => ∃ (x7_1 : Int), v7 = .int .i64 x7_1 ∧ Aside0 (belvederelaw10_ValueBack.l0 kq l0 a1 a2 x7_1 = some r) ∧ Aside0 (kq ≤ k) ∧ Aside0 (Below w.heap.size w w'))
   case atStart => exact ⟨(0), sw, H', ⟨Nat.le_refl _⟩, ⟨by repeat (first | (with_reducible first | exact HB.out | apply XA | apply XN | apply XD) | exact HB.out)⟩⟩
   case round =>
    clear H'
    try clear c1
    try clear p2
    try clear c4
    try clear c4b0
    try clear c4b1
    try clear p6
    try clear c7
    try clear c7b0
    try clear c7b1
    obtain ⟨x7_1, rfl, HA, HK1, HB⟩ := hrel
    cases gk with
    | zero => exact absurd HA.out (by simp [belvederelaw10_ValueBack.l0])
    | succ k1 =>
     have H := HA.out;clear HA;simp only [belvederelaw10_ValueBack.l0] at H
     by_cases c10 : x7_1 < (l0.length : Int)
     ·rw [if_pos c10] at H;have c10b0 : decide (x7_1 < (l0.length : Int)) = true := dY c10;clear c10
      by_cases c11 : 0 ≤ x7_1
      ·rw [if_pos c11] at H;have c11b0 : decide (0 ≤ x7_1) = true := dY c11;clear c11
       by_cases c12 : ((rdOf ByteArray.empty l0 x7_1).size : Int) > 100
       ·rw [if_pos c12] at H;have c12b0 : decide (100 < ((rdOf ByteArray.empty l0 x7_1).size : Int)) = true := dY c12;have c12b1 : decide (100 < (rdOf ByteArray.empty l0 x7_1).size) = true := dY (by omega);clear c12;replace H := bE H;obtain ⟨t261, A130, H⟩ := H;replace H : (some t261) = some r := H;have A13 := As A130;clear A130;obtain rfl := Option.some.inj H;have p260 : 0 ≤ (x7_1 : Int) := dT hy;have q260 : x7_1 < (l0.length : Int) := dT hy;obtain ⟨ad260, e260, hx260_0⟩ := Kd.at_string HR0.out x7_1 p260 q260
        cases e260
        replace hx260_0 := (HB.out.cell (BL w _ hx260_0)).trans hx260_0;replace p260 := eq_true p260;replace q260 := eq_true q260
        go_wp2_with (first | ((with_reducible refine gate_callee (f := 10) rfl ?_); refine goesL_ (some 41) rfl rfl Tryz.func10 kr rfl #[] rfl sa ?_; (with_reducible refine (belvederelaw10_sure.calls k1  t261 _ A13.out ?side1).mono ?_); (case side1 => first | exact hG | exact GL.below hG (be HB.out) | (repeat (first | exact hG | apply GL.drewN | apply GL.drew | apply GL.alloc))); rintro e w14 ⟨rfl, hb⟩; refine ⟨_, rfl, ?_⟩; replace HB := As (XT (be HB.out) hb); (try clear hb); (try clear hb2); (try clear hk); (try clear hi)))
        go_ret
        exact ⟨by first | rfl | (simp [errW_none, errW_some] <;> rfl) | (simp [*, errW_none, errW_some] <;> rfl), by repeat (first | (with_reducible first | exact HB.out | apply XA | apply XN | apply XD) | exact HB.out)⟩
       ·rw [if_neg c12] at H;have c12b0 : decide (100 < ((rdOf ByteArray.empty l0 x7_1).size : Int)) = false := dN c12;have c12b1 : decide (100 < (rdOf ByteArray.empty l0 x7_1).size) = false := dN (by omega);clear c12;have H' := As H;clear H;have p260 : 0 ≤ (x7_1 : Int) := dT hy;have q260 : x7_1 < (l0.length : Int) := dT hy;obtain ⟨ad260, e260, hx260_0⟩ := Kd.at_string HR0.out x7_1 p260 q260
        cases e260
        replace hx260_0 := (HB.out.cell (BL w _ hx260_0)).trans hx260_0;replace p260 := eq_true p260;replace q260 := eq_true q260
        go_wp2
        go_roundg k1
        case measure => have := HK1.out; omega
        case rel => exact ⟨(wrap64 (x7_1 + 1)), sw, H', ⟨by have := HK1.out; omega⟩, ⟨by repeat (first | (with_reducible first | exact HB.out | apply XA | apply XN | apply XD) | exact HB.out)⟩⟩
      ·rw [if_neg c11] at H;exact absurd H (by simp)
     ·rw [if_neg c10] at H;have c10b0 : decide (x7_1 < (l0.length : Int)) = false := dN c10;clear c10;replace H := bE H;obtain ⟨⟨t262, t263⟩, A150, H⟩ := H;replace H : (if t263.isNone = true then ((value_List.f t262).bind fun bt265 => (belvederelaw10_ValueBack.l1 k1 l0 a1 a2 bt265.1 bt265.2 (⟨#[]⟩ : ByteArray) 0)) else ((value_Letters.f k1 a2 a1).bind fun bt288 => (if bt288.2.isNone = true then ((value_Options.f k1 bt288.1 a1).bind fun bt291 => (if bt291.2.isNone = true then (if bt291.1 = a2 then ((belvederelaw10_sure.f k1).bind fun t294 => (some t294)) else (none)) else (none))) else ((belvederelaw10_num.f (some (bt288.2.getD 0))).bind fun t295 => (if t295 = 1 then (if bt288.1.toList = ([] : List UInt8) then ((belvederelaw10_sure.f k1).bind fun t296 => (some t296)) else (none)) else (none)))))) = some r := H;have A15 := As A150;clear A150
      rcases t263 with _ | q264
      ·have H1 : ((value_List.f t262).bind fun bt265 => (belvederelaw10_ValueBack.l1 k1 l0 a1 a2 bt265.1 bt265.2 (⟨#[]⟩ : ByteArray) 0)) = some r := by rw [if_pos no0] at H; exact H
       clear H;have H := H1;clear H1
       try simp only [errW_none, errW_some]
       replace H := bE H;obtain ⟨⟨t265, t266⟩, A160, H⟩ := H;replace H : (belvederelaw10_ValueBack.l1 k1 l0 a1 a2 t265 t266 (⟨#[]⟩ : ByteArray) 0) = some r := H;have A16 := As A160;clear A160;have H' := As H;clear H
       go_wp2_with (first | ((with_reducible refine gate_callee (f := 22) rfl ?_); refine goesL_ (some 44) rfl rfl Tryz.func22 kr rfl #[.slice A0 l0.length c0] rfl sa ?_; (with_reducible refine (value_Joined.calls k1 _ _ l0 t262 none _ ?side1 ?side2 A15.out ?side3).mono ?_); (case side1 => repeat (first | exact (Kd.C_below HR0.out HB.out) | (with_reducible refine Kd.C_alloc ?_ _) | (with_reducible refine Kd.C_drewN ?_ _) | (with_reducible refine Kd.C_drew ?_))); (case side2 => exact HC0.out); (case side3 => first | exact hG | exact GL.below hG (be HB.out) | (repeat (first | exact hG | apply GL.drewN | apply GL.drew | apply GL.alloc))); rintro e w17 ⟨rfl, hb⟩; refine ⟨_, rfl, ?_⟩; replace HB := As (XT (be HB.out) hb); (try clear hb); (try clear hb2); (try clear hk); (try clear hi); (try simp only [errW_none, errW_some])) | ((with_reducible refine gate_callee (f := 20) rfl ?_); refine goesL_ (some 51) rfl rfl Tryz.func20 kr rfl #[.string t262] rfl sa ?_; (with_reducible refine (value_List.calls _ _ _ _ A16.out).mono ?_); rintro e w18 ⟨v267, rfl, ho0, hb⟩; refine ⟨_, rfl, ?_⟩; have HO268 := As (Kd.R_lower ho0 (XZ (be HB.out))); replace HB := As (XT (be HB.out) hb); (try clear hb); (try clear hb2); (try clear hk); (try clear hi); (try clear ho0); (try simp only [errW_none, errW_some])))
       go_loopg [12, 13] k1 (fun kq v12 v13 w' => ∃ (x12_2 : ByteArray) (x13_2 : Int), v12 = .string x12_2 ∧ v13 = .int .i64 x13_2 ∧ Aside0 (belvederelaw10_ValueBack.l1 kq l0 a1 a2 t265 t266 x12_2 x13_2 = some r) ∧ Aside0 (kq ≤ k1) ∧ Aside0 (Kd.R Kd.string 9 w' w.heap.size (fun _ => True) v267 t265) ∧ Aside0 (Below w.heap.size w w'))
       case atStart => exact ⟨((⟨#[]⟩ : ByteArray)), (0), sw, sw, H', ⟨Nat.le_refl _⟩, ⟨by (with_reducible repeat (first | apply RA | apply RN | apply RD)); exact HO268.out⟩, ⟨by repeat (first | (with_reducible first | exact HB.out | apply XA | apply XN | apply XD) | exact HB.out)⟩⟩
       case round =>
        clear H'
        try clear c1
        try clear c2
        try clear p2
        try clear q2
        try clear hx2
        try clear c4
        try clear c4b0
        try clear c4b1
        try clear p6
        try clear c7
        try clear c7b0
        try clear c7b1
        try clear c10
        try clear c10b0
        try clear c11
        try clear c11b0
        try clear c12
        try clear c12b0
        try clear c12b1
        try clear hx260_0
        try clear p2
        try clear p260
        try clear p6
        try clear q260
        try clear q264
        obtain ⟨x12_2, x13_2, rfl, rfl, HA, HK2, HO_10, HB⟩ := hrel
        cases gk with
        | zero => exact absurd HA.out (by simp [belvederelaw10_ValueBack.l1])
        | succ k2 =>
         have H := HA.out;clear HA;simp only [belvederelaw10_ValueBack.l1] at H
         by_cases c19 : x13_2 < (l0.length : Int)
         ·rw [if_pos c19] at H;have c19b0 : decide (x13_2 < (l0.length : Int)) = true := dY c19;clear c19
          by_cases c20 : x13_2 > 0
          ·rw [if_pos c20] at H;have c20b0 : decide (0 < x13_2) = true := dY c20;clear c20
           by_cases c21 : x12_2.size + 3 ≤ 9223372036854775807
           ·rw [if_pos c21] at H;have c21b0 := eq_true c21;have c21b1 : decide (x12_2.size + 3 ≤ 9223372036854775807) = true := dY c21
            try have c21b2 : (9223372036854775807 < x12_2.size + 3) = False := eq_false (Nat.not_lt.2 c21)
            by_cases c22 : 0 ≤ x13_2
            ·rw [if_pos c22] at H;have c22b0 : decide (0 ≤ x13_2) = true := dY c22;clear c22
             by_cases c23 : (x12_2 ++ (⟨#[32, 44, 9]⟩ : ByteArray)).size + (rdOf ByteArray.empty l0 x13_2).size ≤ 9223372036854775807
             ·rw [if_pos c23] at H;have c23b0 := eq_true c23;have c23b1 : decide ((x12_2 ++ (⟨#[32, 44, 9]⟩ : ByteArray)).size + (rdOf ByteArray.empty l0 x13_2).size ≤ 9223372036854775807) = true := dY c23
              try have c23b2 : (9223372036854775807 < (x12_2 ++ (⟨#[32, 44, 9]⟩ : ByteArray)).size + (rdOf ByteArray.empty l0 x13_2).size) = False := eq_false (Nat.not_lt.2 c23)
              have H' := As H;clear H;have p269 : 0 ≤ (x13_2 : Int) := dT hy;have q269 : x13_2 < (l0.length : Int) := dT hy;obtain ⟨ad269, e269, hx269_0⟩ := Kd.at_string HR0.out x13_2 p269 q269
              cases e269
              replace hx269_0 := (HB.out.cell (BL w _ hx269_0)).trans hx269_0;replace p269 := eq_true p269;replace q269 := eq_true q269
              go_wp2
              go_roundg k2
              case measure => have := HK1.out; have := HK2.out; omega
              case rel => exact ⟨((x12_2 ++ (⟨#[32, 44, 9]⟩ : ByteArray)) ++ (rdOf ByteArray.empty l0 x13_2)), (wrap64 (x13_2 + 1)), sw, sw, H', ⟨by have := HK1.out; have := HK2.out; omega⟩, ⟨by (with_reducible repeat (first | apply RA | apply RN | apply RD)); exact HO_10.out⟩, ⟨by repeat (first | (with_reducible first | exact HB.out | apply XA | apply XN | apply XD) | exact HB.out)⟩⟩
             ·rw [if_neg c23] at H;exact absurd H (by simp)
            ·rw [if_neg c22] at H;exact absurd H (by simp)
           ·rw [if_neg c21] at H;exact absurd H (by simp)
          ·rw [if_neg c20] at H;have c20b0 : decide (0 < x13_2) = false := dN c20;clear c20
           by_cases c24 : 0 ≤ x13_2
           ·rw [if_pos c24] at H;have c24b0 : decide (0 ≤ x13_2) = true := dY c24;clear c24
            by_cases c25 : x12_2.size + (rdOf ByteArray.empty l0 x13_2).size ≤ 9223372036854775807
            ·rw [if_pos c25] at H;have c25b0 := eq_true c25;have c25b1 : decide (x12_2.size + (rdOf ByteArray.empty l0 x13_2).size ≤ 9223372036854775807) = true := dY c25
             try have c25b2 : (9223372036854775807 < x12_2.size + (rdOf ByteArray.empty l0 x13_2).size) = False := eq_false (Nat.not_lt.2 c25)
             have H' := As H;clear H;have p270 : 0 ≤ (x13_2 : Int) := dT hy;have q270 : x13_2 < (l0.length : Int) := dT hy;obtain ⟨ad270, e270, hx270_0⟩ := Kd.at_string HR0.out x13_2 p270 q270
             cases e270
             replace hx270_0 := (HB.out.cell (BL w _ hx270_0)).trans hx270_0;replace p270 := eq_true p270;replace q270 := eq_true q270
             go_wp2
             go_roundg k2
             case measure => have := HK1.out; have := HK2.out; omega
             case rel => exact ⟨(x12_2 ++ (rdOf ByteArray.empty l0 x13_2)), (wrap64 (x13_2 + 1)), sw, sw, H', ⟨by have := HK1.out; have := HK2.out; omega⟩, ⟨by (with_reducible repeat (first | apply RA | apply RN | apply RD)); exact HO_10.out⟩, ⟨by repeat (first | (with_reducible first | exact HB.out | apply XA | apply XN | apply XD) | exact HB.out)⟩⟩
            ·rw [if_neg c25] at H;exact absurd H (by simp)
           ·rw [if_neg c24] at H;exact absurd H (by simp)
         ·rw [if_neg c19] at H;have c19b0 : decide (x13_2 < (l0.length : Int)) = false := dN c19;clear c19
          by_cases c26 : 1 + x12_2.size ≤ 9223372036854775807
          ·rw [if_pos c26] at H;have c26b0 := eq_true c26;have c26b1 : decide (1 + x12_2.size ≤ 9223372036854775807) = true := dY c26
           try have c26b2 : (9223372036854775807 < 1 + x12_2.size) = False := eq_false (Nat.not_lt.2 c26)
           by_cases c27 : ((⟨#[32]⟩ : ByteArray) ++ x12_2).size + 1 ≤ 9223372036854775807
           ·rw [if_pos c27] at H;have c27b0 := eq_true c27;have c27b1 : decide (((⟨#[32]⟩ : ByteArray) ++ x12_2).size + 1 ≤ 9223372036854775807) = true := dY c27
            try have c27b2 : (9223372036854775807 < ((⟨#[32]⟩ : ByteArray) ++ x12_2).size + 1) = False := eq_false (Nat.not_lt.2 c27)
            have c27s : 1 + x12_2.size + 1 ≤ 9223372036854775807 := (by have q_ := c27; rw [ByteArray.size_append] at q_; exact q_)
            have c27t : (9223372036854775807 < 1 + x12_2.size + 1) = False := eq_false (Nat.not_lt.2 c27s);replace H := bE H;obtain ⟨⟨t271, t272⟩, A280, H⟩ := H;replace H : (if t266.isNone = true then (if t272.isNone = true then ((belvederelaw10_texts.f k2 t265 l0).bind fun t277 => (if t277 = true then ((belvederelaw10_texts.f k2 t271 l0).bind fun t278 => (if t278 = true then ((value_Letters.f k2 a2 a1).bind fun bt279 => (if bt279.2.isNone = true then ((value_Options.f k2 bt279.1 a1).bind fun bt282 => (if bt282.2.isNone = true then (if bt282.1 = a2 then ((belvederelaw10_sure.f k2).bind fun t285 => (some t285)) else (none)) else (none))) else ((belvederelaw10_num.f (some (bt279.2.getD 0))).bind fun t286 => (if t286 = 1 then (if bt279.1.toList = ([] : List UInt8) then ((belvederelaw10_sure.f k2).bind fun t287 => (some t287)) else (none)) else (none))))) else (none))) else (none))) else (none)) else (none)) = some r := H;have A28 := As A280;clear A280
            rcases t266 with _ | q275
            ·have H1 : (if t272.isNone = true then ((belvederelaw10_texts.f k2 t265 l0).bind fun t277 => (if t277 = true then ((belvederelaw10_texts.f k2 t271 l0).bind fun t278 => (if t278 = true then ((value_Letters.f k2 a2 a1).bind fun bt279 => (if bt279.2.isNone = true then ((value_Options.f k2 bt279.1 a1).bind fun bt282 => (if bt282.2.isNone = true then (if bt282.1 = a2 then ((belvederelaw10_sure.f k2).bind fun t285 => (some t285)) else (none)) else (none))) else ((belvederelaw10_num.f (some (bt279.2.getD 0))).bind fun t286 => (if t286 = 1 then (if bt279.1.toList = ([] : List UInt8) then ((belvederelaw10_sure.f k2).bind fun t287 => (some t287)) else (none)) else (none))))) else (none))) else (none))) else (none)) = some r := by rw [if_pos no0] at H; exact H
             clear H;have H := H1;clear H1
             try simp only [errW_none, errW_some]
             rcases t272 with _ | q276
             ·have H1 : ((belvederelaw10_texts.f k2 t265 l0).bind fun t277 => (if t277 = true then ((belvederelaw10_texts.f k2 t271 l0).bind fun t278 => (if t278 = true then ((value_Letters.f k2 a2 a1).bind fun bt279 => (if bt279.2.isNone = true then ((value_Options.f k2 bt279.1 a1).bind fun bt282 => (if bt282.2.isNone = true then (if bt282.1 = a2 then ((belvederelaw10_sure.f k2).bind fun t285 => (some t285)) else (none)) else (none))) else ((belvederelaw10_num.f (some (bt279.2.getD 0))).bind fun t286 => (if t286 = 1 then (if bt279.1.toList = ([] : List UInt8) then ((belvederelaw10_sure.f k2).bind fun t287 => (some t287)) else (none)) else (none))))) else (none))) else (none))) = some r := by rw [if_pos no0] at H; exact H
              clear H;have H := H1;clear H1
              try simp only [errW_none, errW_some]
              replace H := bE H;obtain ⟨t277, A290, H⟩ := H;replace H : (if t277 = true then ((belvederelaw10_texts.f k2 t271 l0).bind fun t278 => (if t278 = true then ((value_Letters.f k2 a2 a1).bind fun bt279 => (if bt279.2.isNone = true then ((value_Options.f k2 bt279.1 a1).bind fun bt282 => (if bt282.2.isNone = true then (if bt282.1 = a2 then ((belvederelaw10_sure.f k2).bind fun t285 => (some t285)) else (none)) else (none))) else ((belvederelaw10_num.f (some (bt279.2.getD 0))).bind fun t286 => (if t286 = 1 then (if bt279.1.toList = ([] : List UInt8) then ((belvederelaw10_sure.f k2).bind fun t287 => (some t287)) else (none)) else (none))))) else (none))) else (none)) = some r := H;have A29 := As A290;clear A290
              by_cases c30 : t277 = true
              ·subst c30
               have H1 : ((belvederelaw10_texts.f k2 t271 l0).bind fun t278 => (if t278 = true then ((value_Letters.f k2 a2 a1).bind fun bt279 => (if bt279.2.isNone = true then ((value_Options.f k2 bt279.1 a1).bind fun bt282 => (if bt282.2.isNone = true then (if bt282.1 = a2 then ((belvederelaw10_sure.f k2).bind fun t285 => (some t285)) else (none)) else (none))) else ((belvederelaw10_num.f (some (bt279.2.getD 0))).bind fun t286 => (if t286 = 1 then (if bt279.1.toList = ([] : List UInt8) then ((belvederelaw10_sure.f k2).bind fun t287 => (some t287)) else (none)) else (none))))) else (none))) = some r := by rw [if_pos rfl] at H; exact H
               clear H;have H := H1;clear H1;replace H := bE H;obtain ⟨t278, A310, H⟩ := H;replace H : (if t278 = true then ((value_Letters.f k2 a2 a1).bind fun bt279 => (if bt279.2.isNone = true then ((value_Options.f k2 bt279.1 a1).bind fun bt282 => (if bt282.2.isNone = true then (if bt282.1 = a2 then ((belvederelaw10_sure.f k2).bind fun t285 => (some t285)) else (none)) else (none))) else ((belvederelaw10_num.f (some (bt279.2.getD 0))).bind fun t286 => (if t286 = 1 then (if bt279.1.toList = ([] : List UInt8) then ((belvederelaw10_sure.f k2).bind fun t287 => (some t287)) else (none)) else (none))))) else (none)) = some r := H;have A31 := As A310;clear A310
               by_cases c32 : t278 = true
               ·subst c32
                have H1 : ((value_Letters.f k2 a2 a1).bind fun bt279 => (if bt279.2.isNone = true then ((value_Options.f k2 bt279.1 a1).bind fun bt282 => (if bt282.2.isNone = true then (if bt282.1 = a2 then ((belvederelaw10_sure.f k2).bind fun t285 => (some t285)) else (none)) else (none))) else ((belvederelaw10_num.f (some (bt279.2.getD 0))).bind fun t286 => (if t286 = 1 then (if bt279.1.toList = ([] : List UInt8) then ((belvederelaw10_sure.f k2).bind fun t287 => (some t287)) else (none)) else (none))))) = some r := by rw [if_pos rfl] at H; exact H
                clear H;have H := H1;clear H1;replace H := bE H;obtain ⟨⟨t279, t280⟩, A330, H⟩ := H;replace H : (if t280.isNone = true then ((value_Options.f k2 t279 a1).bind fun bt282 => (if bt282.2.isNone = true then (if bt282.1 = a2 then ((belvederelaw10_sure.f k2).bind fun t285 => (some t285)) else (none)) else (none))) else ((belvederelaw10_num.f (some (t280.getD 0))).bind fun t286 => (if t286 = 1 then (if t279.toList = ([] : List UInt8) then ((belvederelaw10_sure.f k2).bind fun t287 => (some t287)) else (none)) else (none)))) = some r := H;have A33 := As A330;clear A330
                rcases t280 with _ | q281
                ·have H1 : ((value_Options.f k2 t279 a1).bind fun bt282 => (if bt282.2.isNone = true then (if bt282.1 = a2 then ((belvederelaw10_sure.f k2).bind fun t285 => (some t285)) else (none)) else (none))) = some r := by rw [if_pos no0] at H; exact H
                 clear H;have H := H1;clear H1
                 try simp only [errW_none, errW_some]
                 replace H := bE H;obtain ⟨⟨t282, t283⟩, A340, H⟩ := H;replace H : (if t283.isNone = true then (if t282 = a2 then ((belvederelaw10_sure.f k2).bind fun t285 => (some t285)) else (none)) else (none)) = some r := H;have A34 := As A340;clear A340
                 rcases t283 with _ | q284
                 ·have H1 : (if t282 = a2 then ((belvederelaw10_sure.f k2).bind fun t285 => (some t285)) else (none)) = some r := by rw [if_pos no0] at H; exact H
                  clear H;have H := H1;clear H1
                  try simp only [errW_none, errW_some]
                  by_cases c35 : t282 = a2
                  ·rw [if_pos c35] at H;have c35b0 : (t282 == a2) = true := beq_iff_eq.mpr c35;have c35b1 : (t282 != a2) = false := bne_eq_false_iff_eq.mpr c35;clear c35;replace H := bE H;obtain ⟨t285, A360, H⟩ := H;replace H : (some t285) = some r := H;have A36 := As A360;clear A360;obtain rfl := Option.some.inj H
                   go_wp2_with (first | ((with_reducible refine gate_callee (f := 20) rfl ?_); refine goesL_ (some 74) rfl rfl Tryz.func20 kr rfl #[.string (((⟨#[32]⟩ : ByteArray) ++ x12_2) ++ (⟨#[32]⟩ : ByteArray))] rfl sa ?_; (with_reducible refine (value_List.calls (((⟨#[32]⟩ : ByteArray) ++ x12_2) ++ (⟨#[32]⟩ : ByteArray)) _ _ _ A28.out).mono ?_); rintro e w37 ⟨v273, rfl, ho0, hb⟩; refine ⟨_, rfl, ?_⟩; have HO274 := As (Kd.R_lower (Kd.R_new' ho0 (Kd.R_lt (ro HO_10.out))) (XZ (be HB.out))); replace HO_10 := As (Kd.R_elder' (ro HO_10.out) (Kd.R_base ho0) hb); replace HB := As (XT (be HB.out) hb); (try clear hb); (try clear hb2); (try clear hk); (try clear hi); (try clear ho0); (try simp only [errW_none, errW_some]); obtain ⟨Ao38, co38, eo38⟩ := Kd.R_slice HO_10.out; subst eo38) | (go_at_call 24; (with_reducible refine (belvederelaw10_texts.calls k2 _ _ _ _ _ l0 _ _ ?side1 ?side2 ?side3 ?side4 A29.out).mono ?_); (case side1 => repeat (first | exact (RR HO_10.out).2.2 | (with_reducible refine Kd.C_alloc ?_ _) | (with_reducible refine Kd.C_drewN ?_ _) | (with_reducible refine Kd.C_drew ?_))); (case side2 => exact (RR HO_10.out).2.1); (case side3 => repeat (first | exact (Kd.C_below HR0.out HB.out) | (with_reducible refine Kd.C_alloc ?_ _) | (with_reducible refine Kd.C_drewN ?_ _) | (with_reducible refine Kd.C_drew ?_))); (case side4 => exact HC0.out); rintro e w' ⟨rfl, ⟨nd, rfl⟩⟩; obtain ⟨Ao39, co39, eo39⟩ := Kd.R_slice HO274.out; subst eo39) | (go_at_call 24; (with_reducible refine (belvederelaw10_texts.calls k2 _ _ _ _ _ l0 _ _ ?side1 ?side2 ?side3 ?side4 A31.out).mono ?_); (case side1 => repeat (first | exact (RR HO274.out).2.2 | (with_reducible refine Kd.C_alloc ?_ _) | (with_reducible refine Kd.C_drewN ?_ _) | (with_reducible refine Kd.C_drew ?_))); (case side2 => exact (RR HO274.out).2.1); (case side3 => repeat (first | exact (Kd.C_below HR0.out (be HB.out)) | (with_reducible refine Kd.C_alloc ?_ _) | (with_reducible refine Kd.C_drewN ?_ _) | (with_reducible refine Kd.C_drew ?_))); (case side4 => exact HC0.out); rintro e w' ⟨rfl, ⟨nd, rfl⟩⟩) | ((with_reducible refine gate_callee (f := 18) rfl ?_); refine goesL_ (some 98) rfl rfl Tryz.func18 kr rfl #[.int .i64 a2, .string a1] rfl sa ?_; (with_reducible refine (value_Letters.calls k2 a2 a1 t279 none _ A33.out ?side1).mono ?_); (case side1 => first | exact hG | exact GL.below hG (be HB.out) | (repeat (first | exact hG | apply GL.drewN | apply GL.drew | apply GL.alloc))); rintro e w40 ⟨rfl, hb⟩; refine ⟨_, rfl, ?_⟩; replace HO_10 := As (RB (ro HO_10.out) hb); replace HO274 := As (RB (ro HO274.out) hb); replace HB := As (XT (be HB.out) hb); (try clear hb); (try clear hb2); (try clear hk); (try clear hi); (try simp only [errW_none, errW_some])) | ((with_reducible refine gate_callee (f := 16) rfl ?_); refine goesL_ (some 116) rfl rfl Tryz.func16 kr rfl #[.string t279, .string a1] rfl sa ?_; (with_reducible refine (value_Options.calls k2 t279 a1 t282 none _ A34.out ?side1).mono ?_); (case side1 => first | exact hG | exact GL.below hG (be HB.out) | (repeat (first | exact hG | apply GL.drewN | apply GL.drew | apply GL.alloc))); rintro e w41 ⟨rfl, hb⟩; refine ⟨_, rfl, ?_⟩; replace HO_10 := As (RB (ro HO_10.out) hb); replace HO274 := As (RB (ro HO274.out) hb); replace HB := As (XT (be HB.out) hb); (try clear hb); (try clear hb2); (try clear hk); (try clear hi); (try simp only [errW_none, errW_some])) | (go_at_call 10; (with_reducible refine (belvederelaw10_sure.calls k2  t285 _ A36.out ?side1).mono ?_); (case side1 => first | exact hG | exact GL.below hG (be HB.out) | (repeat (first | exact hG | apply GL.drewN | apply GL.drew | apply GL.alloc))); rintro e w42 ⟨rfl, hb⟩; replace HO_10 := As (RB (ro HO_10.out) hb); replace HO274 := As (RB (ro HO274.out) hb); replace HB := As (XT (be HB.out) hb); (try clear hb); (try clear hb2); (try clear hk); (try clear hi)))
                   go_ret
                   exact ⟨by first | rfl | (simp [errW_none, errW_some] <;> rfl) | (simp [*, errW_none, errW_some] <;> rfl), by repeat (first | (with_reducible first | exact HB.out | apply XA | apply XN | apply XD) | exact HB.out)⟩
                  ·rw [if_neg c35] at H;exact absurd H (by simp)
                 ·have H1 : (none) = some r := by rw [if_neg (show ¬ (some q284).isNone = true by simp)] at H; exact H
                  clear H;have H := H1;clear H1
                  try simp only [errW_none, errW_some]
                  exact absurd H (by simp)
                ·have H1 : ((belvederelaw10_num.f (some q281)).bind fun t286 => (if t286 = 1 then (if t279.toList = ([] : List UInt8) then ((belvederelaw10_sure.f k2).bind fun t287 => (some t287)) else (none)) else (none))) = some r := by rw [if_neg (show ¬ (some q281).isNone = true by simp)] at H; exact H
                 clear H;have H := H1;clear H1
                 try simp only [errW_none, errW_some]
                 replace H := bE H;obtain ⟨t286, A430, H⟩ := H;replace H : (if t286 = 1 then (if t279.toList = ([] : List UInt8) then ((belvederelaw10_sure.f k2).bind fun t287 => (some t287)) else (none)) else (none)) = some r := H;have A43 := As A430;clear A430
                 by_cases c44 : t286 = 1
                 ·rw [if_pos c44] at H;have c44b0 : (t286 == 1) = true := beq_iff_eq.mpr c44;have c44b1 : (t286 != 1) = false := bne_eq_false_iff_eq.mpr c44;clear c44
                  by_cases c45 : t279.toList = ([] : List UInt8)
                  ·rw [if_pos c45] at H;have c45b0 : (t279.toList == ([] : List UInt8)) = true := beq_iff_eq.mpr c45;have c45b1 : (t279.toList != ([] : List UInt8)) = false := bne_eq_false_iff_eq.mpr c45;clear c45;replace H := bE H;obtain ⟨t287, A460, H⟩ := H;replace H : (some t287) = some r := H;have A46 := As A460;clear A460;obtain rfl := Option.some.inj H
                   go_wp2_with (first | ((with_reducible refine gate_callee (f := 20) rfl ?_); refine goesL_ (some 74) rfl rfl Tryz.func20 kr rfl #[.string (((⟨#[32]⟩ : ByteArray) ++ x12_2) ++ (⟨#[32]⟩ : ByteArray))] rfl sa ?_; (with_reducible refine (value_List.calls (((⟨#[32]⟩ : ByteArray) ++ x12_2) ++ (⟨#[32]⟩ : ByteArray)) _ _ _ A28.out).mono ?_); rintro e w47 ⟨v273, rfl, ho0, hb⟩; refine ⟨_, rfl, ?_⟩; have HO274 := As (Kd.R_lower (Kd.R_new' ho0 (Kd.R_lt (ro HO_10.out))) (XZ (be HB.out))); replace HO_10 := As (Kd.R_elder' (ro HO_10.out) (Kd.R_base ho0) hb); replace HB := As (XT (be HB.out) hb); (try clear hb); (try clear hb2); (try clear hk); (try clear hi); (try clear ho0); (try simp only [errW_none, errW_some]); obtain ⟨Ao48, co48, eo48⟩ := Kd.R_slice HO_10.out; subst eo48) | (go_at_call 24; (with_reducible refine (belvederelaw10_texts.calls k2 _ _ _ _ _ l0 _ _ ?side1 ?side2 ?side3 ?side4 A29.out).mono ?_); (case side1 => repeat (first | exact (RR HO_10.out).2.2 | (with_reducible refine Kd.C_alloc ?_ _) | (with_reducible refine Kd.C_drewN ?_ _) | (with_reducible refine Kd.C_drew ?_))); (case side2 => exact (RR HO_10.out).2.1); (case side3 => repeat (first | exact (Kd.C_below HR0.out HB.out) | (with_reducible refine Kd.C_alloc ?_ _) | (with_reducible refine Kd.C_drewN ?_ _) | (with_reducible refine Kd.C_drew ?_))); (case side4 => exact HC0.out); rintro e w' ⟨rfl, ⟨nd, rfl⟩⟩; obtain ⟨Ao49, co49, eo49⟩ := Kd.R_slice HO274.out; subst eo49) | (go_at_call 24; (with_reducible refine (belvederelaw10_texts.calls k2 _ _ _ _ _ l0 _ _ ?side1 ?side2 ?side3 ?side4 A31.out).mono ?_); (case side1 => repeat (first | exact (RR HO274.out).2.2 | (with_reducible refine Kd.C_alloc ?_ _) | (with_reducible refine Kd.C_drewN ?_ _) | (with_reducible refine Kd.C_drew ?_))); (case side2 => exact (RR HO274.out).2.1); (case side3 => repeat (first | exact (Kd.C_below HR0.out (be HB.out)) | (with_reducible refine Kd.C_alloc ?_ _) | (with_reducible refine Kd.C_drewN ?_ _) | (with_reducible refine Kd.C_drew ?_))); (case side4 => exact HC0.out); rintro e w' ⟨rfl, ⟨nd, rfl⟩⟩) | ((with_reducible refine gate_callee (f := 18) rfl ?_); refine goesL_ (some 98) rfl rfl Tryz.func18 kr rfl #[.int .i64 a2, .string a1] rfl sa ?_; (with_reducible refine (value_Letters.calls k2 a2 a1 t279 (some q281) _ A33.out ?side1).mono ?_); (case side1 => first | exact hG | exact GL.below hG (be HB.out) | (repeat (first | exact hG | apply GL.drewN | apply GL.drew | apply GL.alloc))); rintro e w50 ⟨rfl, hb⟩; refine ⟨_, rfl, ?_⟩; replace HO_10 := As (RB (ro HO_10.out) hb); replace HO274 := As (RB (ro HO274.out) hb); replace HB := As (XT (be HB.out) hb); (try clear hb); (try clear hb2); (try clear hk); (try clear hi); (try simp only [errW_none, errW_some]); have CA43 := fun W (hW_ : GL W) => belvederelaw10_num.calls (some q281) t286 W A43.out hW_; try simp only [errW_none, errW_some] at CA43) | (go_at_call 9; (with_reducible refine (CA43 _ ?side1).mono ?_); (case side1 => first | exact hG | exact GL.below hG (be HB.out) | (repeat (first | exact hG | apply GL.drewN | apply GL.drew | apply GL.alloc))); rintro e w51 ⟨rfl, hb⟩; replace HO_10 := As (RB (ro HO_10.out) hb); replace HO274 := As (RB (ro HO274.out) hb); replace HB := As (XT (be HB.out) hb); (try clear hb); (try clear hb2); (try clear hk); (try clear hi)) | (go_at_call 10; (with_reducible refine (belvederelaw10_sure.calls k2  t287 _ A46.out ?side1).mono ?_); (case side1 => first | exact hG | exact GL.below hG (be HB.out) | (repeat (first | exact hG | apply GL.drewN | apply GL.drew | apply GL.alloc))); rintro e w52 ⟨rfl, hb⟩; replace HO_10 := As (RB (ro HO_10.out) hb); replace HO274 := As (RB (ro HO274.out) hb); replace HB := As (XT (be HB.out) hb); (try clear hb); (try clear hb2); (try clear hk); (try clear hi)))
                   go_ret
                   exact ⟨by first | rfl | (simp [errW_none, errW_some] <;> rfl) | (simp [*, errW_none, errW_some] <;> rfl), by repeat (first | (with_reducible first | exact HB.out | apply XA | apply XN | apply XD) | exact HB.out)⟩
                  ·rw [if_neg c45] at H;exact absurd H (by simp)
                 ·rw [if_neg c44] at H;exact absurd H (by simp)
               ·replace c32 := Bool.eq_false_iff.mpr c32;subst c32
                have H1 : (none) = some r := by rw [if_neg (show ¬ (false = true) by decide)] at H; exact H
                clear H;have H := H1;clear H1;exact absurd H (by simp)
              ·replace c30 := Bool.eq_false_iff.mpr c30;subst c30
               have H1 : (none) = some r := by rw [if_neg (show ¬ (false = true) by decide)] at H; exact H
               clear H;have H := H1;clear H1;exact absurd H (by simp)
             ·have H1 : (none) = some r := by rw [if_neg (show ¬ (some q276).isNone = true by simp)] at H; exact H
              clear H;have H := H1;clear H1
              try simp only [errW_none, errW_some]
              exact absurd H (by simp)
            ·have H1 : (none) = some r := by rw [if_neg (show ¬ (some q275).isNone = true by simp)] at H; exact H
             clear H;have H := H1;clear H1
             try simp only [errW_none, errW_some]
             exact absurd H (by simp)
           ·rw [if_neg c27] at H;exact absurd H (by simp)
          ·rw [if_neg c26] at H;exact absurd H (by simp)
      ·have H1 : ((value_Letters.f k1 a2 a1).bind fun bt288 => (if bt288.2.isNone = true then ((value_Options.f k1 bt288.1 a1).bind fun bt291 => (if bt291.2.isNone = true then (if bt291.1 = a2 then ((belvederelaw10_sure.f k1).bind fun t294 => (some t294)) else (none)) else (none))) else ((belvederelaw10_num.f (some (bt288.2.getD 0))).bind fun t295 => (if t295 = 1 then (if bt288.1.toList = ([] : List UInt8) then ((belvederelaw10_sure.f k1).bind fun t296 => (some t296)) else (none)) else (none))))) = some r := by rw [if_neg (show ¬ (some q264).isNone = true by simp)] at H; exact H
       clear H;have H := H1;clear H1
       try simp only [errW_none, errW_some]
       replace H := bE H;obtain ⟨⟨t288, t289⟩, A530, H⟩ := H;replace H : (if t289.isNone = true then ((value_Options.f k1 t288 a1).bind fun bt291 => (if bt291.2.isNone = true then (if bt291.1 = a2 then ((belvederelaw10_sure.f k1).bind fun t294 => (some t294)) else (none)) else (none))) else ((belvederelaw10_num.f (some (t289.getD 0))).bind fun t295 => (if t295 = 1 then (if t288.toList = ([] : List UInt8) then ((belvederelaw10_sure.f k1).bind fun t296 => (some t296)) else (none)) else (none)))) = some r := H;have A53 := As A530;clear A530
       rcases t289 with _ | q290
       ·have H1 : ((value_Options.f k1 t288 a1).bind fun bt291 => (if bt291.2.isNone = true then (if bt291.1 = a2 then ((belvederelaw10_sure.f k1).bind fun t294 => (some t294)) else (none)) else (none))) = some r := by rw [if_pos no0] at H; exact H
        clear H;have H := H1;clear H1
        try simp only [errW_none, errW_some]
        replace H := bE H;obtain ⟨⟨t291, t292⟩, A540, H⟩ := H;replace H : (if t292.isNone = true then (if t291 = a2 then ((belvederelaw10_sure.f k1).bind fun t294 => (some t294)) else (none)) else (none)) = some r := H;have A54 := As A540;clear A540
        rcases t292 with _ | q293
        ·have H1 : (if t291 = a2 then ((belvederelaw10_sure.f k1).bind fun t294 => (some t294)) else (none)) = some r := by rw [if_pos no0] at H; exact H
         clear H;have H := H1;clear H1
         try simp only [errW_none, errW_some]
         by_cases c55 : t291 = a2
         ·rw [if_pos c55] at H;have c55b0 : (t291 == a2) = true := beq_iff_eq.mpr c55;have c55b1 : (t291 != a2) = false := bne_eq_false_iff_eq.mpr c55;clear c55;replace H := bE H;obtain ⟨t294, A560, H⟩ := H;replace H : (some t294) = some r := H;have A56 := As A560;clear A560;obtain rfl := Option.some.inj H
          go_wp2_with (first | ((with_reducible refine gate_callee (f := 22) rfl ?_); refine goesL_ (some 44) rfl rfl Tryz.func22 kr rfl #[.slice A0 l0.length c0] rfl sa ?_; (with_reducible refine (value_Joined.calls k1 _ _ l0 t262 (some q264) _ ?side1 ?side2 A15.out ?side3).mono ?_); (case side1 => repeat (first | exact (Kd.C_below HR0.out HB.out) | (with_reducible refine Kd.C_alloc ?_ _) | (with_reducible refine Kd.C_drewN ?_ _) | (with_reducible refine Kd.C_drew ?_))); (case side2 => exact HC0.out); (case side3 => first | exact hG | exact GL.below hG (be HB.out) | (repeat (first | exact hG | apply GL.drewN | apply GL.drew | apply GL.alloc))); rintro e w57 ⟨rfl, hb⟩; refine ⟨_, rfl, ?_⟩; replace HB := As (XT (be HB.out) hb); (try clear hb); (try clear hb2); (try clear hk); (try clear hi); (try simp only [errW_none, errW_some])) | ((with_reducible refine gate_callee (f := 18) rfl ?_); refine goesL_ (some 98) rfl rfl Tryz.func18 kr rfl #[.int .i64 a2, .string a1] rfl sa ?_; (with_reducible refine (value_Letters.calls k1 a2 a1 t288 none _ A53.out ?side1).mono ?_); (case side1 => first | exact hG | exact GL.below hG (be HB.out) | (repeat (first | exact hG | apply GL.drewN | apply GL.drew | apply GL.alloc))); rintro e w58 ⟨rfl, hb⟩; refine ⟨_, rfl, ?_⟩; replace HB := As (XT (be HB.out) hb); (try clear hb); (try clear hb2); (try clear hk); (try clear hi); (try simp only [errW_none, errW_some])) | ((with_reducible refine gate_callee (f := 16) rfl ?_); refine goesL_ (some 116) rfl rfl Tryz.func16 kr rfl #[.string t288, .string a1] rfl sa ?_; (with_reducible refine (value_Options.calls k1 t288 a1 t291 none _ A54.out ?side1).mono ?_); (case side1 => first | exact hG | exact GL.below hG (be HB.out) | (repeat (first | exact hG | apply GL.drewN | apply GL.drew | apply GL.alloc))); rintro e w59 ⟨rfl, hb⟩; refine ⟨_, rfl, ?_⟩; replace HB := As (XT (be HB.out) hb); (try clear hb); (try clear hb2); (try clear hk); (try clear hi); (try simp only [errW_none, errW_some])) | (go_at_call 10; (with_reducible refine (belvederelaw10_sure.calls k1  t294 _ A56.out ?side1).mono ?_); (case side1 => first | exact hG | exact GL.below hG (be HB.out) | (repeat (first | exact hG | apply GL.drewN | apply GL.drew | apply GL.alloc))); rintro e w60 ⟨rfl, hb⟩; replace HB := As (XT (be HB.out) hb); (try clear hb); (try clear hb2); (try clear hk); (try clear hi)))
          go_ret
          exact ⟨by first | rfl | (simp [errW_none, errW_some] <;> rfl) | (simp [*, errW_none, errW_some] <;> rfl), by repeat (first | (with_reducible first | exact HB.out | apply XA | apply XN | apply XD) | exact HB.out)⟩
         ·rw [if_neg c55] at H;exact absurd H (by simp)
        ·have H1 : (none) = some r := by rw [if_neg (show ¬ (some q293).isNone = true by simp)] at H; exact H
         clear H;have H := H1;clear H1
         try simp only [errW_none, errW_some]
         exact absurd H (by simp)
       ·have H1 : ((belvederelaw10_num.f (some q290)).bind fun t295 => (if t295 = 1 then (if t288.toList = ([] : List UInt8) then ((belvederelaw10_sure.f k1).bind fun t296 => (some t296)) else (none)) else (none))) = some r := by rw [if_neg (show ¬ (some q290).isNone = true by simp)] at H; exact H
        clear H;have H := H1;clear H1
        try simp only [errW_none, errW_some]
        replace H := bE H;obtain ⟨t295, A610, H⟩ := H;replace H : (if t295 = 1 then (if t288.toList = ([] : List UInt8) then ((belvederelaw10_sure.f k1).bind fun t296 => (some t296)) else (none)) else (none)) = some r := H;have A61 := As A610;clear A610
        by_cases c62 : t295 = 1
        ·rw [if_pos c62] at H;have c62b0 : (t295 == 1) = true := beq_iff_eq.mpr c62;have c62b1 : (t295 != 1) = false := bne_eq_false_iff_eq.mpr c62;clear c62
         by_cases c63 : t288.toList = ([] : List UInt8)
         ·rw [if_pos c63] at H;have c63b0 : (t288.toList == ([] : List UInt8)) = true := beq_iff_eq.mpr c63;have c63b1 : (t288.toList != ([] : List UInt8)) = false := bne_eq_false_iff_eq.mpr c63;clear c63;replace H := bE H;obtain ⟨t296, A640, H⟩ := H;replace H : (some t296) = some r := H;have A64 := As A640;clear A640;obtain rfl := Option.some.inj H
          go_wp2_with (first | ((with_reducible refine gate_callee (f := 22) rfl ?_); refine goesL_ (some 44) rfl rfl Tryz.func22 kr rfl #[.slice A0 l0.length c0] rfl sa ?_; (with_reducible refine (value_Joined.calls k1 _ _ l0 t262 (some q264) _ ?side1 ?side2 A15.out ?side3).mono ?_); (case side1 => repeat (first | exact (Kd.C_below HR0.out HB.out) | (with_reducible refine Kd.C_alloc ?_ _) | (with_reducible refine Kd.C_drewN ?_ _) | (with_reducible refine Kd.C_drew ?_))); (case side2 => exact HC0.out); (case side3 => first | exact hG | exact GL.below hG (be HB.out) | (repeat (first | exact hG | apply GL.drewN | apply GL.drew | apply GL.alloc))); rintro e w65 ⟨rfl, hb⟩; refine ⟨_, rfl, ?_⟩; replace HB := As (XT (be HB.out) hb); (try clear hb); (try clear hb2); (try clear hk); (try clear hi); (try simp only [errW_none, errW_some])) | ((with_reducible refine gate_callee (f := 18) rfl ?_); refine goesL_ (some 98) rfl rfl Tryz.func18 kr rfl #[.int .i64 a2, .string a1] rfl sa ?_; (with_reducible refine (value_Letters.calls k1 a2 a1 t288 (some q290) _ A53.out ?side1).mono ?_); (case side1 => first | exact hG | exact GL.below hG (be HB.out) | (repeat (first | exact hG | apply GL.drewN | apply GL.drew | apply GL.alloc))); rintro e w66 ⟨rfl, hb⟩; refine ⟨_, rfl, ?_⟩; replace HB := As (XT (be HB.out) hb); (try clear hb); (try clear hb2); (try clear hk); (try clear hi); (try simp only [errW_none, errW_some]); have CA61 := fun W (hW_ : GL W) => belvederelaw10_num.calls (some q290) t295 W A61.out hW_; try simp only [errW_none, errW_some] at CA61) | (go_at_call 9; (with_reducible refine (CA61 _ ?side1).mono ?_); (case side1 => first | exact hG | exact GL.below hG (be HB.out) | (repeat (first | exact hG | apply GL.drewN | apply GL.drew | apply GL.alloc))); rintro e w67 ⟨rfl, hb⟩; replace HB := As (XT (be HB.out) hb); (try clear hb); (try clear hb2); (try clear hk); (try clear hi)) | (go_at_call 10; (with_reducible refine (belvederelaw10_sure.calls k1  t296 _ A64.out ?side1).mono ?_); (case side1 => first | exact hG | exact GL.below hG (be HB.out) | (repeat (first | exact hG | apply GL.drewN | apply GL.drew | apply GL.alloc))); rintro e w68 ⟨rfl, hb⟩; replace HB := As (XT (be HB.out) hb); (try clear hb); (try clear hb2); (try clear hk); (try clear hi)))
          go_ret
          exact ⟨by first | rfl | (simp [errW_none, errW_some] <;> rfl) | (simp [*, errW_none, errW_some] <;> rfl), by repeat (first | (with_reducible first | exact HB.out | apply XA | apply XN | apply XD) | exact HB.out)⟩
         ·rw [if_neg c63] at H;exact absurd H (by simp)
        ·rw [if_neg c62] at H;exact absurd H (by simp)

/-- THE ONE PURE STATEMENT of belvederelaw10_ValueBack: yours. -/
def belvederelaw10_ValueBack.Pure : Prop := ∀ (l0 : List ByteArray) (a1 : ByteArray) (a2 : Int), (l0.length ≤ maxLen ∧ ∀ x ∈ l0, x.size ≤ maxLen) → a1.size ≤ 140737488351232 → (Lit.int .i64 a2).wf = true → ∃ k, belvederelaw10_ValueBack.f k l0 a1 a2 = some true
theorem belvederelaw10_ValueBack.walk (P : belvederelaw10_ValueBack.Pure) (A0 : Option Addr) (c0 : Nat) (l0 : List ByteArray) (a1 : ByteArray) (a2 : Int) (w : World) (hr0 : Kd.C Kd.string w A0 l0.length l0) (hc0 : l0.length ≤ c0) (g0 : (l0.length ≤ maxLen ∧ ∀ x ∈ l0, x.size ≤ maxLen)) (w1 : a1.size ≤ 140737488351232) (w2 : (Lit.int .i64 a2).wf = true) (hG : GL w) :
  Calls Tryz.prog 7 #[.slice A0 l0.length c0, .string a1, .int .i64 a2] w fun e w' => e = .returned (.bool true) ∧ Below w.heap.size w w' := by
 obtain ⟨k, h⟩ := P l0 a1 a2 g0 w1 w2;refine (belvederelaw10_ValueBack.calls k _ _ l0 a1 a2 true w hr0 hc0 h hG).mono ?_;rintro e w' ⟨rfl, hd⟩;exact ⟨rfl, hd⟩

end Go.Proofs.YtahjnjlkpbjfnaaGreatDoor.P
-- SHRUNK
-- PACKED
-- PACKED2
