-- written by myprint.py (this claim's own program, after the kit's print)
import Derived.Test.YtegiikkbeknodaaDoorPx0
import Derived.Test.YtegiikkbeknodaaDoorPx5
import Derived.Test.YtegiikkbeknodaaDoorPx9
import Derived.Test.YtegiikkbeknodaaDoorPx10
import Derived.Test.YtegiikkbeknodaaDoorNumP
import Derived.Test.YtegiikkbeknodaaDoorPClParseH
import Derived.Test.YtegiikkbeknodaaDoorPack
namespace Go.Proofs.YtegiikkbeknodaaDoor.P
open Go.RowKit Go.Proofs.YtegiikkbeknodaaDoorW.PrintWords Go.Proofs.YtegiikkbeknodaaDoorW.PrintLast Go.Proofs.YtegiikkbeknodaaDoorW.PrintMore
attribute [local go_sem] max2_int min2_int max_two min_two max_three min_three max_four min_four   -- for this text's walks alone
set_option linter.unusedVariables false
set_option linter.unusedSimpArgs false

/-! ### w5_ClockHours: function 8 -/
def w5_ClockHours.f (k : Nat) (a0 : Int) (a1 : ByteArray) : Option (Bool) := (clock_Hours.f k a0).bind fun bt146 => ((r5_Hours.f k a0).bind fun bt148 => ((clock_Parse.f a1).bind fun bt150 => ((r5_Parse.f k a1).bind fun bt152 => (if bt146.1.toList = bt148.1.toList then ((w5_num.f bt146.2).bind fun t154 => (if t154 = bt148.2 then (if bt150.1 = bt152.1 then ((w5_num.f bt150.2).bind fun t155 => (if t155 = bt152.2 then ((w5_sure.f k).bind fun t156 => (some t156)) else (none))) else (none)) else (none))) else (none)))))
theorem w5_ClockHours.mono : ∀ a0 a1 k, LeO (w5_ClockHours.f k a0 a1) (w5_ClockHours.f (k + 1) a0 a1) := by
 intro a0 a1 k;unfold w5_ClockHours.f
 repeat' first
   | (with_reducible exact w5_sure.mono _)
   | (with_reducible exact r5_Hours.mono _ _)
   | (with_reducible exact r5_Parse.mono _ _)
   | (with_reducible exact clock_Hours.mono _ _)
   | (with_reducible exact LeO.refl _)
   | (with_reducible exact LeO.none _)
   | (with_reducible refine LeO.ite ?_ ?_)
   | (with_reducible refine LeO.bind ?_ (fun _ => ?_))
   | exact w5_sure.mono _
   | exact r5_Hours.mono _ _
   | exact r5_Parse.mono _ _
   | exact clock_Hours.mono _ _
   | exact LeO.none _
   | refine LeO.ite ?_ ?_
   | refine LeO.bind ?_ (fun _ => ?_)
set_option maxHeartbeats 8000000 in
set_option maxRecDepth 100000 in
theorem w5_ClockHours.calls (k : Nat) (a0 : Int) (a1 : ByteArray) (r : Bool) (w : World) (h : w5_ClockHours.f k a0 a1 = some r) (hG : GL w) :
  Calls Tryd.prog 8 #[.int .i64 a0, .string a1] w fun e w' => e = .returned (.bool r) ∧ Below w.heap.size w w' := by
 have HB := As (Below.refl w.heap.size w);have H : ((clock_Hours.f k a0).bind fun bt146 => ((r5_Hours.f k a0).bind fun bt148 => ((clock_Parse.f a1).bind fun bt150 => ((r5_Parse.f k a1).bind fun bt152 => (if bt146.1.toList = bt148.1.toList then ((w5_num.f bt146.2).bind fun t154 => (if t154 = bt148.2 then (if bt150.1 = bt152.1 then ((w5_num.f bt150.2).bind fun t155 => (if t155 = bt152.2 then ((w5_sure.f k).bind fun t156 => (some t156)) else (none))) else (none)) else (none))) else (none)))))) = some r := h;clear h;replace H := bE H;obtain ⟨⟨t146, t147⟩, A30, H⟩ := H;replace H : ((r5_Hours.f k a0).bind fun bt148 => ((clock_Parse.f a1).bind fun bt150 => ((r5_Parse.f k a1).bind fun bt152 => (if t146.toList = bt148.1.toList then ((w5_num.f t147).bind fun t154 => (if t154 = bt148.2 then (if bt150.1 = bt152.1 then ((w5_num.f bt150.2).bind fun t155 => (if t155 = bt152.2 then ((w5_sure.f k).bind fun t156 => (some t156)) else (none))) else (none)) else (none))) else (none))))) = some r := H;have A3 := As A30;clear A30;replace H := bE H;obtain ⟨⟨t148, t149⟩, A40, H⟩ := H;replace H : ((clock_Parse.f a1).bind fun bt150 => ((r5_Parse.f k a1).bind fun bt152 => (if t146.toList = t148.toList then ((w5_num.f t147).bind fun t154 => (if t154 = t149 then (if bt150.1 = bt152.1 then ((w5_num.f bt150.2).bind fun t155 => (if t155 = bt152.2 then ((w5_sure.f k).bind fun t156 => (some t156)) else (none))) else (none)) else (none))) else (none)))) = some r := H;have A4 := As A40;clear A40;replace H := bE H;obtain ⟨⟨t150, t151⟩, A50, H⟩ := H;replace H : ((r5_Parse.f k a1).bind fun bt152 => (if t146.toList = t148.toList then ((w5_num.f t147).bind fun t154 => (if t154 = t149 then (if t150 = bt152.1 then ((w5_num.f t151).bind fun t155 => (if t155 = bt152.2 then ((w5_sure.f k).bind fun t156 => (some t156)) else (none))) else (none)) else (none))) else (none))) = some r := H;have A5 := As A50;clear A50;replace H := bE H;obtain ⟨⟨t152, t153⟩, A60, H⟩ := H;replace H : (if t146.toList = t148.toList then ((w5_num.f t147).bind fun t154 => (if t154 = t149 then (if t150 = t152 then ((w5_num.f t151).bind fun t155 => (if t155 = t153 then ((w5_sure.f k).bind fun t156 => (some t156)) else (none))) else (none)) else (none))) else (none)) = some r := H;have A6 := As A60;clear A60
 by_cases c7 : t146.toList = t148.toList
 ·rw [if_pos c7] at H;have c7b0 : (t146.toList == t148.toList) = true := beq_iff_eq.mpr c7;have c7b1 : (t146.toList != t148.toList) = false := bne_eq_false_iff_eq.mpr c7;clear c7;replace H := bE H;obtain ⟨t154, A80, H⟩ := H;replace H : (if t154 = t149 then (if t150 = t152 then ((w5_num.f t151).bind fun t155 => (if t155 = t153 then ((w5_sure.f k).bind fun t156 => (some t156)) else (none))) else (none)) else (none)) = some r := H;have A8 := As A80;clear A80
  by_cases c9 : t154 = t149
  ·rw [if_pos c9] at H;have c9b0 : (t154 == t149) = true := beq_iff_eq.mpr c9;have c9b1 : (t154 != t149) = false := bne_eq_false_iff_eq.mpr c9;clear c9
   by_cases c10 : t150 = t152
   ·rw [if_pos c10] at H;have c10b0 : (t150 == t152) = true := beq_iff_eq.mpr c10;have c10b1 : (t150 != t152) = false := bne_eq_false_iff_eq.mpr c10;clear c10;replace H := bE H;obtain ⟨t155, A110, H⟩ := H;replace H : (if t155 = t153 then ((w5_sure.f k).bind fun t156 => (some t156)) else (none)) = some r := H;have A11 := As A110;clear A110
    by_cases c12 : t155 = t153
    ·rw [if_pos c12] at H;have c12b0 : (t155 == t153) = true := beq_iff_eq.mpr c12;have c12b1 : (t155 != t153) = false := bne_eq_false_iff_eq.mpr c12;clear c12;replace H := bE H;obtain ⟨t156, A130, H⟩ := H;replace H : (some t156) = some r := H;have A13 := As A130;clear A130;obtain rfl := Option.some.inj H
     go_enter Tryd.func8, Tryd.ntmps8
     go_wp2_with (first | ((with_reducible refine gate_callee (f := 19) rfl ?_); refine goesL_ (some 15) rfl rfl Tryd.func19 kr rfl #[.int .i64 a0] rfl sa ?_; (with_reducible refine (clock_Hours.calls k a0 t146 t147 _ A3.out ?side1).mono ?_); (case side1 => first | exact hG | exact GL.below hG (be HB.out) | (repeat (first | exact hG | apply GL.drewN | apply GL.drew | apply GL.alloc))); rintro e w14 ⟨rfl, hb⟩; refine ⟨_, rfl, ?_⟩; have n0_ := As (XT (be HB.out) hb); clear HB; have HB := n0_; clear n0_; (try clear hb); (try clear hb2); (try clear hk); (try clear hi); (try simp only [errW_none, errW_some])) | ((with_reducible refine gate_callee (f := 21) rfl ?_); refine goesL_ (some 20) rfl rfl Tryd.func21 kr rfl #[.int .i64 a0] rfl sa ?_; (with_reducible refine (r5_Hours.calls k a0 _ _ _ A4.out).mono ?_); rintro e w' ⟨rfl, ⟨nd, rfl⟩⟩; refine ⟨_, rfl, ?_⟩) | ((with_reducible refine gate_callee (f := 20) rfl ?_); refine goesL_ (some 25) rfl rfl Tryd.func20 kr rfl #[.string a1] rfl sa ?_; (with_reducible refine (clock_Parse.calls a1 t150 t151 _ A5.out ?side1).mono ?_); (case side1 => first | exact hG | exact GL.below hG (be HB.out) | (repeat (first | exact hG | apply GL.drewN | apply GL.drew | apply GL.alloc))); rintro e w15 ⟨rfl, hb⟩; refine ⟨_, rfl, ?_⟩; have n0_ := As (XT (be HB.out) hb); clear HB; have HB := n0_; clear n0_; (try clear hb); (try clear hb2); (try clear hk); (try clear hi); (try simp only [errW_none, errW_some])) | ((with_reducible refine gate_callee (f := 22) rfl ?_); refine goesL_ (some 30) rfl rfl Tryd.func22 kr rfl #[.string a1] rfl sa ?_; (with_reducible refine (r5_Parse.calls k a1 _ _ _ A6.out).mono ?_); rintro e w16 ⟨rfl, hb⟩; refine ⟨_, rfl, ?_⟩; have n0_ := As (XT (be HB.out) hb); clear HB; have HB := n0_; clear n0_; (try clear hb); (try clear hb2); (try clear hk); (try clear hi); have CA8 := fun W (hW_ : GL W) => w5_num.calls t147 t154 W A8.out hW_; try simp only [errW_none, errW_some] at CA8) | (go_at_call 15; (with_reducible refine (CA8 _ ?side1).mono ?_); (case side1 => first | exact hG | exact GL.below hG (be HB.out) | (repeat (first | exact hG | apply GL.drewN | apply GL.drew | apply GL.alloc))); rintro e w17 ⟨rfl, hb⟩; have n0_ := As (XT (be HB.out) hb); clear HB; have HB := n0_; clear n0_; (try clear hb); (try clear hb2); (try clear hk); (try clear hi); have CA11 := fun W (hW_ : GL W) => w5_num.calls t151 t155 W A11.out hW_; try simp only [errW_none, errW_some] at CA11) | (go_at_call 15; (with_reducible refine (CA11 _ ?side1).mono ?_); (case side1 => first | exact hG | exact GL.below hG (be HB.out) | (repeat (first | exact hG | apply GL.drewN | apply GL.drew | apply GL.alloc))); rintro e w18 ⟨rfl, hb⟩; have n0_ := As (XT (be HB.out) hb); clear HB; have HB := n0_; clear n0_; (try clear hb); (try clear hb2); (try clear hk); (try clear hi)) | (go_at_call 10; (with_reducible refine (w5_sure.calls k  t156 _ A13.out ?side1).mono ?_); (case side1 => first | exact hG | exact GL.below hG (be HB.out) | (repeat (first | exact hG | apply GL.drewN | apply GL.drew | apply GL.alloc))); rintro e w19 ⟨rfl, hb⟩; have n0_ := As (XT (be HB.out) hb); clear HB; have HB := n0_; clear n0_; (try clear hb); (try clear hb2); (try clear hk); (try clear hi)))
     go_ret
     exact ⟨by first | rfl | (simp [errW_none, errW_some] <;> rfl) | (simp [*, errW_none, errW_some] <;> rfl), by repeat (first | (with_reducible first | exact HB.out | apply XA | apply XN | apply XD) | exact HB.out)⟩
    ·rw [if_neg c12] at H;exact absurd H (by simp)
   ·rw [if_neg c10] at H;exact absurd H (by simp)
  ·rw [if_neg c9] at H;exact absurd H (by simp)
 ·rw [if_neg c7] at H;exact absurd H (by simp)

/-- THE ONE PURE STATEMENT of w5_ClockHours: yours. -/
def w5_ClockHours.Pure : Prop := ∀ (a0 : Int) (a1 : ByteArray), (Lit.int .i64 a0).wf = true → a1.size ≤ 140737488351232 → ∃ k, w5_ClockHours.f k a0 a1 = some true
theorem w5_ClockHours.walk (P : w5_ClockHours.Pure) (a0 : Int) (a1 : ByteArray) (w : World) (w0 : (Lit.int .i64 a0).wf = true) (w1 : a1.size ≤ 140737488351232) (hG : GL w) :
  Calls Tryd.prog 8 #[.int .i64 a0, .string a1] w fun e w' => e = .returned (.bool true) ∧ Below w.heap.size w w' := by
 obtain ⟨k, h⟩ := P a0 a1 w0 w1;refine (w5_ClockHours.calls k a0 a1 true w h hG).mono ?_;rintro e w' ⟨rfl, hd⟩;exact ⟨rfl, hd⟩

end Go.Proofs.YtegiikkbeknodaaDoor.P
-- SHRUNK
-- PACKED
-- PACKED2
