-- written by myprint.py (this claim's own program, after the kit's print)
import Derived.Test.YtdakfmldbddokaaGreatDoorCmEq5
import Derived.Test.YtdakfmldbddokaaGreatDoorPx0
import Derived.Test.YtdakfmldbddokaaGreatDoorPx6
import Derived.Test.YtdakfmldbddokaaGreatDoorPack
namespace Go.Proofs.YtdakfmldbddokaaGreatDoor.P
open Go.RowKit Go.Proofs.YtdakfmldbddokaaGreatDoorW.PrintWords Go.Proofs.YtdakfmldbddokaaGreatDoorW.PrintLast Go.Proofs.YtdakfmldbddokaaGreatDoorW.PrintMore
attribute [local go_sem] max2_int min2_int max_two min_two max_three min_three max_four min_four   -- for this text's walks alone
set_option linter.unusedVariables false
set_option linter.unusedSimpArgs false
attribute [local go_sem] arr5_eq

/-! ### w2s: function 8 -/
def w2s.f (k : Nat)  : Option (Bool) := (cP.f k (⟨#[97, 99, 107, 59, 97, 47, 98, 59, 49]⟩ : ByteArray)).bind fun bt205 => (if bt205.2.2.2.2.2.2.2.2.isNone = true then (if bt205.1 = 3 then (if bt205.2.1.toList = ([97, 47, 98] : List UInt8) then (if bt205.2.2.1 = 1 then (if bt205.2.2.2.1 = 0 then (if bt205.2.2.2.2.1 = 0 then (if bt205.2.2.2.2.2.1 = 0 then (if bt205.2.2.2.2.2.2.1 = 0 then (if bt205.2.2.2.2.2.2.2.1.toList = ([] : List UInt8) then (some true) else (some false)) else (some false)) else (some false)) else (some false)) else (some false)) else (some false)) else (some false)) else (some false)) else (some false))
theorem w2s.mono : ∀ k, LeO (w2s.f k ) (w2s.f (k + 1) ) := by
 intro  k;unfold w2s.f
 repeat' (with_reducible first|apply cP.mono|apply LeO.refl|apply LeO.none|refine LeO.ite ?_ ?_|refine LeO.bind ?_ (fun _=>?_))
set_option maxHeartbeats 8000000 in
set_option maxRecDepth 100000 in
theorem w2s.calls (k : Nat)  (r : Bool) (w : World) (h : w2s.f k  = some r) (hG : GL w) :
  Calls Tryz.prog 8 #[] w fun e w' => e = .returned (.bool r) ∧ Below w.heap.size w w' := by
 have hu30 := Tryz.underlying30;have hu22 := Tryz.underlying22;have hu27 := Tryz.underlying27;have hu45 := Tryz.underlying45;have HB := As (Below.refl w.heap.size w);have H : ((cP.f k (⟨#[97, 99, 107, 59, 97, 47, 98, 59, 49]⟩ : ByteArray)).bind fun bt205 => (if bt205.2.2.2.2.2.2.2.2.isNone = true then (if bt205.1 = 3 then (if bt205.2.1.toList = ([97, 47, 98] : List UInt8) then (if bt205.2.2.1 = 1 then (if bt205.2.2.2.1 = 0 then (if bt205.2.2.2.2.1 = 0 then (if bt205.2.2.2.2.2.1 = 0 then (if bt205.2.2.2.2.2.2.1 = 0 then (if bt205.2.2.2.2.2.2.2.1.toList = ([] : List UInt8) then (some true) else (some false)) else (some false)) else (some false)) else (some false)) else (some false)) else (some false)) else (some false)) else (some false)) else (some false))) = some r := h;clear h;replace H := bE H;obtain ⟨⟨t205, t206, t207, t208, t209, t210, t211, t212, t213⟩, A10, H⟩ := H;replace H : (if t213.isNone = true then (if t205 = 3 then (if t206.toList = ([97, 47, 98] : List UInt8) then (if t207 = 1 then (if t208 = 0 then (if t209 = 0 then (if t210 = 0 then (if t211 = 0 then (if t212.toList = ([] : List UInt8) then (some true) else (some false)) else (some false)) else (some false)) else (some false)) else (some false)) else (some false)) else (some false)) else (some false)) else (some false)) = some r := H;have A1 := As A10;clear A10
 rcases t213 with _ | q215
 focus
  have H1 : (if t205 = 3 then (if t206.toList = ([97, 47, 98] : List UInt8) then (if t207 = 1 then (if t208 = 0 then (if t209 = 0 then (if t210 = 0 then (if t211 = 0 then (if t212.toList = ([] : List UInt8) then (some true) else (some false)) else (some false)) else (some false)) else (some false)) else (some false)) else (some false)) else (some false)) else (some false)) = some r := by rw [if_pos no0] at H; exact H
  clear H;have H := H1;clear H1
  try simp only [errW_none, errW_some]
  by_cases c2 : t205 = 3
  focus
   rw [if_pos c2] at H;have c2b0 : (t205 == 3) = true := beq_iff_eq.mpr c2;have c2b1 : (t205 != 3) = false := bne_eq_false_iff_eq.mpr c2;clear c2
   by_cases c3 : t206.toList = ([97, 47, 98] : List UInt8)
   focus
    rw [if_pos c3] at H;have c3b0 : (t206.toList == ([97, 47, 98] : List UInt8)) = true := beq_iff_eq.mpr c3;have c3b1 : (t206.toList != ([97, 47, 98] : List UInt8)) = false := bne_eq_false_iff_eq.mpr c3;clear c3
    by_cases c4 : t207 = 1
    focus
     rw [if_pos c4] at H;have c4b0 : (t207 == 1) = true := beq_iff_eq.mpr c4;have c4b1 : (t207 != 1) = false := bne_eq_false_iff_eq.mpr c4;clear c4
     by_cases c5 : t208 = 0
     focus
      rw [if_pos c5] at H;have c5b0 : (t208 == 0) = true := beq_iff_eq.mpr c5;have c5b1 : (t208 != 0) = false := bne_eq_false_iff_eq.mpr c5;clear c5
      by_cases c6 : t209 = 0
      focus
       rw [if_pos c6] at H;have c6b0 : (t209 == 0) = true := beq_iff_eq.mpr c6;have c6b1 : (t209 != 0) = false := bne_eq_false_iff_eq.mpr c6;clear c6
       by_cases c7 : t210 = 0
       focus
        rw [if_pos c7] at H;have c7b0 : (t210 == 0) = true := beq_iff_eq.mpr c7;have c7b1 : (t210 != 0) = false := bne_eq_false_iff_eq.mpr c7;clear c7
        by_cases c8 : t211 = 0
        focus
         rw [if_pos c8] at H;have c8b0 : (t211 == 0) = true := beq_iff_eq.mpr c8;have c8b1 : (t211 != 0) = false := bne_eq_false_iff_eq.mpr c8;clear c8
         by_cases c9 : t212.toList = ([] : List UInt8)
         rw [if_pos c9] at H;have c9b0 : (t212.toList == ([] : List UInt8)) = true := beq_iff_eq.mpr c9;have c9b1 : (t212.toList != ([] : List UInt8)) = false := bne_eq_false_iff_eq.mpr c9;clear c9;obtain rfl := Option.some.inj H
         have m9_ := trivial
         rotate_left
         rw [if_neg c9] at H;have c9b0 : (t212.toList == ([] : List UInt8)) = false := beq_eq_false_iff_ne.mpr c9;have c9b1 : (t212.toList != ([] : List UInt8)) = true := bne_iff_ne.mpr c9;obtain rfl := Option.some.inj H
         have m8_ := trivial
        rotate_left 2
        rw [if_neg c8] at H;have c8b0 : (t211 == 0) = false := beq_eq_false_iff_ne.mpr c8;have c8b1 : (t211 != 0) = true := bne_iff_ne.mpr c8;obtain rfl := Option.some.inj H
        have m7_ := trivial
       rotate_left 3
       rw [if_neg c7] at H;have c7b0 : (t210 == 0) = false := beq_eq_false_iff_ne.mpr c7;have c7b1 : (t210 != 0) = true := bne_iff_ne.mpr c7;obtain rfl := Option.some.inj H
       have m6_ := trivial
      rotate_left 4
      rw [if_neg c6] at H;have c6b0 : (t209 == 0) = false := beq_eq_false_iff_ne.mpr c6;have c6b1 : (t209 != 0) = true := bne_iff_ne.mpr c6;obtain rfl := Option.some.inj H
      have m5_ := trivial
     rotate_left 5
     rw [if_neg c5] at H;have c5b0 : (t208 == 0) = false := beq_eq_false_iff_ne.mpr c5;have c5b1 : (t208 != 0) = true := bne_iff_ne.mpr c5;obtain rfl := Option.some.inj H
     have m4_ := trivial
    rotate_left 6
    rw [if_neg c4] at H;have c4b0 : (t207 == 1) = false := beq_eq_false_iff_ne.mpr c4;have c4b1 : (t207 != 1) = true := bne_iff_ne.mpr c4;obtain rfl := Option.some.inj H
    have m3_ := trivial
   rotate_left 7
   rw [if_neg c3] at H;have c3b0 : (t206.toList == ([97, 47, 98] : List UInt8)) = false := beq_eq_false_iff_ne.mpr c3;have c3b1 : (t206.toList != ([97, 47, 98] : List UInt8)) = true := bne_iff_ne.mpr c3;obtain rfl := Option.some.inj H
   have m2_ := trivial
  rotate_left 8
  rw [if_neg c2] at H;have c2b0 : (t205 == 3) = false := beq_eq_false_iff_ne.mpr c2;have c2b1 : (t205 != 3) = true := bne_iff_ne.mpr c2;obtain rfl := Option.some.inj H
  have m1_ := trivial
 rotate_left 9
 have H1 : (some false) = some r := by rw [if_neg (show ¬ (some q215).isNone = true by simp)] at H; exact H
 clear H;have H := H1;clear H1
 try simp only [errW_none, errW_some]
 obtain rfl := Option.some.inj H
 all_goals go_enter Tryz.func8, Tryz.ntmps8
 all_goals try
  first | (clear m1_; have m1_ := trivial) | (clear m2_; have m2_ := trivial) | (clear m3_; have m3_ := trivial) | (clear m4_; have m4_ := trivial) | (clear m5_; have m5_ := trivial) | (clear m6_; have m6_ := trivial) | (clear m7_; have m7_ := trivial) | (clear m8_; have m8_ := trivial) | (clear m9_; have m9_ := trivial)
  go_wp2_with (first | ((with_reducible refine gate_callee (f := 10) rfl ?_); refine goesL_ (some 4) rfl rfl Tryz.func10 kr rfl #[.string (⟨#[97, 99, 107, 59, 97, 47, 98, 59, 49]⟩ : ByteArray)] rfl sa ?_; (with_reducible refine (cP.calls k (⟨#[97, 99, 107, 59, 97, 47, 98, 59, 49]⟩ : ByteArray) t205 t206 t207 t208 t209 t210 t211 t212 none _ A1.out ?side1).mono ?_); (case side1 => first | exact hG | exact GL.below hG (be HB.out) | (repeat (first | exact hG | apply GL.drewN | apply GL.drew | apply GL.alloc))); rintro e w34 ⟨rfl, hb⟩; refine ⟨_, rfl, ?_⟩; replace HB := As (XT (be HB.out) hb); (try clear hb); (try clear hb2); (try clear hk); (try clear hi); (try simp only [errW_none, errW_some])) | ((with_reducible refine gate_dst (N := 1) rfl ?_); refine box_event ?hg (N := 1) ?hd (cs := #[.int .i64 0, .string (⟨#[]⟩ : ByteArray), .int .i64 0, .int .i64 0, .int .i64 0, .int .i64 0, .int .i64 0, .string (⟨#[]⟩ : ByteArray)]) (t := 30) ?hr ?_; (case hd => rfl); (case hg => rfl); (case hr => first | (go_simp; done) | (go_simp; rfl)); intro gb214 hg w35 hbox hb; have BK214 := As (hbox); have GW214 := As ((gz hg (be HB.out) : w.heap.size ≤ gb214)); have GE214 := As ((gz hg (be HB.out) : w.heap.size ≤ gb214)); replace HB := As (XT (be HB.out) hb); clear hb hbox hg; obtain ⟨hcz36_0, hcz36_1, hcz36_2, hcz36_3, hcz36_4, hcz36_5, hcz36_6, hcz36_7, hfz36_0, hfz36_1, hfz36_2, hfz36_3, hfz36_4, hfz36_5, hfz36_6, hfz36_7⟩ := cz8 BK214.out))
  go_ret
  exact ⟨by first | rfl | (simp [errW_none, errW_some] <;> rfl) | (simp [*, errW_none, errW_some] <;> rfl), by repeat (first | (with_reducible first | exact HB.out | apply XA | apply XN | apply XD | refine XS ?_ GE214.out) | exact HB.out)⟩
 ·go_wp2_with (first | ((with_reducible refine gate_callee (f := 10) rfl ?_); refine goesL_ (some 4) rfl rfl Tryz.func10 kr rfl #[.string (⟨#[97, 99, 107, 59, 97, 47, 98, 59, 49]⟩ : ByteArray)] rfl sa ?_; (with_reducible refine (cP.calls k (⟨#[97, 99, 107, 59, 97, 47, 98, 59, 49]⟩ : ByteArray) t205 t206 t207 t208 t209 t210 t211 t212 (some q215) _ A1.out ?side1).mono ?_); (case side1 => first | exact hG | exact GL.below hG (be HB.out) | (repeat (first | exact hG | apply GL.drewN | apply GL.drew | apply GL.alloc))); rintro e w37 ⟨rfl, hb⟩; refine ⟨_, rfl, ?_⟩; replace HB := As (XT (be HB.out) hb); (try clear hb); (try clear hb2); (try clear hk); (try clear hi); (try simp only [errW_none, errW_some])) | ((with_reducible refine gate_dst (N := 1) rfl ?_); refine box_event ?hg (N := 1) ?hd (cs := #[.int .i64 0, .string (⟨#[]⟩ : ByteArray), .int .i64 0, .int .i64 0, .int .i64 0, .int .i64 0, .int .i64 0, .string (⟨#[]⟩ : ByteArray)]) (t := 30) ?hr ?_; (case hd => rfl); (case hg => rfl); (case hr => first | (go_simp; done) | (go_simp; rfl)); intro gb214 hg w38 hbox hb; have BK214 := As (hbox); have GW214 := As ((gz hg (be HB.out) : w.heap.size ≤ gb214)); have GE214 := As ((gz hg (be HB.out) : w.heap.size ≤ gb214)); replace HB := As (XT (be HB.out) hb); clear hb hbox hg; obtain ⟨hcz39_0, hcz39_1, hcz39_2, hcz39_3, hcz39_4, hcz39_5, hcz39_6, hcz39_7, hfz39_0, hfz39_1, hfz39_2, hfz39_3, hfz39_4, hfz39_5, hfz39_6, hfz39_7⟩ := cz8 BK214.out))
  go_ret
  exact ⟨by first | rfl | (simp [errW_none, errW_some] <;> rfl) | (simp [*, errW_none, errW_some] <;> rfl), by repeat (first | (with_reducible first | exact HB.out | apply XA | apply XN | apply XD | refine XS ?_ GE214.out) | exact HB.out)⟩

end Go.Proofs.YtdakfmldbddokaaGreatDoor.P
-- SHRUNK
-- PACKED
-- PACKED2
