-- written by myprint.py (this claim's own program, after the kit's print)
import Derived.Test.YtdakfmldbddokaaGreatDoorCmEq5
import Derived.Test.YtdakfmldbddokaaGreatDoorPx0
import Derived.Test.YtdakfmldbddokaaGreatDoorPx6
import Derived.Test.YtdakfmldbddokaaGreatDoorPx7
import Derived.Test.YtdakfmldbddokaaGreatDoorNumP
import Derived.Test.YtdakfmldbddokaaGreatDoorVaMay
import Derived.Test.YtdakfmldbddokaaGreatDoorVaShelf
namespace Go.Proofs.YtdakfmldbddokaaGreatDoor.P
open Go.RowKit Go.Proofs.YtdakfmldbddokaaGreatDoorW.PrintWords Go.Proofs.YtdakfmldbddokaaGreatDoorW.PrintLast Go.Proofs.YtdakfmldbddokaaGreatDoorW.PrintMore
attribute [local go_sem] max2_int min2_int max_two min_two max_three min_three max_four min_four   -- for this text's walks alone
set_option linter.unusedVariables false
set_option linter.unusedSimpArgs false
attribute [local go_sem] arr5_eq

/-! ### belvederelaw20_CommandRests: function 5 -/
def belvederelaw20_CommandRests.l0 : Nat → ByteArray → Int → Option Int → Int → Int → ByteArray → Int → Int → Int → Int → Int → ByteArray → Option (Bool)
  | 0, _, _, _, _, _, _, _, _, _, _, _, _ => none
  | k + 1, x0, x5, x7, x8, x227000, x227001, x227002, x227003, x227004, x227005, x227006, x227007 => if x8 < (x0.size : Int) then (if 0 ≤ x8 then (if (bt x0 x8) = 10 then ((belvederelaw20_num.f x7).bind fun t229 => (if t229 = 3 then (if x227000 = 0 then (if x227001.toList = ([] : List UInt8) then (if x227002 = 0 then (if x227003 = 0 then (if x227004 = 0 then (if x227005 = 0 then (if x227006 = 0 then (if x227007.toList = ([] : List UInt8) then ((belvederelaw20_sure.f k).bind fun t230 => (some t230)) else (none)) else (none)) else (none)) else (none)) else (none)) else (none)) else (none)) else (none)) else (none))) else (belvederelaw20_CommandRests.l0 k x0 x5 x7 (wrap64 (x8 + 1)) x227000 x227001 x227002 x227003 x227004 x227005 x227006 x227007)) else (none)) else (if x7.isNone = true then (if x227000 = 8 then (if x227001.toList = ([97] : List UInt8) then (if x227002 = x5 then (if x227003 = 0 then (if x227004 = 0 then (if x227005 = 0 then (if x227006 = 0 then (if x227007.toList = x0.toList then ((belvederelaw20_sure.f k).bind fun t228 => (some t228)) else (none)) else (none)) else (none)) else (none)) else (none)) else (none)) else (none)) else (none)) else (none))
def belvederelaw20_CommandRests.f (k : Nat) (a0 : ByteArray) (a1 : Int) : Option (Bool) := if (a0.size : Int) > 1000 then ((belvederelaw20_sure.f k).bind fun t216 => (some t216)) else (if 0 ≤ (wrap64 (Int.tmod (IntKind.u64.wrap (a1)) 4)) then (if (wrap64 (Int.tmod (IntKind.u64.wrap (a1)) 4)) ≤ (wrap64 ((wrap64 (Int.tmod (IntKind.u64.wrap (a1)) 4)) + 1)) then (if (wrap64 ((wrap64 (Int.tmod (IntKind.u64.wrap (a1)) 4)) + 1)) ≤ 4 then (if 9 + ((⟨#[48, 49, 50, 51]⟩ : ByteArray).extract ((wrap64 (Int.tmod (IntKind.u64.wrap (a1)) 4)) : Int).toNat ((wrap64 ((wrap64 (Int.tmod (IntKind.u64.wrap (a1)) 4)) + 1)) : Int).toNat).size ≤ 9223372036854775807 then (if ((⟨#[114, 101, 115, 117, 108, 116, 59, 97, 59]⟩ : ByteArray) ++ ((⟨#[48, 49, 50, 51]⟩ : ByteArray).extract ((wrap64 (Int.tmod (IntKind.u64.wrap (a1)) 4)) : Int).toNat ((wrap64 ((wrap64 (Int.tmod (IntKind.u64.wrap (a1)) 4)) + 1)) : Int).toNat)).size + 1 ≤ 9223372036854775807 then (if (((⟨#[114, 101, 115, 117, 108, 116, 59, 97, 59]⟩ : ByteArray) ++ ((⟨#[48, 49, 50, 51]⟩ : ByteArray).extract ((wrap64 (Int.tmod (IntKind.u64.wrap (a1)) 4)) : Int).toNat ((wrap64 ((wrap64 (Int.tmod (IntKind.u64.wrap (a1)) 4)) + 1)) : Int).toNat)) ++ (⟨#[59]⟩ : ByteArray)).size + a0.size ≤ 9223372036854775807 then ((command_Parse.f k ((((⟨#[114, 101, 115, 117, 108, 116, 59, 97, 59]⟩ : ByteArray) ++ ((⟨#[48, 49, 50, 51]⟩ : ByteArray).extract ((wrap64 (Int.tmod (IntKind.u64.wrap (a1)) 4)) : Int).toNat ((wrap64 ((wrap64 (Int.tmod (IntKind.u64.wrap (a1)) 4)) + 1)) : Int).toNat)) ++ (⟨#[59]⟩ : ByteArray)) ++ a0)).bind fun bt217 => (belvederelaw20_CommandRests.l0 k a0 (wrap64 (Int.tmod (IntKind.u64.wrap (a1)) 4)) bt217.2.2.2.2.2.2.2.2 0 bt217.1 bt217.2.1 bt217.2.2.1 bt217.2.2.2.1 bt217.2.2.2.2.1 bt217.2.2.2.2.2.1 bt217.2.2.2.2.2.2.1 bt217.2.2.2.2.2.2.2.1)) else (none)) else (none)) else (none)) else (none)) else (none)) else (none))
theorem belvederelaw20_CommandRests.mono_l : ∀ k, (∀ y0 y1 y2 y3 y4 y5 y6 y7 y8 y9 y10 y11, LeO (belvederelaw20_CommandRests.l0 k y0 y1 y2 y3 y4 y5 y6 y7 y8 y9 y10 y11) (belvederelaw20_CommandRests.l0 (k + 1) y0 y1 y2 y3 y4 y5 y6 y7 y8 y9 y10 y11))
  | 0 => fun _ _ _ _ _ _ _ _ _ _ _ _ r h => by simp [belvederelaw20_CommandRests.l0] at h
  | k + 1 => by
    have ih0 := belvederelaw20_CommandRests.mono_l k
    · intro y0 y1 y2 y3 y4 y5 y6 y7 y8 y9 y10 y11
      unfold belvederelaw20_CommandRests.l0
      repeat' first
      | (with_reducible exact ih0 _ _ _ _ _ _ _ _ _ _ _ _)
      | (with_reducible exact belvederelaw20_sure.mono _)
      | (with_reducible exact command_Parse.mono _ _)
      | (with_reducible exact LeO.refl _)
      | (with_reducible exact LeO.none _)
      | (with_reducible refine LeO.ite ?_ ?_)
      | (with_reducible refine LeO.bind ?_ (fun _ => ?_))
      | exact ih0 _ _ _ _ _ _ _ _ _ _ _ _
      | exact belvederelaw20_sure.mono _
      | exact command_Parse.mono _ _
      | exact LeO.none _
      | refine LeO.ite ?_ ?_
      | refine LeO.bind ?_ (fun _ => ?_)
theorem belvederelaw20_CommandRests.mono : ∀ a0 a1 k, LeO (belvederelaw20_CommandRests.f k a0 a1) (belvederelaw20_CommandRests.f (k + 1) a0 a1) := by
  intro a0 a1 k
  have ih0 := belvederelaw20_CommandRests.mono_l k
  unfold belvederelaw20_CommandRests.f
  repeat' first
      | (with_reducible exact ih0 _ _ _ _ _ _ _ _ _ _ _ _)
      | (with_reducible exact belvederelaw20_sure.mono _)
      | (with_reducible exact command_Parse.mono _ _)
      | (with_reducible exact LeO.refl _)
      | (with_reducible exact LeO.none _)
      | (with_reducible refine LeO.ite ?_ ?_)
      | (with_reducible refine LeO.bind ?_ (fun _ => ?_))
      | exact ih0 _ _ _ _ _ _ _ _ _ _ _ _
      | exact belvederelaw20_sure.mono _
      | exact command_Parse.mono _ _
      | exact LeO.none _
      | refine LeO.ite ?_ ?_
      | refine LeO.bind ?_ (fun _ => ?_)
set_option maxHeartbeats 8000000 in
set_option maxRecDepth 100000 in
theorem belvederelaw20_CommandRests.calls (k : Nat) (a0 : ByteArray) (a1 : Int) (r : Bool) (w : World) (h : belvederelaw20_CommandRests.f k a0 a1 = some r) (hG : GL w) :
    Calls Tryz.prog 5 #[.string a0, .int .i64 a1] w fun e w' => e = .returned (.bool r) ∧ Below w.heap.size w w' := by
  have hu30 := Tryz.underlying30
  have hu22 := Tryz.underlying22
  have hu27 := Tryz.underlying27
  have hu45 := Tryz.underlying45
  have HB := Aside0.mk (Below.refl w.heap.size w)
  have H : (if (a0.size : Int) > 1000 then ((belvederelaw20_sure.f k).bind fun t216 => (some t216)) else (if 0 ≤ (wrap64 (Int.tmod (IntKind.u64.wrap (a1)) 4)) then (if (wrap64 (Int.tmod (IntKind.u64.wrap (a1)) 4)) ≤ (wrap64 ((wrap64 (Int.tmod (IntKind.u64.wrap (a1)) 4)) + 1)) then (if (wrap64 ((wrap64 (Int.tmod (IntKind.u64.wrap (a1)) 4)) + 1)) ≤ 4 then (if 9 + ((⟨#[48, 49, 50, 51]⟩ : ByteArray).extract ((wrap64 (Int.tmod (IntKind.u64.wrap (a1)) 4)) : Int).toNat ((wrap64 ((wrap64 (Int.tmod (IntKind.u64.wrap (a1)) 4)) + 1)) : Int).toNat).size ≤ 9223372036854775807 then (if ((⟨#[114, 101, 115, 117, 108, 116, 59, 97, 59]⟩ : ByteArray) ++ ((⟨#[48, 49, 50, 51]⟩ : ByteArray).extract ((wrap64 (Int.tmod (IntKind.u64.wrap (a1)) 4)) : Int).toNat ((wrap64 ((wrap64 (Int.tmod (IntKind.u64.wrap (a1)) 4)) + 1)) : Int).toNat)).size + 1 ≤ 9223372036854775807 then (if (((⟨#[114, 101, 115, 117, 108, 116, 59, 97, 59]⟩ : ByteArray) ++ ((⟨#[48, 49, 50, 51]⟩ : ByteArray).extract ((wrap64 (Int.tmod (IntKind.u64.wrap (a1)) 4)) : Int).toNat ((wrap64 ((wrap64 (Int.tmod (IntKind.u64.wrap (a1)) 4)) + 1)) : Int).toNat)) ++ (⟨#[59]⟩ : ByteArray)).size + a0.size ≤ 9223372036854775807 then ((command_Parse.f k ((((⟨#[114, 101, 115, 117, 108, 116, 59, 97, 59]⟩ : ByteArray) ++ ((⟨#[48, 49, 50, 51]⟩ : ByteArray).extract ((wrap64 (Int.tmod (IntKind.u64.wrap (a1)) 4)) : Int).toNat ((wrap64 ((wrap64 (Int.tmod (IntKind.u64.wrap (a1)) 4)) + 1)) : Int).toNat)) ++ (⟨#[59]⟩ : ByteArray)) ++ a0)).bind fun bt217 => (belvederelaw20_CommandRests.l0 k a0 (wrap64 (Int.tmod (IntKind.u64.wrap (a1)) 4)) bt217.2.2.2.2.2.2.2.2 0 bt217.1 bt217.2.1 bt217.2.2.1 bt217.2.2.2.1 bt217.2.2.2.2.1 bt217.2.2.2.2.2.1 bt217.2.2.2.2.2.2.1 bt217.2.2.2.2.2.2.2.1)) else (none)) else (none)) else (none)) else (none)) else (none)) else (none))) = some r := h
  clear h
  by_cases c3 : (a0.size : Int) > 1000
  · rw [if_pos c3] at H
    have c3b0 : decide (1000 < (a0.size : Int)) = true := decide_eq_true c3
    have c3b1 : decide (1000 < a0.size) = true := decide_eq_true (by omega)
    clear c3
    replace H := Option.bind_eq_some_iff.mp H
    obtain ⟨t216, A40, H⟩ := H
    replace H : (some t216) = some r := H
    have A4 := Aside0.mk A40
    clear A40
    obtain rfl := Option.some.inj H
    go_enter Tryz.func5, Tryz.ntmps5
    go_wp2_with (first | ((with_reducible refine gate_callee (f := 8) rfl ?_); refine goesL_ (some 12) rfl rfl Tryz.func8 (by kernel_rfl) rfl #[] rfl (by (try simp only [List.map_toArray, List.map_cons, List.map_nil]); first | done | rfl | (simp only [List.length_drop, List.length_take]; rfl)) ?_; (with_reducible refine (belvederelaw20_sure.calls k  t216 _ A4.out ?side1).mono ?_); (case side1 => first | exact hG | exact GL.below hG (by repeat (first | (with_reducible first | exact HB.out | apply below_alloc | apply pw_below_drewN | apply below_drew1) | exact HB.out)) | (repeat (first | exact hG | apply GL.drewN | apply GL.drew | apply GL.alloc))); rintro e w5 ⟨rfl, hb⟩; refine ⟨_, rfl, ?_⟩; have n0_ := Aside0.mk (below_step (by repeat (first | (with_reducible first | exact HB.out | apply below_alloc | apply pw_below_drewN | apply below_drew1) | exact HB.out)) hb); clear HB; have HB := n0_; clear n0_; (try clear hb); (try clear hb2); (try clear hk); (try clear hi)))
    go_ret
    exact ⟨by first | rfl | (simp [errW_none, errW_some] <;> rfl) | (simp [*, errW_none, errW_some] <;> rfl), by repeat (first | (with_reducible first | exact HB.out | apply below_alloc | apply pw_below_drewN | apply below_drew1) | exact HB.out)⟩
  · rw [if_neg c3] at H
    have c3b0 : decide (1000 < (a0.size : Int)) = false := decide_eq_false c3
    have c3b1 : decide (1000 < a0.size) = false := decide_eq_false (by omega)
    clear c3
    obtain ⟨ji6, hji6⟩ : ∃ j_ : Int, (wrap64 (Int.tmod (IntKind.u64.wrap (a1)) 4)) = j_ := ⟨_, rfl⟩
    replace H : (if 0 ≤ (ji6) then (if (ji6) ≤ (wrap64 ((ji6) + 1)) then (if (wrap64 ((ji6) + 1)) ≤ 4 then (if 9 + ((⟨#[48, 49, 50, 51]⟩ : ByteArray).extract ((ji6) : Int).toNat ((wrap64 ((ji6) + 1)) : Int).toNat).size ≤ 9223372036854775807 then (if ((⟨#[114, 101, 115, 117, 108, 116, 59, 97, 59]⟩ : ByteArray) ++ ((⟨#[48, 49, 50, 51]⟩ : ByteArray).extract ((ji6) : Int).toNat ((wrap64 ((ji6) + 1)) : Int).toNat)).size + 1 ≤ 9223372036854775807 then (if (((⟨#[114, 101, 115, 117, 108, 116, 59, 97, 59]⟩ : ByteArray) ++ ((⟨#[48, 49, 50, 51]⟩ : ByteArray).extract ((ji6) : Int).toNat ((wrap64 ((ji6) + 1)) : Int).toNat)) ++ (⟨#[59]⟩ : ByteArray)).size + a0.size ≤ 9223372036854775807 then ((command_Parse.f k ((((⟨#[114, 101, 115, 117, 108, 116, 59, 97, 59]⟩ : ByteArray) ++ ((⟨#[48, 49, 50, 51]⟩ : ByteArray).extract ((ji6) : Int).toNat ((wrap64 ((ji6) + 1)) : Int).toNat)) ++ (⟨#[59]⟩ : ByteArray)) ++ a0)).bind fun bt217 => (belvederelaw20_CommandRests.l0 k a0 ji6 bt217.2.2.2.2.2.2.2.2 0 bt217.1 bt217.2.1 bt217.2.2.1 bt217.2.2.2.1 bt217.2.2.2.2.1 bt217.2.2.2.2.2.1 bt217.2.2.2.2.2.2.1 bt217.2.2.2.2.2.2.2.1)) else (none)) else (none)) else (none)) else (none)) else (none)) else (none)) = some r := by first | (rw [hji6] at H; exact H) | (simp only [hji6] at H ⊢; exact H)
    have hji6w : (IntKind.i64.wrap (Int.tmod (IntKind.u64.wrap (a1)) 4)) = ji6 := (i64_w _).trans hji6
    by_cases c7 : 0 ≤ (ji6)
    · rw [if_pos c7] at H
      have c7b0 := eq_true c7
      have c7b1 : decide (0 ≤ (ji6)) = true := decide_eq_true c7
      clear c7
      by_cases c8 : (ji6) ≤ (wrap64 ((ji6) + 1))
      · rw [if_pos c8] at H
        have c8b0 := eq_true c8
        have c8b1 : decide ((ji6) ≤ (wrap64 ((ji6) + 1))) = true := decide_eq_true c8
        by_cases c9 : (wrap64 ((ji6) + 1)) ≤ 4
        · rw [if_pos c9] at H
          have c9b0 := eq_true c9
          have c9b1 : decide ((wrap64 ((ji6) + 1)) ≤ 4) = true := decide_eq_true c9
          by_cases c10 : 9 + ((⟨#[48, 49, 50, 51]⟩ : ByteArray).extract ((ji6) : Int).toNat ((wrap64 ((ji6) + 1)) : Int).toNat).size ≤ 9223372036854775807
          · rw [if_pos c10] at H
            have c10b0 := eq_true c10
            have c10b1 : decide (9 + ((⟨#[48, 49, 50, 51]⟩ : ByteArray).extract ((ji6) : Int).toNat ((wrap64 ((ji6) + 1)) : Int).toNat).size ≤ 9223372036854775807) = true := decide_eq_true c10
            try have c10b2 : (9223372036854775807 < 9 + ((⟨#[48, 49, 50, 51]⟩ : ByteArray).extract ((ji6) : Int).toNat ((wrap64 ((ji6) + 1)) : Int).toNat).size) = False := eq_false (Nat.not_lt.2 c10)
            by_cases c11 : ((⟨#[114, 101, 115, 117, 108, 116, 59, 97, 59]⟩ : ByteArray) ++ ((⟨#[48, 49, 50, 51]⟩ : ByteArray).extract ((ji6) : Int).toNat ((wrap64 ((ji6) + 1)) : Int).toNat)).size + 1 ≤ 9223372036854775807
            · rw [if_pos c11] at H
              have c11b0 := eq_true c11
              have c11b1 : decide (((⟨#[114, 101, 115, 117, 108, 116, 59, 97, 59]⟩ : ByteArray) ++ ((⟨#[48, 49, 50, 51]⟩ : ByteArray).extract ((ji6) : Int).toNat ((wrap64 ((ji6) + 1)) : Int).toNat)).size + 1 ≤ 9223372036854775807) = true := decide_eq_true c11
              try have c11b2 : (9223372036854775807 < ((⟨#[114, 101, 115, 117, 108, 116, 59, 97, 59]⟩ : ByteArray) ++ ((⟨#[48, 49, 50, 51]⟩ : ByteArray).extract ((ji6) : Int).toNat ((wrap64 ((ji6) + 1)) : Int).toNat)).size + 1) = False := eq_false (Nat.not_lt.2 c11)
              by_cases c12 : (((⟨#[114, 101, 115, 117, 108, 116, 59, 97, 59]⟩ : ByteArray) ++ ((⟨#[48, 49, 50, 51]⟩ : ByteArray).extract ((ji6) : Int).toNat ((wrap64 ((ji6) + 1)) : Int).toNat)) ++ (⟨#[59]⟩ : ByteArray)).size + a0.size ≤ 9223372036854775807
              · rw [if_pos c12] at H
                have c12b0 := eq_true c12
                have c12b1 : decide ((((⟨#[114, 101, 115, 117, 108, 116, 59, 97, 59]⟩ : ByteArray) ++ ((⟨#[48, 49, 50, 51]⟩ : ByteArray).extract ((ji6) : Int).toNat ((wrap64 ((ji6) + 1)) : Int).toNat)) ++ (⟨#[59]⟩ : ByteArray)).size + a0.size ≤ 9223372036854775807) = true := decide_eq_true c12
                try have c12b2 : (9223372036854775807 < (((⟨#[114, 101, 115, 117, 108, 116, 59, 97, 59]⟩ : ByteArray) ++ ((⟨#[48, 49, 50, 51]⟩ : ByteArray).extract ((ji6) : Int).toNat ((wrap64 ((ji6) + 1)) : Int).toNat)) ++ (⟨#[59]⟩ : ByteArray)).size + a0.size) = False := eq_false (Nat.not_lt.2 c12)
                replace H := Option.bind_eq_some_iff.mp H
                obtain ⟨⟨t217, t218, t219, t220, t221, t222, t223, t224, t225⟩, A130, H⟩ := H
                replace H : (belvederelaw20_CommandRests.l0 k a0 ji6 t225 0 t217 t218 t219 t220 t221 t222 t223 t224) = some r := H
                have A13 := Aside0.mk A130
                clear A130
                have H' := Aside0.mk H
                clear H
                go_enter Tryz.func5, Tryz.ntmps5
                go_wp2_with (first | ((with_reducible refine gate_callee (f := 10) rfl ?_); refine goesL_ (some 26) rfl rfl Tryz.func10 (by kernel_rfl) rfl #[.string ((((⟨#[114, 101, 115, 117, 108, 116, 59, 97, 59]⟩ : ByteArray) ++ ((⟨#[48, 49, 50, 51]⟩ : ByteArray).extract ((ji6) : Int).toNat ((wrap64 ((ji6) + 1)) : Int).toNat)) ++ (⟨#[59]⟩ : ByteArray)) ++ a0)] rfl (by (try simp only [List.map_toArray, List.map_cons, List.map_nil]); first | done | (simp only [hji6]; rfl) | rfl | (simp only [List.length_drop, List.length_take]; rfl)) ?_; (with_reducible refine (command_Parse.calls k ((((⟨#[114, 101, 115, 117, 108, 116, 59, 97, 59]⟩ : ByteArray) ++ ((⟨#[48, 49, 50, 51]⟩ : ByteArray).extract ((ji6) : Int).toNat ((wrap64 ((ji6) + 1)) : Int).toNat)) ++ (⟨#[59]⟩ : ByteArray)) ++ a0) t217 t218 t219 t220 t221 t222 t223 t224 t225 _ A13.out ?side1).mono ?_); (case side1 => first | exact hG | exact GL.below hG (by repeat (first | (with_reducible first | exact HB.out | apply below_alloc | apply pw_below_drewN | apply below_drew1) | exact HB.out)) | (repeat (first | exact hG | apply GL.drewN | apply GL.drew | apply GL.alloc))); rintro e w14 ⟨rfl, hb⟩; refine ⟨_, rfl, ?_⟩; have n0_ := Aside0.mk (below_step (by repeat (first | (with_reducible first | exact HB.out | apply below_alloc | apply pw_below_drewN | apply below_drew1) | exact HB.out)) hb); clear HB; have HB := n0_; clear n0_; (try clear hb); (try clear hb2); (try clear hk); (try clear hi); (try simp only [errW_none, errW_some])) | ((with_reducible refine gate_dst (N := 6) rfl ?_); refine box_event ?hg (N := 6) ?hd (cs := #[.int .i64 0, .string (⟨#[]⟩ : ByteArray), .int .i64 0, .int .i64 0, .int .i64 0, .int .i64 0, .int .i64 0, .string (⟨#[]⟩ : ByteArray)]) (t := 30) ?hr ?_; (case hd => rfl); (case hg => rfl); (case hr => first | (go_simp; done) | (go_simp; rfl)); intro gb226 hg w15 hbox hb; have n0_ := Aside0.mk (below_step (by repeat (first | (with_reducible first | exact HB.out | apply below_alloc | apply pw_below_drewN | apply below_drew1) | exact HB.out)) hb); have n1_ := Aside0.mk (hbox); have n2_ := Aside0.mk ((by rw [hg]; exact (below_size (by repeat (first | (with_reducible first | exact HB.out | apply below_alloc | apply pw_below_drewN | apply below_drew1) | exact HB.out))) : w.heap.size ≤ gb226)); have n3_ := Aside0.mk ((by rw [hg]; exact (below_size (by repeat (first | (with_reducible first | exact HB.out | apply below_alloc | apply pw_below_drewN | apply below_drew1) | exact HB.out))) : w.heap.size ≤ gb226)); clear HB; have HB := n0_; have BK226 := n1_; have GW226 := n2_; have GE226 := n3_; clear n0_ n1_ n2_ n3_; clear hb hbox hg; have hcz16_0 : w15.cell? ⟨gb226, 0, none⟩ = some (.int .i64 0) := (blk_cell BK226.out 0).trans rfl; have hcz16_1 : w15.cell? ⟨gb226, 1, none⟩ = some (.string (⟨#[]⟩ : ByteArray)) := (blk_cell BK226.out 1).trans rfl; have hcz16_2 : w15.cell? ⟨gb226, 2, none⟩ = some (.int .i64 0) := (blk_cell BK226.out 2).trans rfl; have hcz16_3 : w15.cell? ⟨gb226, 3, none⟩ = some (.int .i64 0) := (blk_cell BK226.out 3).trans rfl; have hcz16_4 : w15.cell? ⟨gb226, 4, none⟩ = some (.int .i64 0) := (blk_cell BK226.out 4).trans rfl; have hcz16_5 : w15.cell? ⟨gb226, 5, none⟩ = some (.int .i64 0) := (blk_cell BK226.out 5).trans rfl; have hcz16_6 : w15.cell? ⟨gb226, 6, none⟩ = some (.int .i64 0) := (blk_cell BK226.out 6).trans rfl; have hcz16_7 : w15.cell? ⟨gb226, 7, none⟩ = some (.string (⟨#[]⟩ : ByteArray)) := (blk_cell BK226.out 7).trans rfl; have hfz16_0 := blk_frozen BK226.out 0; have hfz16_1 := blk_frozen BK226.out 1; have hfz16_2 := blk_frozen BK226.out 2; have hfz16_3 := blk_frozen BK226.out 3; have hfz16_4 := blk_frozen BK226.out 4; have hfz16_5 := blk_frozen BK226.out 5; have hfz16_6 := blk_frozen BK226.out 6; have hfz16_7 := blk_frozen BK226.out 7))
                go_loopg [8] k (fun kq v8 w' => ∃ (x8_1 : Int), v8 = .int .i64 x8_1 ∧ Aside0 (belvederelaw20_CommandRests.l0 kq a0 ji6 t225 x8_1 t217 t218 t219 t220 t221 t222 t223 t224 = some r) ∧ Aside0 (kq ≤ k) ∧ Aside0 (w'.heap[gb226]? = some (.cells #[.int .i64 t217, .string t218, .int .i64 t219, .int .i64 t220, .int .i64 t221, .int .i64 t222, .int .i64 t223, .string t224] 30 (0, 0))) ∧ Aside0 (Below w.heap.size w w'))
                case atStart => exact ⟨(0), (by first | rfl | (simp; done) | (simp [*]; done) | (simp; unfold wrap64; omega)), H', ⟨Nat.le_refl _⟩, ⟨by (with_reducible repeat (first | refine blk_drewN ?_ _ | refine blk_drew ?_ | refine blk_alloc ?_ _)); refine blk_put (cs := #[.int .i64 t217, .string t218, .int .i64 t219, .int .i64 t220, .int .i64 t221, .int .i64 t222, .int .i64 t223, .string (⟨#[]⟩ : ByteArray)]) ?_ 7 _ rfl; (with_reducible repeat (first | refine blk_drewN ?_ _ | refine blk_drew ?_ | refine blk_alloc ?_ _)); refine blk_put (cs := #[.int .i64 t217, .string t218, .int .i64 t219, .int .i64 t220, .int .i64 t221, .int .i64 t222, .int .i64 0, .string (⟨#[]⟩ : ByteArray)]) ?_ 6 _ rfl; (with_reducible repeat (first | refine blk_drewN ?_ _ | refine blk_drew ?_ | refine blk_alloc ?_ _)); refine blk_put (cs := #[.int .i64 t217, .string t218, .int .i64 t219, .int .i64 t220, .int .i64 t221, .int .i64 0, .int .i64 0, .string (⟨#[]⟩ : ByteArray)]) ?_ 5 _ rfl; (with_reducible repeat (first | refine blk_drewN ?_ _ | refine blk_drew ?_ | refine blk_alloc ?_ _)); refine blk_put (cs := #[.int .i64 t217, .string t218, .int .i64 t219, .int .i64 t220, .int .i64 0, .int .i64 0, .int .i64 0, .string (⟨#[]⟩ : ByteArray)]) ?_ 4 _ rfl; (with_reducible repeat (first | refine blk_drewN ?_ _ | refine blk_drew ?_ | refine blk_alloc ?_ _)); refine blk_put (cs := #[.int .i64 t217, .string t218, .int .i64 t219, .int .i64 0, .int .i64 0, .int .i64 0, .int .i64 0, .string (⟨#[]⟩ : ByteArray)]) ?_ 3 _ rfl; (with_reducible repeat (first | refine blk_drewN ?_ _ | refine blk_drew ?_ | refine blk_alloc ?_ _)); refine blk_put (cs := #[.int .i64 t217, .string t218, .int .i64 0, .int .i64 0, .int .i64 0, .int .i64 0, .int .i64 0, .string (⟨#[]⟩ : ByteArray)]) ?_ 2 _ rfl; (with_reducible repeat (first | refine blk_drewN ?_ _ | refine blk_drew ?_ | refine blk_alloc ?_ _)); refine blk_put (cs := #[.int .i64 t217, .string (⟨#[]⟩ : ByteArray), .int .i64 0, .int .i64 0, .int .i64 0, .int .i64 0, .int .i64 0, .string (⟨#[]⟩ : ByteArray)]) ?_ 1 _ rfl; (with_reducible repeat (first | refine blk_drewN ?_ _ | refine blk_drew ?_ | refine blk_alloc ?_ _)); refine blk_put (cs := #[.int .i64 0, .string (⟨#[]⟩ : ByteArray), .int .i64 0, .int .i64 0, .int .i64 0, .int .i64 0, .int .i64 0, .string (⟨#[]⟩ : ByteArray)]) ?_ 0 _ rfl; (with_reducible repeat (first | refine blk_drewN ?_ _ | refine blk_drew ?_ | refine blk_alloc ?_ _)); exact BK226.out⟩, ⟨by repeat (first | (with_reducible first | exact HB.out | apply below_alloc | apply pw_below_drewN | apply below_drew1 | refine below_set ?_ GE226.out) | exact HB.out)⟩⟩
                case round =>
                  clear H'
                  try clear c1
                  try clear p2
                  try clear c3
                  try clear c3b0
                  try clear c3b1
                  try clear c5
                  try clear p6
                  try clear c7
                  try clear c7b0
                  try clear c7b1
                  try clear c8
                  try clear c8b0
                  try clear c8b1
                  try clear c9
                  try clear c9b0
                  try clear c9b1
                  try clear c10
                  try clear c10b0
                  try clear c10b1
                  try clear c10b2
                  try clear c11
                  try clear c11b0
                  try clear c11b1
                  try clear c11b2
                  try clear c12
                  try clear c12b0
                  try clear c12b1
                  try clear c12b2
                  try clear hcz16_0
                  try clear hcz16_1
                  try clear hcz16_2
                  try clear hcz16_3
                  try clear hcz16_4
                  try clear hcz16_5
                  try clear hcz16_6
                  try clear hcz16_7
                  try clear hfz16_0
                  try clear hfz16_1
                  try clear hfz16_2
                  try clear hfz16_3
                  try clear hfz16_4
                  try clear hfz16_5
                  try clear hfz16_6
                  try clear hfz16_7
                  obtain ⟨x8_1, rfl, HA, HK1, BK226, HB⟩ := hrel
                  cases gk with
                  | zero => exact absurd HA.out (by simp [belvederelaw20_CommandRests.l0])
                  | succ k1 =>
                    have H := HA.out
                    clear HA
                    simp only [belvederelaw20_CommandRests.l0] at H
                    by_cases c17 : x8_1 < (a0.size : Int)
                    · rw [if_pos c17] at H
                      have c17b0 : decide (x8_1 < (a0.size : Int)) = true := decide_eq_true c17
                      clear c17
                      by_cases c18 : 0 ≤ x8_1
                      · rw [if_pos c18] at H
                        have c18b0 : decide (0 ≤ x8_1) = true := decide_eq_true c18
                        clear c18
                        by_cases c20 : (bt a0 x8_1) = 10
                        · rw [if_pos c20] at H
                          have c20b0 : ((bt a0 x8_1) == 10) = true := beq_iff_eq.mpr c20
                          have c20b1 : ((bt a0 x8_1) != 10) = false := bne_eq_false_iff_eq.mpr c20
                          clear c20
                          replace H := Option.bind_eq_some_iff.mp H
                          obtain ⟨t229, A210, H⟩ := H
                          replace H : (if t229 = 3 then (if t217 = 0 then (if t218.toList = ([] : List UInt8) then (if t219 = 0 then (if t220 = 0 then (if t221 = 0 then (if t222 = 0 then (if t223 = 0 then (if t224.toList = ([] : List UInt8) then ((belvederelaw20_sure.f k1).bind fun t230 => (some t230)) else (none)) else (none)) else (none)) else (none)) else (none)) else (none)) else (none)) else (none)) else (none)) = some r := H
                          have A21 := Aside0.mk A210
                          clear A210
                          by_cases c22 : t229 = 3
                          · rw [if_pos c22] at H
                            have c22b0 : (t229 == 3) = true := beq_iff_eq.mpr c22
                            have c22b1 : (t229 != 3) = false := bne_eq_false_iff_eq.mpr c22
                            clear c22
                            by_cases c23 : t217 = 0
                            · rw [if_pos c23] at H
                              have c23b0 : (t217 == 0) = true := beq_iff_eq.mpr c23
                              have c23b1 : (t217 != 0) = false := bne_eq_false_iff_eq.mpr c23
                              clear c23
                              by_cases c24 : t218.toList = ([] : List UInt8)
                              · rw [if_pos c24] at H
                                have c24b0 : (t218.toList == ([] : List UInt8)) = true := beq_iff_eq.mpr c24
                                have c24b1 : (t218.toList != ([] : List UInt8)) = false := bne_eq_false_iff_eq.mpr c24
                                clear c24
                                by_cases c25 : t219 = 0
                                · rw [if_pos c25] at H
                                  have c25b0 : (t219 == 0) = true := beq_iff_eq.mpr c25
                                  have c25b1 : (t219 != 0) = false := bne_eq_false_iff_eq.mpr c25
                                  clear c25
                                  by_cases c26 : t220 = 0
                                  · rw [if_pos c26] at H
                                    have c26b0 : (t220 == 0) = true := beq_iff_eq.mpr c26
                                    have c26b1 : (t220 != 0) = false := bne_eq_false_iff_eq.mpr c26
                                    clear c26
                                    by_cases c27 : t221 = 0
                                    · rw [if_pos c27] at H
                                      have c27b0 : (t221 == 0) = true := beq_iff_eq.mpr c27
                                      have c27b1 : (t221 != 0) = false := bne_eq_false_iff_eq.mpr c27
                                      clear c27
                                      by_cases c28 : t222 = 0
                                      · rw [if_pos c28] at H
                                        have c28b0 : (t222 == 0) = true := beq_iff_eq.mpr c28
                                        have c28b1 : (t222 != 0) = false := bne_eq_false_iff_eq.mpr c28
                                        clear c28
                                        by_cases c29 : t223 = 0
                                        · rw [if_pos c29] at H
                                          have c29b0 : (t223 == 0) = true := beq_iff_eq.mpr c29
                                          have c29b1 : (t223 != 0) = false := bne_eq_false_iff_eq.mpr c29
                                          clear c29
                                          by_cases c30 : t224.toList = ([] : List UInt8)
                                          · rw [if_pos c30] at H
                                            have c30b0 : (t224.toList == ([] : List UInt8)) = true := beq_iff_eq.mpr c30
                                            have c30b1 : (t224.toList != ([] : List UInt8)) = false := bne_eq_false_iff_eq.mpr c30
                                            clear c30
                                            replace H := Option.bind_eq_some_iff.mp H
                                            obtain ⟨t230, A310, H⟩ := H
                                            replace H : (some t230) = some r := H
                                            have A31 := Aside0.mk A310
                                            clear A310
                                            obtain rfl := Option.some.inj H
                                            have p19 : 0 ≤ (x8_1 : Int) := of_decide_eq_true (by first | (with_reducible assumption) | assumption)
                                            have q19 : x8_1 < (a0.size : Int) := of_decide_eq_true (by first | (with_reducible assumption) | assumption)
                                            have hx19 := bt_at a0 x8_1
                                            replace p19 := eq_true p19
                                            replace q19 := eq_true q19
                                            have CA21 := fun W (hW_ : GL W) => belvederelaw20_num.calls t225 t229 W A21.out hW_
                                            try simp only [errW_none, errW_some] at CA21
                                            go_wp2_with (first | (go_at_call 12; (with_reducible refine (CA21 _ ?side1).mono ?_); (case side1 => first | exact hG | exact GL.below hG (by repeat (first | (with_reducible first | exact HB.out | apply below_alloc | apply pw_below_drewN | apply below_drew1 | refine below_set ?_ GE226.out) | exact HB.out)) | (repeat (first | exact hG | apply GL.drewN | apply GL.drew | apply GL.alloc))); rintro e w32 ⟨rfl, hb⟩; have n0_ := Aside0.mk (blk_below (g := gb226) (o := .cells #[.int .i64 t217, .string t218, .int .i64 t219, .int .i64 t220, .int .i64 t221, .int .i64 t222, .int .i64 t223, .string t224] 30 (0, 0)) (by (with_reducible repeat (first | refine blk_drewN ?_ _ | refine blk_drew ?_ | refine blk_alloc ?_ _)); exact BK226.out) hb); have n1_ := Aside0.mk (below_step (by repeat (first | (with_reducible first | exact HB.out | apply below_alloc | apply pw_below_drewN | apply below_drew1 | refine below_set ?_ GE226.out) | exact HB.out)) hb); clear BK226; clear HB; have BK226 := n0_; have HB := n1_; clear n0_ n1_; (try clear hb); (try clear hb2); (try clear hk); (try clear hi); have hcz33_0 : w32.cell? ⟨gb226, 0, none⟩ = some (.int .i64 t217) := (blk_cell BK226.out 0).trans rfl; have hcz33_1 : w32.cell? ⟨gb226, 1, none⟩ = some (.string t218) := (blk_cell BK226.out 1).trans rfl; have hcz33_2 : w32.cell? ⟨gb226, 2, none⟩ = some (.int .i64 t219) := (blk_cell BK226.out 2).trans rfl; have hcz33_3 : w32.cell? ⟨gb226, 3, none⟩ = some (.int .i64 t220) := (blk_cell BK226.out 3).trans rfl; have hcz33_4 : w32.cell? ⟨gb226, 4, none⟩ = some (.int .i64 t221) := (blk_cell BK226.out 4).trans rfl; have hcz33_5 : w32.cell? ⟨gb226, 5, none⟩ = some (.int .i64 t222) := (blk_cell BK226.out 5).trans rfl; have hcz33_6 : w32.cell? ⟨gb226, 6, none⟩ = some (.int .i64 t223) := (blk_cell BK226.out 6).trans rfl; have hcz33_7 : w32.cell? ⟨gb226, 7, none⟩ = some (.string t224) := (blk_cell BK226.out 7).trans rfl; have hfz33_0 := blk_frozen BK226.out 0; have hfz33_1 := blk_frozen BK226.out 1; have hfz33_2 := blk_frozen BK226.out 2; have hfz33_3 := blk_frozen BK226.out 3; have hfz33_4 := blk_frozen BK226.out 4; have hfz33_5 := blk_frozen BK226.out 5; have hfz33_6 := blk_frozen BK226.out 6; have hfz33_7 := blk_frozen BK226.out 7) | (go_at_call 8; (with_reducible refine (belvederelaw20_sure.calls k1  t230 _ A31.out ?side1).mono ?_); (case side1 => first | exact hG | exact GL.below hG (by repeat (first | (with_reducible first | exact HB.out | apply below_alloc | apply pw_below_drewN | apply below_drew1 | refine below_set ?_ GE226.out) | exact HB.out)) | (repeat (first | exact hG | apply GL.drewN | apply GL.drew | apply GL.alloc))); rintro e w34 ⟨rfl, hb⟩; have n0_ := Aside0.mk (blk_below (g := gb226) (o := .cells #[.int .i64 t217, .string t218, .int .i64 t219, .int .i64 t220, .int .i64 t221, .int .i64 t222, .int .i64 t223, .string t224] 30 (0, 0)) (by (with_reducible repeat (first | refine blk_drewN ?_ _ | refine blk_drew ?_ | refine blk_alloc ?_ _)); exact BK226.out) hb); have n1_ := Aside0.mk (below_step (by repeat (first | (with_reducible first | exact HB.out | apply below_alloc | apply pw_below_drewN | apply below_drew1 | refine below_set ?_ GE226.out) | exact HB.out)) hb); clear BK226; clear HB; have BK226 := n0_; have HB := n1_; clear n0_ n1_; (try clear hb); (try clear hb2); (try clear hk); (try clear hi)))
                                            go_ret
                                            exact ⟨by first | rfl | (simp [errW_none, errW_some] <;> rfl) | (simp only [← hji6]; first | rfl | (simp [errW_none, errW_some] <;> rfl)) | (simp [*, errW_none, errW_some] <;> rfl), by repeat (first | (with_reducible first | exact HB.out | apply below_alloc | apply pw_below_drewN | apply below_drew1 | refine below_set ?_ GE226.out) | exact HB.out)⟩
                                          · rw [if_neg c30] at H
                                            exact absurd H (by simp)
                                        · rw [if_neg c29] at H
                                          exact absurd H (by simp)
                                      · rw [if_neg c28] at H
                                        exact absurd H (by simp)
                                    · rw [if_neg c27] at H
                                      exact absurd H (by simp)
                                  · rw [if_neg c26] at H
                                    exact absurd H (by simp)
                                · rw [if_neg c25] at H
                                  exact absurd H (by simp)
                              · rw [if_neg c24] at H
                                exact absurd H (by simp)
                            · rw [if_neg c23] at H
                              exact absurd H (by simp)
                          · rw [if_neg c22] at H
                            exact absurd H (by simp)
                        · rw [if_neg c20] at H
                          have c20b0 : ((bt a0 x8_1) == 10) = false := beq_eq_false_iff_ne.mpr c20
                          have c20b1 : ((bt a0 x8_1) != 10) = true := bne_iff_ne.mpr c20
                          have H' := Aside0.mk H
                          clear H
                          have p19 : 0 ≤ (x8_1 : Int) := of_decide_eq_true (by first | (with_reducible assumption) | assumption)
                          have q19 : x8_1 < (a0.size : Int) := of_decide_eq_true (by first | (with_reducible assumption) | assumption)
                          have hx19 := bt_at a0 x8_1
                          replace p19 := eq_true p19
                          replace q19 := eq_true q19
                          go_wp2
                          go_roundg k1
                          case measure => have := HK1.out; omega
                          case rel => exact ⟨(wrap64 (x8_1 + 1)), (by first | rfl | (simp; done) | (simp [*]; done) | (simp; unfold wrap64; omega)), H', ⟨by have := HK1.out; omega⟩, ⟨by (with_reducible repeat (first | refine blk_drewN ?_ _ | refine blk_drew ?_ | refine blk_alloc ?_ _)); exact BK226.out⟩, ⟨by repeat (first | (with_reducible first | exact HB.out | apply below_alloc | apply pw_below_drewN | apply below_drew1 | refine below_set ?_ GE226.out) | exact HB.out)⟩⟩
                      · rw [if_neg c18] at H
                        exact absurd H (by simp)
                    · rw [if_neg c17] at H
                      have c17b0 : decide (x8_1 < (a0.size : Int)) = false := decide_eq_false c17
                      clear c17
                      rcases t225 with _ | q227
                      · have H1 : (if t217 = 8 then (if t218.toList = ([97] : List UInt8) then (if t219 = ji6 then (if t220 = 0 then (if t221 = 0 then (if t222 = 0 then (if t223 = 0 then (if t224.toList = a0.toList then ((belvederelaw20_sure.f k1).bind fun t228 => (some t228)) else (none)) else (none)) else (none)) else (none)) else (none)) else (none)) else (none)) else (none)) = some r := by rw [if_pos (show (none : Option Int).isNone = true by rfl)] at H; exact H
                        clear H
                        have H := H1
                        clear H1
                        try simp only [errW_none, errW_some]
                        by_cases c35 : t217 = 8
                        · rw [if_pos c35] at H
                          have c35b0 : (t217 == 8) = true := beq_iff_eq.mpr c35
                          have c35b1 : (t217 != 8) = false := bne_eq_false_iff_eq.mpr c35
                          clear c35
                          by_cases c36 : t218.toList = ([97] : List UInt8)
                          · rw [if_pos c36] at H
                            have c36b0 : (t218.toList == ([97] : List UInt8)) = true := beq_iff_eq.mpr c36
                            have c36b1 : (t218.toList != ([97] : List UInt8)) = false := bne_eq_false_iff_eq.mpr c36
                            clear c36
                            by_cases c37 : t219 = ji6
                            · rw [if_pos c37] at H
                              have c37b0 : (t219 == ji6) = true := beq_iff_eq.mpr c37
                              have c37b1 : (t219 != ji6) = false := bne_eq_false_iff_eq.mpr c37
                              clear c37
                              by_cases c38 : t220 = 0
                              · rw [if_pos c38] at H
                                have c38b0 : (t220 == 0) = true := beq_iff_eq.mpr c38
                                have c38b1 : (t220 != 0) = false := bne_eq_false_iff_eq.mpr c38
                                clear c38
                                by_cases c39 : t221 = 0
                                · rw [if_pos c39] at H
                                  have c39b0 : (t221 == 0) = true := beq_iff_eq.mpr c39
                                  have c39b1 : (t221 != 0) = false := bne_eq_false_iff_eq.mpr c39
                                  clear c39
                                  by_cases c40 : t222 = 0
                                  · rw [if_pos c40] at H
                                    have c40b0 : (t222 == 0) = true := beq_iff_eq.mpr c40
                                    have c40b1 : (t222 != 0) = false := bne_eq_false_iff_eq.mpr c40
                                    clear c40
                                    by_cases c41 : t223 = 0
                                    · rw [if_pos c41] at H
                                      have c41b0 : (t223 == 0) = true := beq_iff_eq.mpr c41
                                      have c41b1 : (t223 != 0) = false := bne_eq_false_iff_eq.mpr c41
                                      clear c41
                                      by_cases c42 : t224.toList = a0.toList
                                      · rw [if_pos c42] at H
                                        have c42b0 : (t224.toList == a0.toList) = true := beq_iff_eq.mpr c42
                                        have c42b1 : (t224.toList != a0.toList) = false := bne_eq_false_iff_eq.mpr c42
                                        clear c42
                                        replace H := Option.bind_eq_some_iff.mp H
                                        obtain ⟨t228, A430, H⟩ := H
                                        replace H : (some t228) = some r := H
                                        have A43 := Aside0.mk A430
                                        clear A430
                                        obtain rfl := Option.some.inj H
                                        have hcz44_0 : wr.cell? ⟨gb226, 0, none⟩ = some (.int .i64 t217) := (blk_cell BK226.out 0).trans rfl
                                        have hcz44_1 : wr.cell? ⟨gb226, 1, none⟩ = some (.string t218) := (blk_cell BK226.out 1).trans rfl
                                        have hcz44_2 : wr.cell? ⟨gb226, 2, none⟩ = some (.int .i64 t219) := (blk_cell BK226.out 2).trans rfl
                                        have hcz44_3 : wr.cell? ⟨gb226, 3, none⟩ = some (.int .i64 t220) := (blk_cell BK226.out 3).trans rfl
                                        have hcz44_4 : wr.cell? ⟨gb226, 4, none⟩ = some (.int .i64 t221) := (blk_cell BK226.out 4).trans rfl
                                        have hcz44_5 : wr.cell? ⟨gb226, 5, none⟩ = some (.int .i64 t222) := (blk_cell BK226.out 5).trans rfl
                                        have hcz44_6 : wr.cell? ⟨gb226, 6, none⟩ = some (.int .i64 t223) := (blk_cell BK226.out 6).trans rfl
                                        have hcz44_7 : wr.cell? ⟨gb226, 7, none⟩ = some (.string t224) := (blk_cell BK226.out 7).trans rfl
                                        have hfz44_0 := blk_frozen BK226.out 0
                                        have hfz44_1 := blk_frozen BK226.out 1
                                        have hfz44_2 := blk_frozen BK226.out 2
                                        have hfz44_3 := blk_frozen BK226.out 3
                                        have hfz44_4 := blk_frozen BK226.out 4
                                        have hfz44_5 := blk_frozen BK226.out 5
                                        have hfz44_6 := blk_frozen BK226.out 6
                                        have hfz44_7 := blk_frozen BK226.out 7
                                        go_wp2_with (first | (go_at_call 8; (with_reducible refine (belvederelaw20_sure.calls k1  t228 _ A43.out ?side1).mono ?_); (case side1 => first | exact hG | exact GL.below hG (by repeat (first | (with_reducible first | exact HB.out | apply below_alloc | apply pw_below_drewN | apply below_drew1 | refine below_set ?_ GE226.out) | exact HB.out)) | (repeat (first | exact hG | apply GL.drewN | apply GL.drew | apply GL.alloc))); rintro e w45 ⟨rfl, hb⟩; have n0_ := Aside0.mk (blk_below (g := gb226) (o := .cells #[.int .i64 t217, .string t218, .int .i64 t219, .int .i64 t220, .int .i64 t221, .int .i64 t222, .int .i64 t223, .string t224] 30 (0, 0)) (by (with_reducible repeat (first | refine blk_drewN ?_ _ | refine blk_drew ?_ | refine blk_alloc ?_ _)); exact BK226.out) hb); have n1_ := Aside0.mk (below_step (by repeat (first | (with_reducible first | exact HB.out | apply below_alloc | apply pw_below_drewN | apply below_drew1 | refine below_set ?_ GE226.out) | exact HB.out)) hb); clear BK226; clear HB; have BK226 := n0_; have HB := n1_; clear n0_ n1_; (try clear hb); (try clear hb2); (try clear hk); (try clear hi)))
                                        go_ret
                                        exact ⟨by first | rfl | (simp [errW_none, errW_some] <;> rfl) | (simp only [← hji6]; first | rfl | (simp [errW_none, errW_some] <;> rfl)) | (simp [*, errW_none, errW_some] <;> rfl), by repeat (first | (with_reducible first | exact HB.out | apply below_alloc | apply pw_below_drewN | apply below_drew1 | refine below_set ?_ GE226.out) | exact HB.out)⟩
                                      · rw [if_neg c42] at H
                                        exact absurd H (by simp)
                                    · rw [if_neg c41] at H
                                      exact absurd H (by simp)
                                  · rw [if_neg c40] at H
                                    exact absurd H (by simp)
                                · rw [if_neg c39] at H
                                  exact absurd H (by simp)
                              · rw [if_neg c38] at H
                                exact absurd H (by simp)
                            · rw [if_neg c37] at H
                              exact absurd H (by simp)
                          · rw [if_neg c36] at H
                            exact absurd H (by simp)
                        · rw [if_neg c35] at H
                          exact absurd H (by simp)
                      · have H1 : (none) = some r := by rw [if_neg (show ¬ (some q227).isNone = true by simp)] at H; exact H
                        clear H
                        have H := H1
                        clear H1
                        try simp only [errW_none, errW_some]
                        exact absurd H (by simp)
              · rw [if_neg c12] at H
                exact absurd H (by simp)
            · rw [if_neg c11] at H
              exact absurd H (by simp)
          · rw [if_neg c10] at H
            exact absurd H (by simp)
        · rw [if_neg c9] at H
          exact absurd H (by simp)
      · rw [if_neg c8] at H
        exact absurd H (by simp)
    · rw [if_neg c7] at H
      exact absurd H (by simp)

/-- THE ONE PURE STATEMENT of belvederelaw20_CommandRests: yours. -/
def belvederelaw20_CommandRests.Pure : Prop := ∀ (a0 : ByteArray) (a1 : Int), a0.size ≤ 140737488351232 → (Lit.int .i64 a1).wf = true → ∃ k, belvederelaw20_CommandRests.f k a0 a1 = some true
theorem belvederelaw20_CommandRests.walk (P : belvederelaw20_CommandRests.Pure) (a0 : ByteArray) (a1 : Int) (w : World) (w0 : a0.size ≤ 140737488351232) (w1 : (Lit.int .i64 a1).wf = true) (hG : GL w) :
    Calls Tryz.prog 5 #[.string a0, .int .i64 a1] w fun e w' => e = .returned (.bool true) ∧ Below w.heap.size w w' := by
  obtain ⟨k, h⟩ := P a0 a1 w0 w1
  refine (belvederelaw20_CommandRests.calls k a0 a1 true w h hG).mono ?_
  rintro e w' ⟨rfl, hd⟩
  exact ⟨rfl, hd⟩

end Go.Proofs.YtdakfmldbddokaaGreatDoor.P
