-- written by myprint.py (this claim's own program, after the kit's print)
import Derived.Test.YtegiikkbeknodaaDoorBx0
import Derived.Test.YtegiikkbeknodaaDoorBx1
import Derived.Test.YtegiikkbeknodaaDoorBx5
import Derived.Test.YtegiikkbeknodaaDoorBClParse
namespace Go.Proofs.YtegiikkbeknodaaDoor.B
open Go.RowKit Go.Proofs.YtegiikkbeknodaaDoorW.PrintWords Go.Proofs.YtegiikkbeknodaaDoorW.PrintLast Go.Proofs.YtegiikkbeknodaaDoorW.PrintMore
attribute [local go_sem] max2_int min2_int max_two min_two max_three min_three max_four min_four   -- for this text's walks alone
set_option linter.unusedVariables false
set_option linter.unusedSimpArgs false

/-! ### belvederelaw05_ClockBack: function 7 -/
def belvederelaw05_ClockBack.f (k : Nat) (a0 : Int) (a1 : Int) (a2 : Int) : Option (Bool) := (clock_Split.f a0 a1).bind fun bt148 => (if bt148.2.2.isNone = true then ((clock_Join.f k bt148.1 bt148.2.1 a1).bind fun bt153 => (if bt153.2.isNone = true then (if bt153.1 = a0 then (if bt148.2.1 < 0 then (none) else (if bt148.2.1 > 86399 then (none) else ((clock_Hours.f k (wrap64 (Int.tmod (IntKind.u64.wrap (a2)) 86401))).bind fun bt156 => ((clock_Parse.f bt156.1).bind fun bt158 => (if bt156.2.isNone = true then (if bt158.2.isNone = true then (if bt158.1 = (wrap64 (Int.tmod (IntKind.u64.wrap (a2)) 86401)) then ((clock_Add.f (wrap64 (Int.tmod (IntKind.u64.wrap (a0)) 2305843009213693952)) (wrap64 (Int.tmod (IntKind.u64.wrap (a2)) 2305843009213693952))).bind fun t162 => ((clock_Add.f t162 (wrap64 (-(wrap64 (Int.tmod (IntKind.u64.wrap (a2)) 2305843009213693952))))).bind fun t163 => (if t163 = (wrap64 (Int.tmod (IntKind.u64.wrap (a0)) 2305843009213693952)) then ((clock_Add.f (wrap64 (Int.tmod (IntKind.u64.wrap (a0)) 2305843009213693952)) 0).bind fun t164 => (if t164 = (wrap64 (Int.tmod (IntKind.u64.wrap (a0)) 2305843009213693952)) then ((belvederelaw05_sure.f k).bind fun t165 => (some t165)) else (none))) else (none)))) else (none)) else (none)) else (none)))))) else (none)) else (none))) else ((clock_Hours.f k (wrap64 (Int.tmod (IntKind.u64.wrap (a2)) 86401))).bind fun bt166 => ((clock_Parse.f bt166.1).bind fun bt168 => (if bt166.2.isNone = true then (if bt168.2.isNone = true then (if bt168.1 = (wrap64 (Int.tmod (IntKind.u64.wrap (a2)) 86401)) then ((clock_Add.f (wrap64 (Int.tmod (IntKind.u64.wrap (a0)) 2305843009213693952)) (wrap64 (Int.tmod (IntKind.u64.wrap (a2)) 2305843009213693952))).bind fun t172 => ((clock_Add.f t172 (wrap64 (-(wrap64 (Int.tmod (IntKind.u64.wrap (a2)) 2305843009213693952))))).bind fun t173 => (if t173 = (wrap64 (Int.tmod (IntKind.u64.wrap (a0)) 2305843009213693952)) then ((clock_Add.f (wrap64 (Int.tmod (IntKind.u64.wrap (a0)) 2305843009213693952)) 0).bind fun t174 => (if t174 = (wrap64 (Int.tmod (IntKind.u64.wrap (a0)) 2305843009213693952)) then ((belvederelaw05_sure.f k).bind fun t175 => (some t175)) else (none))) else (none)))) else (none)) else (none)) else (none)))))
theorem belvederelaw05_ClockBack.mono : ∀ a0 a1 a2 k, LeO (belvederelaw05_ClockBack.f k a0 a1 a2) (belvederelaw05_ClockBack.f (k + 1) a0 a1 a2) := by
  intro a0 a1 a2 k
  unfold belvederelaw05_ClockBack.f
  repeat' first
      | (with_reducible exact belvederelaw05_sure.mono _)
      | (with_reducible exact clock_Hours.mono _ _)
      | (with_reducible exact clock_Join.mono _ _ _ _)
      | (with_reducible exact LeO.refl _)
      | (with_reducible exact LeO.none _)
      | (with_reducible refine LeO.ite ?_ ?_)
      | (with_reducible refine LeO.bind ?_ (fun _ => ?_))
      | exact belvederelaw05_sure.mono _
      | exact clock_Hours.mono _ _
      | exact clock_Join.mono _ _ _ _
      | exact LeO.none _
      | refine LeO.ite ?_ ?_
      | refine LeO.bind ?_ (fun _ => ?_)
set_option maxHeartbeats 8000000 in
set_option maxRecDepth 100000 in
theorem belvederelaw05_ClockBack.calls (k : Nat) (a0 : Int) (a1 : Int) (a2 : Int) (r : Bool) (w : World) (h : belvederelaw05_ClockBack.f k a0 a1 a2 = some r) (hG : GB w) :
    Calls Tryd.prog 7 #[.int .i64 a0, .int .i64 a1, .int .i64 a2] w fun e w' => e = .returned (.bool r) ∧ Below w.heap.size w w' := by
  have hu24 := Tryd.underlying24
  have hu26 := Tryd.underlying26
  have hu52 := Tryd.underlying52
  have HB := Aside0.mk (Below.refl w.heap.size w)
  have H : ((clock_Split.f a0 a1).bind fun bt148 => (if bt148.2.2.isNone = true then ((clock_Join.f k bt148.1 bt148.2.1 a1).bind fun bt153 => (if bt153.2.isNone = true then (if bt153.1 = a0 then (if bt148.2.1 < 0 then (none) else (if bt148.2.1 > 86399 then (none) else ((clock_Hours.f k (wrap64 (Int.tmod (IntKind.u64.wrap (a2)) 86401))).bind fun bt156 => ((clock_Parse.f bt156.1).bind fun bt158 => (if bt156.2.isNone = true then (if bt158.2.isNone = true then (if bt158.1 = (wrap64 (Int.tmod (IntKind.u64.wrap (a2)) 86401)) then ((clock_Add.f (wrap64 (Int.tmod (IntKind.u64.wrap (a0)) 2305843009213693952)) (wrap64 (Int.tmod (IntKind.u64.wrap (a2)) 2305843009213693952))).bind fun t162 => ((clock_Add.f t162 (wrap64 (-(wrap64 (Int.tmod (IntKind.u64.wrap (a2)) 2305843009213693952))))).bind fun t163 => (if t163 = (wrap64 (Int.tmod (IntKind.u64.wrap (a0)) 2305843009213693952)) then ((clock_Add.f (wrap64 (Int.tmod (IntKind.u64.wrap (a0)) 2305843009213693952)) 0).bind fun t164 => (if t164 = (wrap64 (Int.tmod (IntKind.u64.wrap (a0)) 2305843009213693952)) then ((belvederelaw05_sure.f k).bind fun t165 => (some t165)) else (none))) else (none)))) else (none)) else (none)) else (none)))))) else (none)) else (none))) else ((clock_Hours.f k (wrap64 (Int.tmod (IntKind.u64.wrap (a2)) 86401))).bind fun bt166 => ((clock_Parse.f bt166.1).bind fun bt168 => (if bt166.2.isNone = true then (if bt168.2.isNone = true then (if bt168.1 = (wrap64 (Int.tmod (IntKind.u64.wrap (a2)) 86401)) then ((clock_Add.f (wrap64 (Int.tmod (IntKind.u64.wrap (a0)) 2305843009213693952)) (wrap64 (Int.tmod (IntKind.u64.wrap (a2)) 2305843009213693952))).bind fun t172 => ((clock_Add.f t172 (wrap64 (-(wrap64 (Int.tmod (IntKind.u64.wrap (a2)) 2305843009213693952))))).bind fun t173 => (if t173 = (wrap64 (Int.tmod (IntKind.u64.wrap (a0)) 2305843009213693952)) then ((clock_Add.f (wrap64 (Int.tmod (IntKind.u64.wrap (a0)) 2305843009213693952)) 0).bind fun t174 => (if t174 = (wrap64 (Int.tmod (IntKind.u64.wrap (a0)) 2305843009213693952)) then ((belvederelaw05_sure.f k).bind fun t175 => (some t175)) else (none))) else (none)))) else (none)) else (none)) else (none)))))) = some r := h
  clear h
  replace H := Option.bind_eq_some_iff.mp H
  obtain ⟨⟨t148, t149, t150⟩, A40, H⟩ := H
  replace H : (if t150.isNone = true then ((clock_Join.f k t148 t149 a1).bind fun bt153 => (if bt153.2.isNone = true then (if bt153.1 = a0 then (if t149 < 0 then (none) else (if t149 > 86399 then (none) else ((clock_Hours.f k (wrap64 (Int.tmod (IntKind.u64.wrap (a2)) 86401))).bind fun bt156 => ((clock_Parse.f bt156.1).bind fun bt158 => (if bt156.2.isNone = true then (if bt158.2.isNone = true then (if bt158.1 = (wrap64 (Int.tmod (IntKind.u64.wrap (a2)) 86401)) then ((clock_Add.f (wrap64 (Int.tmod (IntKind.u64.wrap (a0)) 2305843009213693952)) (wrap64 (Int.tmod (IntKind.u64.wrap (a2)) 2305843009213693952))).bind fun t162 => ((clock_Add.f t162 (wrap64 (-(wrap64 (Int.tmod (IntKind.u64.wrap (a2)) 2305843009213693952))))).bind fun t163 => (if t163 = (wrap64 (Int.tmod (IntKind.u64.wrap (a0)) 2305843009213693952)) then ((clock_Add.f (wrap64 (Int.tmod (IntKind.u64.wrap (a0)) 2305843009213693952)) 0).bind fun t164 => (if t164 = (wrap64 (Int.tmod (IntKind.u64.wrap (a0)) 2305843009213693952)) then ((belvederelaw05_sure.f k).bind fun t165 => (some t165)) else (none))) else (none)))) else (none)) else (none)) else (none)))))) else (none)) else (none))) else ((clock_Hours.f k (wrap64 (Int.tmod (IntKind.u64.wrap (a2)) 86401))).bind fun bt166 => ((clock_Parse.f bt166.1).bind fun bt168 => (if bt166.2.isNone = true then (if bt168.2.isNone = true then (if bt168.1 = (wrap64 (Int.tmod (IntKind.u64.wrap (a2)) 86401)) then ((clock_Add.f (wrap64 (Int.tmod (IntKind.u64.wrap (a0)) 2305843009213693952)) (wrap64 (Int.tmod (IntKind.u64.wrap (a2)) 2305843009213693952))).bind fun t172 => ((clock_Add.f t172 (wrap64 (-(wrap64 (Int.tmod (IntKind.u64.wrap (a2)) 2305843009213693952))))).bind fun t173 => (if t173 = (wrap64 (Int.tmod (IntKind.u64.wrap (a0)) 2305843009213693952)) then ((clock_Add.f (wrap64 (Int.tmod (IntKind.u64.wrap (a0)) 2305843009213693952)) 0).bind fun t174 => (if t174 = (wrap64 (Int.tmod (IntKind.u64.wrap (a0)) 2305843009213693952)) then ((belvederelaw05_sure.f k).bind fun t175 => (some t175)) else (none))) else (none)))) else (none)) else (none)) else (none))))) = some r := H
  have A4 := Aside0.mk A40
  clear A40
  rcases t150 with _ | q152
  · have H1 : ((clock_Join.f k t148 t149 a1).bind fun bt153 => (if bt153.2.isNone = true then (if bt153.1 = a0 then (if t149 < 0 then (none) else (if t149 > 86399 then (none) else ((clock_Hours.f k (wrap64 (Int.tmod (IntKind.u64.wrap (a2)) 86401))).bind fun bt156 => ((clock_Parse.f bt156.1).bind fun bt158 => (if bt156.2.isNone = true then (if bt158.2.isNone = true then (if bt158.1 = (wrap64 (Int.tmod (IntKind.u64.wrap (a2)) 86401)) then ((clock_Add.f (wrap64 (Int.tmod (IntKind.u64.wrap (a0)) 2305843009213693952)) (wrap64 (Int.tmod (IntKind.u64.wrap (a2)) 2305843009213693952))).bind fun t162 => ((clock_Add.f t162 (wrap64 (-(wrap64 (Int.tmod (IntKind.u64.wrap (a2)) 2305843009213693952))))).bind fun t163 => (if t163 = (wrap64 (Int.tmod (IntKind.u64.wrap (a0)) 2305843009213693952)) then ((clock_Add.f (wrap64 (Int.tmod (IntKind.u64.wrap (a0)) 2305843009213693952)) 0).bind fun t164 => (if t164 = (wrap64 (Int.tmod (IntKind.u64.wrap (a0)) 2305843009213693952)) then ((belvederelaw05_sure.f k).bind fun t165 => (some t165)) else (none))) else (none)))) else (none)) else (none)) else (none)))))) else (none)) else (none))) = some r := by rw [if_pos (show (none : Option Int).isNone = true by rfl)] at H; exact H
    clear H
    have H := H1
    clear H1
    try simp only [errW_none, errW_some]
    replace H := Option.bind_eq_some_iff.mp H
    obtain ⟨⟨t153, t154⟩, A50, H⟩ := H
    replace H : (if t154.isNone = true then (if t153 = a0 then (if t149 < 0 then (none) else (if t149 > 86399 then (none) else ((clock_Hours.f k (wrap64 (Int.tmod (IntKind.u64.wrap (a2)) 86401))).bind fun bt156 => ((clock_Parse.f bt156.1).bind fun bt158 => (if bt156.2.isNone = true then (if bt158.2.isNone = true then (if bt158.1 = (wrap64 (Int.tmod (IntKind.u64.wrap (a2)) 86401)) then ((clock_Add.f (wrap64 (Int.tmod (IntKind.u64.wrap (a0)) 2305843009213693952)) (wrap64 (Int.tmod (IntKind.u64.wrap (a2)) 2305843009213693952))).bind fun t162 => ((clock_Add.f t162 (wrap64 (-(wrap64 (Int.tmod (IntKind.u64.wrap (a2)) 2305843009213693952))))).bind fun t163 => (if t163 = (wrap64 (Int.tmod (IntKind.u64.wrap (a0)) 2305843009213693952)) then ((clock_Add.f (wrap64 (Int.tmod (IntKind.u64.wrap (a0)) 2305843009213693952)) 0).bind fun t164 => (if t164 = (wrap64 (Int.tmod (IntKind.u64.wrap (a0)) 2305843009213693952)) then ((belvederelaw05_sure.f k).bind fun t165 => (some t165)) else (none))) else (none)))) else (none)) else (none)) else (none)))))) else (none)) else (none)) = some r := H
    have A5 := Aside0.mk A50
    clear A50
    rcases t154 with _ | q155
    · have H1 : (if t153 = a0 then (if t149 < 0 then (none) else (if t149 > 86399 then (none) else ((clock_Hours.f k (wrap64 (Int.tmod (IntKind.u64.wrap (a2)) 86401))).bind fun bt156 => ((clock_Parse.f bt156.1).bind fun bt158 => (if bt156.2.isNone = true then (if bt158.2.isNone = true then (if bt158.1 = (wrap64 (Int.tmod (IntKind.u64.wrap (a2)) 86401)) then ((clock_Add.f (wrap64 (Int.tmod (IntKind.u64.wrap (a0)) 2305843009213693952)) (wrap64 (Int.tmod (IntKind.u64.wrap (a2)) 2305843009213693952))).bind fun t162 => ((clock_Add.f t162 (wrap64 (-(wrap64 (Int.tmod (IntKind.u64.wrap (a2)) 2305843009213693952))))).bind fun t163 => (if t163 = (wrap64 (Int.tmod (IntKind.u64.wrap (a0)) 2305843009213693952)) then ((clock_Add.f (wrap64 (Int.tmod (IntKind.u64.wrap (a0)) 2305843009213693952)) 0).bind fun t164 => (if t164 = (wrap64 (Int.tmod (IntKind.u64.wrap (a0)) 2305843009213693952)) then ((belvederelaw05_sure.f k).bind fun t165 => (some t165)) else (none))) else (none)))) else (none)) else (none)) else (none)))))) else (none)) = some r := by rw [if_pos (show (none : Option Int).isNone = true by rfl)] at H; exact H
      clear H
      have H := H1
      clear H1
      try simp only [errW_none, errW_some]
      by_cases c6 : t153 = a0
      · rw [if_pos c6] at H
        have c6b0 : (t153 == a0) = true := beq_iff_eq.mpr c6
        have c6b1 : (t153 != a0) = false := bne_eq_false_iff_eq.mpr c6
        clear c6
        by_cases c7 : t149 < 0
        · rw [if_pos c7] at H
          exact absurd H (by simp)
        · rw [if_neg c7] at H
          have c7b0 : decide (t149 < 0) = false := decide_eq_false c7
          clear c7
          by_cases c8 : t149 > 86399
          · rw [if_pos c8] at H
            exact absurd H (by simp)
          · rw [if_neg c8] at H
            have c8b0 : decide (86399 < t149) = false := decide_eq_false c8
            clear c8
            replace H := Option.bind_eq_some_iff.mp H
            obtain ⟨⟨t156, t157⟩, A90, H⟩ := H
            replace H : ((clock_Parse.f t156).bind fun bt158 => (if t157.isNone = true then (if bt158.2.isNone = true then (if bt158.1 = (wrap64 (Int.tmod (IntKind.u64.wrap (a2)) 86401)) then ((clock_Add.f (wrap64 (Int.tmod (IntKind.u64.wrap (a0)) 2305843009213693952)) (wrap64 (Int.tmod (IntKind.u64.wrap (a2)) 2305843009213693952))).bind fun t162 => ((clock_Add.f t162 (wrap64 (-(wrap64 (Int.tmod (IntKind.u64.wrap (a2)) 2305843009213693952))))).bind fun t163 => (if t163 = (wrap64 (Int.tmod (IntKind.u64.wrap (a0)) 2305843009213693952)) then ((clock_Add.f (wrap64 (Int.tmod (IntKind.u64.wrap (a0)) 2305843009213693952)) 0).bind fun t164 => (if t164 = (wrap64 (Int.tmod (IntKind.u64.wrap (a0)) 2305843009213693952)) then ((belvederelaw05_sure.f k).bind fun t165 => (some t165)) else (none))) else (none)))) else (none)) else (none)) else (none))) = some r := H
            have A9 := Aside0.mk A90
            clear A90
            replace H := Option.bind_eq_some_iff.mp H
            obtain ⟨⟨t158, t159⟩, A100, H⟩ := H
            replace H : (if t157.isNone = true then (if t159.isNone = true then (if t158 = (wrap64 (Int.tmod (IntKind.u64.wrap (a2)) 86401)) then ((clock_Add.f (wrap64 (Int.tmod (IntKind.u64.wrap (a0)) 2305843009213693952)) (wrap64 (Int.tmod (IntKind.u64.wrap (a2)) 2305843009213693952))).bind fun t162 => ((clock_Add.f t162 (wrap64 (-(wrap64 (Int.tmod (IntKind.u64.wrap (a2)) 2305843009213693952))))).bind fun t163 => (if t163 = (wrap64 (Int.tmod (IntKind.u64.wrap (a0)) 2305843009213693952)) then ((clock_Add.f (wrap64 (Int.tmod (IntKind.u64.wrap (a0)) 2305843009213693952)) 0).bind fun t164 => (if t164 = (wrap64 (Int.tmod (IntKind.u64.wrap (a0)) 2305843009213693952)) then ((belvederelaw05_sure.f k).bind fun t165 => (some t165)) else (none))) else (none)))) else (none)) else (none)) else (none)) = some r := H
            have A10 := Aside0.mk A100
            clear A100
            rcases t157 with _ | q160
            · have H1 : (if t159.isNone = true then (if t158 = (wrap64 (Int.tmod (IntKind.u64.wrap (a2)) 86401)) then ((clock_Add.f (wrap64 (Int.tmod (IntKind.u64.wrap (a0)) 2305843009213693952)) (wrap64 (Int.tmod (IntKind.u64.wrap (a2)) 2305843009213693952))).bind fun t162 => ((clock_Add.f t162 (wrap64 (-(wrap64 (Int.tmod (IntKind.u64.wrap (a2)) 2305843009213693952))))).bind fun t163 => (if t163 = (wrap64 (Int.tmod (IntKind.u64.wrap (a0)) 2305843009213693952)) then ((clock_Add.f (wrap64 (Int.tmod (IntKind.u64.wrap (a0)) 2305843009213693952)) 0).bind fun t164 => (if t164 = (wrap64 (Int.tmod (IntKind.u64.wrap (a0)) 2305843009213693952)) then ((belvederelaw05_sure.f k).bind fun t165 => (some t165)) else (none))) else (none)))) else (none)) else (none)) = some r := by rw [if_pos (show (none : Option Int).isNone = true by rfl)] at H; exact H
              clear H
              have H := H1
              clear H1
              try simp only [errW_none, errW_some]
              rcases t159 with _ | q161
              · have H1 : (if t158 = (wrap64 (Int.tmod (IntKind.u64.wrap (a2)) 86401)) then ((clock_Add.f (wrap64 (Int.tmod (IntKind.u64.wrap (a0)) 2305843009213693952)) (wrap64 (Int.tmod (IntKind.u64.wrap (a2)) 2305843009213693952))).bind fun t162 => ((clock_Add.f t162 (wrap64 (-(wrap64 (Int.tmod (IntKind.u64.wrap (a2)) 2305843009213693952))))).bind fun t163 => (if t163 = (wrap64 (Int.tmod (IntKind.u64.wrap (a0)) 2305843009213693952)) then ((clock_Add.f (wrap64 (Int.tmod (IntKind.u64.wrap (a0)) 2305843009213693952)) 0).bind fun t164 => (if t164 = (wrap64 (Int.tmod (IntKind.u64.wrap (a0)) 2305843009213693952)) then ((belvederelaw05_sure.f k).bind fun t165 => (some t165)) else (none))) else (none)))) else (none)) = some r := by rw [if_pos (show (none : Option Int).isNone = true by rfl)] at H; exact H
                clear H
                have H := H1
                clear H1
                try simp only [errW_none, errW_some]
                by_cases c11 : t158 = (wrap64 (Int.tmod (IntKind.u64.wrap (a2)) 86401))
                · rw [if_pos c11] at H
                  have c11b0 : (t158 == (wrap64 (Int.tmod (IntKind.u64.wrap (a2)) 86401))) = true := beq_iff_eq.mpr c11
                  have c11b1 : (t158 != (wrap64 (Int.tmod (IntKind.u64.wrap (a2)) 86401))) = false := bne_eq_false_iff_eq.mpr c11
                  clear c11
                  replace H := Option.bind_eq_some_iff.mp H
                  obtain ⟨t162, A120, H⟩ := H
                  replace H : ((clock_Add.f t162 (wrap64 (-(wrap64 (Int.tmod (IntKind.u64.wrap (a2)) 2305843009213693952))))).bind fun t163 => (if t163 = (wrap64 (Int.tmod (IntKind.u64.wrap (a0)) 2305843009213693952)) then ((clock_Add.f (wrap64 (Int.tmod (IntKind.u64.wrap (a0)) 2305843009213693952)) 0).bind fun t164 => (if t164 = (wrap64 (Int.tmod (IntKind.u64.wrap (a0)) 2305843009213693952)) then ((belvederelaw05_sure.f k).bind fun t165 => (some t165)) else (none))) else (none))) = some r := H
                  have A12 := Aside0.mk A120
                  clear A120
                  replace H := Option.bind_eq_some_iff.mp H
                  obtain ⟨t163, A130, H⟩ := H
                  replace H : (if t163 = (wrap64 (Int.tmod (IntKind.u64.wrap (a0)) 2305843009213693952)) then ((clock_Add.f (wrap64 (Int.tmod (IntKind.u64.wrap (a0)) 2305843009213693952)) 0).bind fun t164 => (if t164 = (wrap64 (Int.tmod (IntKind.u64.wrap (a0)) 2305843009213693952)) then ((belvederelaw05_sure.f k).bind fun t165 => (some t165)) else (none))) else (none)) = some r := H
                  have A13 := Aside0.mk A130
                  clear A130
                  by_cases c14 : t163 = (wrap64 (Int.tmod (IntKind.u64.wrap (a0)) 2305843009213693952))
                  · rw [if_pos c14] at H
                    have c14b0 : (t163 == (wrap64 (Int.tmod (IntKind.u64.wrap (a0)) 2305843009213693952))) = true := beq_iff_eq.mpr c14
                    have c14b1 : (t163 != (wrap64 (Int.tmod (IntKind.u64.wrap (a0)) 2305843009213693952))) = false := bne_eq_false_iff_eq.mpr c14
                    clear c14
                    replace H := Option.bind_eq_some_iff.mp H
                    obtain ⟨t164, A150, H⟩ := H
                    replace H : (if t164 = (wrap64 (Int.tmod (IntKind.u64.wrap (a0)) 2305843009213693952)) then ((belvederelaw05_sure.f k).bind fun t165 => (some t165)) else (none)) = some r := H
                    have A15 := Aside0.mk A150
                    clear A150
                    by_cases c16 : t164 = (wrap64 (Int.tmod (IntKind.u64.wrap (a0)) 2305843009213693952))
                    · rw [if_pos c16] at H
                      have c16b0 : (t164 == (wrap64 (Int.tmod (IntKind.u64.wrap (a0)) 2305843009213693952))) = true := beq_iff_eq.mpr c16
                      have c16b1 : (t164 != (wrap64 (Int.tmod (IntKind.u64.wrap (a0)) 2305843009213693952))) = false := bne_eq_false_iff_eq.mpr c16
                      clear c16
                      replace H := Option.bind_eq_some_iff.mp H
                      obtain ⟨t165, A170, H⟩ := H
                      replace H : (some t165) = some r := H
                      have A17 := Aside0.mk A170
                      clear A170
                      obtain rfl := Option.some.inj H
                      go_enter Tryd.func7, Tryd.ntmps7
                      go_wp2_with (first | ((with_reducible refine gate_callee (f := 9) rfl ?_); refine goesL_ (some 21) rfl rfl Tryd.func9 (by kernel_rfl) rfl #[.int .i64 a0, .int .i64 a1] rfl (by (try simp only [List.map_toArray, List.map_cons, List.map_nil]); first | done | rfl | (simp only [List.length_drop, List.length_take]; rfl)) ?_; (with_reducible refine (clock_Split.calls a0 a1 t148 t149 none _ A4.out).mono ?_); rintro e w18 ⟨rfl, hb⟩; refine ⟨_, rfl, ?_⟩; have n0_ := Aside0.mk (below_step (by repeat (first | (with_reducible first | exact HB.out | apply below_alloc | apply pw_below_drewN | apply below_drew1) | exact HB.out)) hb); clear HB; have HB := n0_; clear n0_; (try clear hb); (try clear hb2); (try clear hk); (try clear hi); (try simp only [errW_none, errW_some])) | ((with_reducible refine gate_dst (N := 7) rfl ?_); refine box_event ?hg (N := 7) ?hd (cs := #[.int .i64 0, .int .i64 0]) (t := 24) ?hr ?_; (case hd => rfl); (case hg => rfl); (case hr => first | (go_simp; done) | (go_simp; rfl)); intro gb151 hg w19 hbox hb; have n0_ := Aside0.mk (below_step (by repeat (first | (with_reducible first | exact HB.out | apply below_alloc | apply pw_below_drewN | apply below_drew1) | exact HB.out)) hb); have n1_ := Aside0.mk (hbox); have n2_ := Aside0.mk ((by rw [hg]; exact (below_size (by repeat (first | (with_reducible first | exact HB.out | apply below_alloc | apply pw_below_drewN | apply below_drew1) | exact HB.out))) : w.heap.size ≤ gb151)); have n3_ := Aside0.mk ((by rw [hg]; exact (below_size (by repeat (first | (with_reducible first | exact HB.out | apply below_alloc | apply pw_below_drewN | apply below_drew1) | exact HB.out))) : w.heap.size ≤ gb151)); clear HB; have HB := n0_; have BK151 := n1_; have GW151 := n2_; have GE151 := n3_; clear n0_ n1_ n2_ n3_; clear hb hbox hg; have hcz20_0 : w19.cell? ⟨gb151, 0, none⟩ = some (.int .i64 0) := (blk_cell BK151.out 0).trans rfl; have hcz20_1 : w19.cell? ⟨gb151, 1, none⟩ = some (.int .i64 0) := (blk_cell BK151.out 1).trans rfl; have hfz20_0 := blk_frozen BK151.out 0; have hfz20_1 := blk_frozen BK151.out 1) | ((with_reducible refine gate_callee (f := 17) rfl ?_); refine goesL_ (some 29) rfl rfl Tryd.func17 (by kernel_rfl) rfl #[.agg #[.int .i64 t148, .int .i64 t149], .int .i64 a1] rfl (by (try simp only [List.map_toArray, List.map_cons, List.map_nil]); first | done | rfl | (simp only [List.length_drop, List.length_take]; rfl)) ?_; (with_reducible refine (clock_Join.calls k t148 t149 a1 t153 none _ A5.out).mono ?_); rintro e w21 ⟨rfl, hb⟩; refine ⟨_, rfl, ?_⟩; have n0_ := Aside0.mk (blk_below (g := gb151) (o := .cells #[.int .i64 t148, .int .i64 t149] 24 (0, 0)) (by (with_reducible repeat (first | refine blk_drewN ?_ _ | refine blk_drew ?_ | refine blk_alloc ?_ _)); refine blk_put (cs := #[.int .i64 t148, .int .i64 0]) ?_ 1 _ rfl; (with_reducible repeat (first | refine blk_drewN ?_ _ | refine blk_drew ?_ | refine blk_alloc ?_ _)); refine blk_put (cs := #[.int .i64 0, .int .i64 0]) ?_ 0 _ rfl; (with_reducible repeat (first | refine blk_drewN ?_ _ | refine blk_drew ?_ | refine blk_alloc ?_ _)); exact BK151.out) hb); have n1_ := Aside0.mk (below_step (by repeat (first | (with_reducible first | exact HB.out | apply below_alloc | apply pw_below_drewN | apply below_drew1 | refine below_set ?_ GE151.out) | exact HB.out)) hb); clear BK151; clear HB; have BK151 := n0_; have HB := n1_; clear n0_ n1_; (try clear hb); (try clear hb2); (try clear hk); (try clear hi); (try simp only [errW_none, errW_some]); have hcz22_0 : w21.cell? ⟨gb151, 0, none⟩ = some (.int .i64 t148) := (blk_cell BK151.out 0).trans rfl; have hcz22_1 : w21.cell? ⟨gb151, 1, none⟩ = some (.int .i64 t149) := (blk_cell BK151.out 1).trans rfl; have hfz22_0 := blk_frozen BK151.out 0; have hfz22_1 := blk_frozen BK151.out 1) | ((with_reducible refine gate_callee (f := 19) rfl ?_); refine goesL_ (some 55) rfl rfl Tryd.func19 (by kernel_rfl) rfl #[.int .i64 (wrap64 (Int.tmod (IntKind.u64.wrap (a2)) 86401))] rfl (by (try simp only [List.map_toArray, List.map_cons, List.map_nil]); first | done | rfl | (simp only [List.length_drop, List.length_take]; rfl)) ?_; (with_reducible refine (clock_Hours.calls k (wrap64 (Int.tmod (IntKind.u64.wrap (a2)) 86401)) t156 none _ A9.out ?side1).mono ?_); (case side1 => first | exact hG | exact GB.below hG (by repeat (first | (with_reducible first | exact HB.out | apply below_alloc | apply pw_below_drewN | apply below_drew1 | refine below_set ?_ GE151.out) | exact HB.out)) | (repeat (first | exact hG | apply GB.drewN | apply GB.drew | apply GB.alloc))); rintro e w23 ⟨rfl, hb⟩; refine ⟨_, rfl, ?_⟩; have n0_ := Aside0.mk (blk_below (g := gb151) (o := .cells #[.int .i64 t148, .int .i64 t149] 24 (0, 0)) (by (with_reducible repeat (first | refine blk_drewN ?_ _ | refine blk_drew ?_ | refine blk_alloc ?_ _)); exact BK151.out) hb); have n1_ := Aside0.mk (below_step (by repeat (first | (with_reducible first | exact HB.out | apply below_alloc | apply pw_below_drewN | apply below_drew1 | refine below_set ?_ GE151.out) | exact HB.out)) hb); clear BK151; clear HB; have BK151 := n0_; have HB := n1_; clear n0_ n1_; (try clear hb); (try clear hb2); (try clear hk); (try clear hi); (try simp only [errW_none, errW_some])) | ((with_reducible refine gate_callee (f := 20) rfl ?_); refine goesL_ (some 60) rfl rfl Tryd.func20 (by kernel_rfl) rfl #[.string t156] rfl (by (try simp only [List.map_toArray, List.map_cons, List.map_nil]); first | done | rfl | (simp only [List.length_drop, List.length_take]; rfl)) ?_; (with_reducible refine (clock_Parse.calls t156 t158 none _ A10.out ?side1).mono ?_); (case side1 => first | exact hG | exact GB.below hG (by repeat (first | (with_reducible first | exact HB.out | apply below_alloc | apply pw_below_drewN | apply below_drew1 | refine below_set ?_ GE151.out) | exact HB.out)) | (repeat (first | exact hG | apply GB.drewN | apply GB.drew | apply GB.alloc))); rintro e w24 ⟨rfl, hb⟩; refine ⟨_, rfl, ?_⟩; have n0_ := Aside0.mk (blk_below (g := gb151) (o := .cells #[.int .i64 t148, .int .i64 t149] 24 (0, 0)) (by (with_reducible repeat (first | refine blk_drewN ?_ _ | refine blk_drew ?_ | refine blk_alloc ?_ _)); exact BK151.out) hb); have n1_ := Aside0.mk (below_step (by repeat (first | (with_reducible first | exact HB.out | apply below_alloc | apply pw_below_drewN | apply below_drew1 | refine below_set ?_ GE151.out) | exact HB.out)) hb); clear BK151; clear HB; have BK151 := n0_; have HB := n1_; clear n0_ n1_; (try clear hb); (try clear hb2); (try clear hk); (try clear hi); (try simp only [errW_none, errW_some])) | ((with_reducible refine gate_callee (f := 11) rfl ?_); refine goesL_ (some 84) rfl rfl Tryd.func11 (by kernel_rfl) rfl #[.int .i64 (wrap64 (Int.tmod (IntKind.u64.wrap (a0)) 2305843009213693952)), .int .i64 (wrap64 (Int.tmod (IntKind.u64.wrap (a2)) 2305843009213693952))] rfl (by (try simp only [List.map_toArray, List.map_cons, List.map_nil]); first | done | rfl | (simp only [List.length_drop, List.length_take]; rfl)) ?_; (with_reducible refine (clock_Add.calls (wrap64 (Int.tmod (IntKind.u64.wrap (a0)) 2305843009213693952)) (wrap64 (Int.tmod (IntKind.u64.wrap (a2)) 2305843009213693952)) t162 _ A12.out).mono ?_); rintro e w25 ⟨rfl, hb⟩; refine ⟨_, rfl, ?_⟩; have n0_ := Aside0.mk (blk_below (g := gb151) (o := .cells #[.int .i64 t148, .int .i64 t149] 24 (0, 0)) (by (with_reducible repeat (first | refine blk_drewN ?_ _ | refine blk_drew ?_ | refine blk_alloc ?_ _)); exact BK151.out) hb); have n1_ := Aside0.mk (below_step (by repeat (first | (with_reducible first | exact HB.out | apply below_alloc | apply pw_below_drewN | apply below_drew1 | refine below_set ?_ GE151.out) | exact HB.out)) hb); clear BK151; clear HB; have BK151 := n0_; have HB := n1_; clear n0_ n1_; (try clear hb); (try clear hb2); (try clear hk); (try clear hi)) | ((with_reducible refine gate_callee (f := 11) rfl ?_); refine goesL_ (some 87) rfl rfl Tryd.func11 (by kernel_rfl) rfl #[.int .i64 t162, .int .i64 (wrap64 (-(wrap64 (Int.tmod (IntKind.u64.wrap (a2)) 2305843009213693952))))] rfl (by (try simp only [List.map_toArray, List.map_cons, List.map_nil]); first | done | rfl | (simp only [List.length_drop, List.length_take]; rfl)) ?_; (with_reducible refine (clock_Add.calls t162 (wrap64 (-(wrap64 (Int.tmod (IntKind.u64.wrap (a2)) 2305843009213693952)))) t163 _ A13.out).mono ?_); rintro e w26 ⟨rfl, hb⟩; refine ⟨_, rfl, ?_⟩; have n0_ := Aside0.mk (blk_below (g := gb151) (o := .cells #[.int .i64 t148, .int .i64 t149] 24 (0, 0)) (by (with_reducible repeat (first | refine blk_drewN ?_ _ | refine blk_drew ?_ | refine blk_alloc ?_ _)); exact BK151.out) hb); have n1_ := Aside0.mk (below_step (by repeat (first | (with_reducible first | exact HB.out | apply below_alloc | apply pw_below_drewN | apply below_drew1 | refine below_set ?_ GE151.out) | exact HB.out)) hb); clear BK151; clear HB; have BK151 := n0_; have HB := n1_; clear n0_ n1_; (try clear hb); (try clear hb2); (try clear hk); (try clear hi)) | (go_at_call 11; (with_reducible refine (clock_Add.calls (wrap64 (Int.tmod (IntKind.u64.wrap (a0)) 2305843009213693952)) 0 t164 _ A15.out).mono ?_); rintro e w27 ⟨rfl, hb⟩; have n0_ := Aside0.mk (blk_below (g := gb151) (o := .cells #[.int .i64 t148, .int .i64 t149] 24 (0, 0)) (by (with_reducible repeat (first | refine blk_drewN ?_ _ | refine blk_drew ?_ | refine blk_alloc ?_ _)); exact BK151.out) hb); have n1_ := Aside0.mk (below_step (by repeat (first | (with_reducible first | exact HB.out | apply below_alloc | apply pw_below_drewN | apply below_drew1 | refine below_set ?_ GE151.out) | exact HB.out)) hb); clear BK151; clear HB; have BK151 := n0_; have HB := n1_; clear n0_ n1_; (try clear hb); (try clear hb2); (try clear hk); (try clear hi)) | (go_at_call 10; (with_reducible refine (belvederelaw05_sure.calls k  t165 _ A17.out ?side1).mono ?_); (case side1 => first | exact hG | exact GB.below hG (by repeat (first | (with_reducible first | exact HB.out | apply below_alloc | apply pw_below_drewN | apply below_drew1 | refine below_set ?_ GE151.out) | exact HB.out)) | (repeat (first | exact hG | apply GB.drewN | apply GB.drew | apply GB.alloc))); rintro e w28 ⟨rfl, hb⟩; have n0_ := Aside0.mk (blk_below (g := gb151) (o := .cells #[.int .i64 t148, .int .i64 t149] 24 (0, 0)) (by (with_reducible repeat (first | refine blk_drewN ?_ _ | refine blk_drew ?_ | refine blk_alloc ?_ _)); exact BK151.out) hb); have n1_ := Aside0.mk (below_step (by repeat (first | (with_reducible first | exact HB.out | apply below_alloc | apply pw_below_drewN | apply below_drew1 | refine below_set ?_ GE151.out) | exact HB.out)) hb); clear BK151; clear HB; have BK151 := n0_; have HB := n1_; clear n0_ n1_; (try clear hb); (try clear hb2); (try clear hk); (try clear hi)))
                      go_ret
                      exact ⟨by first | rfl | (simp [errW_none, errW_some] <;> rfl) | (simp [*, errW_none, errW_some] <;> rfl), by repeat (first | (with_reducible first | exact HB.out | apply below_alloc | apply pw_below_drewN | apply below_drew1 | refine below_set ?_ GE151.out) | exact HB.out)⟩
                    · rw [if_neg c16] at H
                      exact absurd H (by simp)
                  · rw [if_neg c14] at H
                    exact absurd H (by simp)
                · rw [if_neg c11] at H
                  exact absurd H (by simp)
              · have H1 : (none) = some r := by rw [if_neg (show ¬ (some q161).isNone = true by simp)] at H; exact H
                clear H
                have H := H1
                clear H1
                try simp only [errW_none, errW_some]
                exact absurd H (by simp)
            · have H1 : (none) = some r := by rw [if_neg (show ¬ (some q160).isNone = true by simp)] at H; exact H
              clear H
              have H := H1
              clear H1
              try simp only [errW_none, errW_some]
              exact absurd H (by simp)
      · rw [if_neg c6] at H
        exact absurd H (by simp)
    · have H1 : (none) = some r := by rw [if_neg (show ¬ (some q155).isNone = true by simp)] at H; exact H
      clear H
      have H := H1
      clear H1
      try simp only [errW_none, errW_some]
      exact absurd H (by simp)
  · have H1 : ((clock_Hours.f k (wrap64 (Int.tmod (IntKind.u64.wrap (a2)) 86401))).bind fun bt166 => ((clock_Parse.f bt166.1).bind fun bt168 => (if bt166.2.isNone = true then (if bt168.2.isNone = true then (if bt168.1 = (wrap64 (Int.tmod (IntKind.u64.wrap (a2)) 86401)) then ((clock_Add.f (wrap64 (Int.tmod (IntKind.u64.wrap (a0)) 2305843009213693952)) (wrap64 (Int.tmod (IntKind.u64.wrap (a2)) 2305843009213693952))).bind fun t172 => ((clock_Add.f t172 (wrap64 (-(wrap64 (Int.tmod (IntKind.u64.wrap (a2)) 2305843009213693952))))).bind fun t173 => (if t173 = (wrap64 (Int.tmod (IntKind.u64.wrap (a0)) 2305843009213693952)) then ((clock_Add.f (wrap64 (Int.tmod (IntKind.u64.wrap (a0)) 2305843009213693952)) 0).bind fun t174 => (if t174 = (wrap64 (Int.tmod (IntKind.u64.wrap (a0)) 2305843009213693952)) then ((belvederelaw05_sure.f k).bind fun t175 => (some t175)) else (none))) else (none)))) else (none)) else (none)) else (none)))) = some r := by rw [if_neg (show ¬ (some q152).isNone = true by simp)] at H; exact H
    clear H
    have H := H1
    clear H1
    try simp only [errW_none, errW_some]
    replace H := Option.bind_eq_some_iff.mp H
    obtain ⟨⟨t166, t167⟩, A290, H⟩ := H
    replace H : ((clock_Parse.f t166).bind fun bt168 => (if t167.isNone = true then (if bt168.2.isNone = true then (if bt168.1 = (wrap64 (Int.tmod (IntKind.u64.wrap (a2)) 86401)) then ((clock_Add.f (wrap64 (Int.tmod (IntKind.u64.wrap (a0)) 2305843009213693952)) (wrap64 (Int.tmod (IntKind.u64.wrap (a2)) 2305843009213693952))).bind fun t172 => ((clock_Add.f t172 (wrap64 (-(wrap64 (Int.tmod (IntKind.u64.wrap (a2)) 2305843009213693952))))).bind fun t173 => (if t173 = (wrap64 (Int.tmod (IntKind.u64.wrap (a0)) 2305843009213693952)) then ((clock_Add.f (wrap64 (Int.tmod (IntKind.u64.wrap (a0)) 2305843009213693952)) 0).bind fun t174 => (if t174 = (wrap64 (Int.tmod (IntKind.u64.wrap (a0)) 2305843009213693952)) then ((belvederelaw05_sure.f k).bind fun t175 => (some t175)) else (none))) else (none)))) else (none)) else (none)) else (none))) = some r := H
    have A29 := Aside0.mk A290
    clear A290
    replace H := Option.bind_eq_some_iff.mp H
    obtain ⟨⟨t168, t169⟩, A300, H⟩ := H
    replace H : (if t167.isNone = true then (if t169.isNone = true then (if t168 = (wrap64 (Int.tmod (IntKind.u64.wrap (a2)) 86401)) then ((clock_Add.f (wrap64 (Int.tmod (IntKind.u64.wrap (a0)) 2305843009213693952)) (wrap64 (Int.tmod (IntKind.u64.wrap (a2)) 2305843009213693952))).bind fun t172 => ((clock_Add.f t172 (wrap64 (-(wrap64 (Int.tmod (IntKind.u64.wrap (a2)) 2305843009213693952))))).bind fun t173 => (if t173 = (wrap64 (Int.tmod (IntKind.u64.wrap (a0)) 2305843009213693952)) then ((clock_Add.f (wrap64 (Int.tmod (IntKind.u64.wrap (a0)) 2305843009213693952)) 0).bind fun t174 => (if t174 = (wrap64 (Int.tmod (IntKind.u64.wrap (a0)) 2305843009213693952)) then ((belvederelaw05_sure.f k).bind fun t175 => (some t175)) else (none))) else (none)))) else (none)) else (none)) else (none)) = some r := H
    have A30 := Aside0.mk A300
    clear A300
    rcases t167 with _ | q170
    · have H1 : (if t169.isNone = true then (if t168 = (wrap64 (Int.tmod (IntKind.u64.wrap (a2)) 86401)) then ((clock_Add.f (wrap64 (Int.tmod (IntKind.u64.wrap (a0)) 2305843009213693952)) (wrap64 (Int.tmod (IntKind.u64.wrap (a2)) 2305843009213693952))).bind fun t172 => ((clock_Add.f t172 (wrap64 (-(wrap64 (Int.tmod (IntKind.u64.wrap (a2)) 2305843009213693952))))).bind fun t173 => (if t173 = (wrap64 (Int.tmod (IntKind.u64.wrap (a0)) 2305843009213693952)) then ((clock_Add.f (wrap64 (Int.tmod (IntKind.u64.wrap (a0)) 2305843009213693952)) 0).bind fun t174 => (if t174 = (wrap64 (Int.tmod (IntKind.u64.wrap (a0)) 2305843009213693952)) then ((belvederelaw05_sure.f k).bind fun t175 => (some t175)) else (none))) else (none)))) else (none)) else (none)) = some r := by rw [if_pos (show (none : Option Int).isNone = true by rfl)] at H; exact H
      clear H
      have H := H1
      clear H1
      try simp only [errW_none, errW_some]
      rcases t169 with _ | q171
      · have H1 : (if t168 = (wrap64 (Int.tmod (IntKind.u64.wrap (a2)) 86401)) then ((clock_Add.f (wrap64 (Int.tmod (IntKind.u64.wrap (a0)) 2305843009213693952)) (wrap64 (Int.tmod (IntKind.u64.wrap (a2)) 2305843009213693952))).bind fun t172 => ((clock_Add.f t172 (wrap64 (-(wrap64 (Int.tmod (IntKind.u64.wrap (a2)) 2305843009213693952))))).bind fun t173 => (if t173 = (wrap64 (Int.tmod (IntKind.u64.wrap (a0)) 2305843009213693952)) then ((clock_Add.f (wrap64 (Int.tmod (IntKind.u64.wrap (a0)) 2305843009213693952)) 0).bind fun t174 => (if t174 = (wrap64 (Int.tmod (IntKind.u64.wrap (a0)) 2305843009213693952)) then ((belvederelaw05_sure.f k).bind fun t175 => (some t175)) else (none))) else (none)))) else (none)) = some r := by rw [if_pos (show (none : Option Int).isNone = true by rfl)] at H; exact H
        clear H
        have H := H1
        clear H1
        try simp only [errW_none, errW_some]
        by_cases c31 : t168 = (wrap64 (Int.tmod (IntKind.u64.wrap (a2)) 86401))
        · rw [if_pos c31] at H
          have c31b0 : (t168 == (wrap64 (Int.tmod (IntKind.u64.wrap (a2)) 86401))) = true := beq_iff_eq.mpr c31
          have c31b1 : (t168 != (wrap64 (Int.tmod (IntKind.u64.wrap (a2)) 86401))) = false := bne_eq_false_iff_eq.mpr c31
          clear c31
          replace H := Option.bind_eq_some_iff.mp H
          obtain ⟨t172, A320, H⟩ := H
          replace H : ((clock_Add.f t172 (wrap64 (-(wrap64 (Int.tmod (IntKind.u64.wrap (a2)) 2305843009213693952))))).bind fun t173 => (if t173 = (wrap64 (Int.tmod (IntKind.u64.wrap (a0)) 2305843009213693952)) then ((clock_Add.f (wrap64 (Int.tmod (IntKind.u64.wrap (a0)) 2305843009213693952)) 0).bind fun t174 => (if t174 = (wrap64 (Int.tmod (IntKind.u64.wrap (a0)) 2305843009213693952)) then ((belvederelaw05_sure.f k).bind fun t175 => (some t175)) else (none))) else (none))) = some r := H
          have A32 := Aside0.mk A320
          clear A320
          replace H := Option.bind_eq_some_iff.mp H
          obtain ⟨t173, A330, H⟩ := H
          replace H : (if t173 = (wrap64 (Int.tmod (IntKind.u64.wrap (a0)) 2305843009213693952)) then ((clock_Add.f (wrap64 (Int.tmod (IntKind.u64.wrap (a0)) 2305843009213693952)) 0).bind fun t174 => (if t174 = (wrap64 (Int.tmod (IntKind.u64.wrap (a0)) 2305843009213693952)) then ((belvederelaw05_sure.f k).bind fun t175 => (some t175)) else (none))) else (none)) = some r := H
          have A33 := Aside0.mk A330
          clear A330
          by_cases c34 : t173 = (wrap64 (Int.tmod (IntKind.u64.wrap (a0)) 2305843009213693952))
          · rw [if_pos c34] at H
            have c34b0 : (t173 == (wrap64 (Int.tmod (IntKind.u64.wrap (a0)) 2305843009213693952))) = true := beq_iff_eq.mpr c34
            have c34b1 : (t173 != (wrap64 (Int.tmod (IntKind.u64.wrap (a0)) 2305843009213693952))) = false := bne_eq_false_iff_eq.mpr c34
            clear c34
            replace H := Option.bind_eq_some_iff.mp H
            obtain ⟨t174, A350, H⟩ := H
            replace H : (if t174 = (wrap64 (Int.tmod (IntKind.u64.wrap (a0)) 2305843009213693952)) then ((belvederelaw05_sure.f k).bind fun t175 => (some t175)) else (none)) = some r := H
            have A35 := Aside0.mk A350
            clear A350
            by_cases c36 : t174 = (wrap64 (Int.tmod (IntKind.u64.wrap (a0)) 2305843009213693952))
            · rw [if_pos c36] at H
              have c36b0 : (t174 == (wrap64 (Int.tmod (IntKind.u64.wrap (a0)) 2305843009213693952))) = true := beq_iff_eq.mpr c36
              have c36b1 : (t174 != (wrap64 (Int.tmod (IntKind.u64.wrap (a0)) 2305843009213693952))) = false := bne_eq_false_iff_eq.mpr c36
              clear c36
              replace H := Option.bind_eq_some_iff.mp H
              obtain ⟨t175, A370, H⟩ := H
              replace H : (some t175) = some r := H
              have A37 := Aside0.mk A370
              clear A370
              obtain rfl := Option.some.inj H
              go_enter Tryd.func7, Tryd.ntmps7
              go_wp2_with (first | ((with_reducible refine gate_callee (f := 9) rfl ?_); refine goesL_ (some 21) rfl rfl Tryd.func9 (by kernel_rfl) rfl #[.int .i64 a0, .int .i64 a1] rfl (by (try simp only [List.map_toArray, List.map_cons, List.map_nil]); first | done | rfl | (simp only [List.length_drop, List.length_take]; rfl)) ?_; (with_reducible refine (clock_Split.calls a0 a1 t148 t149 (some q152) _ A4.out).mono ?_); rintro e w38 ⟨rfl, hb⟩; refine ⟨_, rfl, ?_⟩; have n0_ := Aside0.mk (below_step (by repeat (first | (with_reducible first | exact HB.out | apply below_alloc | apply pw_below_drewN | apply below_drew1) | exact HB.out)) hb); clear HB; have HB := n0_; clear n0_; (try clear hb); (try clear hb2); (try clear hk); (try clear hi); (try simp only [errW_none, errW_some])) | ((with_reducible refine gate_dst (N := 7) rfl ?_); refine box_event ?hg (N := 7) ?hd (cs := #[.int .i64 0, .int .i64 0]) (t := 24) ?hr ?_; (case hd => rfl); (case hg => rfl); (case hr => first | (go_simp; done) | (go_simp; rfl)); intro gb151 hg w39 hbox hb; have n0_ := Aside0.mk (below_step (by repeat (first | (with_reducible first | exact HB.out | apply below_alloc | apply pw_below_drewN | apply below_drew1) | exact HB.out)) hb); have n1_ := Aside0.mk (hbox); have n2_ := Aside0.mk ((by rw [hg]; exact (below_size (by repeat (first | (with_reducible first | exact HB.out | apply below_alloc | apply pw_below_drewN | apply below_drew1) | exact HB.out))) : w.heap.size ≤ gb151)); have n3_ := Aside0.mk ((by rw [hg]; exact (below_size (by repeat (first | (with_reducible first | exact HB.out | apply below_alloc | apply pw_below_drewN | apply below_drew1) | exact HB.out))) : w.heap.size ≤ gb151)); clear HB; have HB := n0_; have BK151 := n1_; have GW151 := n2_; have GE151 := n3_; clear n0_ n1_ n2_ n3_; clear hb hbox hg; have hcz40_0 : w39.cell? ⟨gb151, 0, none⟩ = some (.int .i64 0) := (blk_cell BK151.out 0).trans rfl; have hcz40_1 : w39.cell? ⟨gb151, 1, none⟩ = some (.int .i64 0) := (blk_cell BK151.out 1).trans rfl; have hfz40_0 := blk_frozen BK151.out 0; have hfz40_1 := blk_frozen BK151.out 1) | ((with_reducible refine gate_callee (f := 19) rfl ?_); refine goesL_ (some 55) rfl rfl Tryd.func19 (by kernel_rfl) rfl #[.int .i64 (wrap64 (Int.tmod (IntKind.u64.wrap (a2)) 86401))] rfl (by (try simp only [List.map_toArray, List.map_cons, List.map_nil]); first | done | rfl | (simp only [List.length_drop, List.length_take]; rfl)) ?_; (with_reducible refine (clock_Hours.calls k (wrap64 (Int.tmod (IntKind.u64.wrap (a2)) 86401)) t166 none _ A29.out ?side1).mono ?_); (case side1 => first | exact hG | exact GB.below hG (by repeat (first | (with_reducible first | exact HB.out | apply below_alloc | apply pw_below_drewN | apply below_drew1 | refine below_set ?_ GE151.out) | exact HB.out)) | (repeat (first | exact hG | apply GB.drewN | apply GB.drew | apply GB.alloc))); rintro e w41 ⟨rfl, hb⟩; refine ⟨_, rfl, ?_⟩; have n0_ := Aside0.mk (blk_below (g := gb151) (o := .cells #[.int .i64 t148, .int .i64 t149] 24 (0, 0)) (by (with_reducible repeat (first | refine blk_drewN ?_ _ | refine blk_drew ?_ | refine blk_alloc ?_ _)); refine blk_put (cs := #[.int .i64 t148, .int .i64 0]) ?_ 1 _ rfl; (with_reducible repeat (first | refine blk_drewN ?_ _ | refine blk_drew ?_ | refine blk_alloc ?_ _)); refine blk_put (cs := #[.int .i64 0, .int .i64 0]) ?_ 0 _ rfl; (with_reducible repeat (first | refine blk_drewN ?_ _ | refine blk_drew ?_ | refine blk_alloc ?_ _)); exact BK151.out) hb); have n1_ := Aside0.mk (below_step (by repeat (first | (with_reducible first | exact HB.out | apply below_alloc | apply pw_below_drewN | apply below_drew1 | refine below_set ?_ GE151.out) | exact HB.out)) hb); clear BK151; clear HB; have BK151 := n0_; have HB := n1_; clear n0_ n1_; (try clear hb); (try clear hb2); (try clear hk); (try clear hi); (try simp only [errW_none, errW_some])) | ((with_reducible refine gate_callee (f := 20) rfl ?_); refine goesL_ (some 60) rfl rfl Tryd.func20 (by kernel_rfl) rfl #[.string t166] rfl (by (try simp only [List.map_toArray, List.map_cons, List.map_nil]); first | done | rfl | (simp only [List.length_drop, List.length_take]; rfl)) ?_; (with_reducible refine (clock_Parse.calls t166 t168 none _ A30.out ?side1).mono ?_); (case side1 => first | exact hG | exact GB.below hG (by repeat (first | (with_reducible first | exact HB.out | apply below_alloc | apply pw_below_drewN | apply below_drew1 | refine below_set ?_ GE151.out) | exact HB.out)) | (repeat (first | exact hG | apply GB.drewN | apply GB.drew | apply GB.alloc))); rintro e w42 ⟨rfl, hb⟩; refine ⟨_, rfl, ?_⟩; have n0_ := Aside0.mk (blk_below (g := gb151) (o := .cells #[.int .i64 t148, .int .i64 t149] 24 (0, 0)) (by (with_reducible repeat (first | refine blk_drewN ?_ _ | refine blk_drew ?_ | refine blk_alloc ?_ _)); exact BK151.out) hb); have n1_ := Aside0.mk (below_step (by repeat (first | (with_reducible first | exact HB.out | apply below_alloc | apply pw_below_drewN | apply below_drew1 | refine below_set ?_ GE151.out) | exact HB.out)) hb); clear BK151; clear HB; have BK151 := n0_; have HB := n1_; clear n0_ n1_; (try clear hb); (try clear hb2); (try clear hk); (try clear hi); (try simp only [errW_none, errW_some])) | ((with_reducible refine gate_callee (f := 11) rfl ?_); refine goesL_ (some 84) rfl rfl Tryd.func11 (by kernel_rfl) rfl #[.int .i64 (wrap64 (Int.tmod (IntKind.u64.wrap (a0)) 2305843009213693952)), .int .i64 (wrap64 (Int.tmod (IntKind.u64.wrap (a2)) 2305843009213693952))] rfl (by (try simp only [List.map_toArray, List.map_cons, List.map_nil]); first | done | rfl | (simp only [List.length_drop, List.length_take]; rfl)) ?_; (with_reducible refine (clock_Add.calls (wrap64 (Int.tmod (IntKind.u64.wrap (a0)) 2305843009213693952)) (wrap64 (Int.tmod (IntKind.u64.wrap (a2)) 2305843009213693952)) t172 _ A32.out).mono ?_); rintro e w43 ⟨rfl, hb⟩; refine ⟨_, rfl, ?_⟩; have n0_ := Aside0.mk (blk_below (g := gb151) (o := .cells #[.int .i64 t148, .int .i64 t149] 24 (0, 0)) (by (with_reducible repeat (first | refine blk_drewN ?_ _ | refine blk_drew ?_ | refine blk_alloc ?_ _)); exact BK151.out) hb); have n1_ := Aside0.mk (below_step (by repeat (first | (with_reducible first | exact HB.out | apply below_alloc | apply pw_below_drewN | apply below_drew1 | refine below_set ?_ GE151.out) | exact HB.out)) hb); clear BK151; clear HB; have BK151 := n0_; have HB := n1_; clear n0_ n1_; (try clear hb); (try clear hb2); (try clear hk); (try clear hi)) | ((with_reducible refine gate_callee (f := 11) rfl ?_); refine goesL_ (some 87) rfl rfl Tryd.func11 (by kernel_rfl) rfl #[.int .i64 t172, .int .i64 (wrap64 (-(wrap64 (Int.tmod (IntKind.u64.wrap (a2)) 2305843009213693952))))] rfl (by (try simp only [List.map_toArray, List.map_cons, List.map_nil]); first | done | rfl | (simp only [List.length_drop, List.length_take]; rfl)) ?_; (with_reducible refine (clock_Add.calls t172 (wrap64 (-(wrap64 (Int.tmod (IntKind.u64.wrap (a2)) 2305843009213693952)))) t173 _ A33.out).mono ?_); rintro e w44 ⟨rfl, hb⟩; refine ⟨_, rfl, ?_⟩; have n0_ := Aside0.mk (blk_below (g := gb151) (o := .cells #[.int .i64 t148, .int .i64 t149] 24 (0, 0)) (by (with_reducible repeat (first | refine blk_drewN ?_ _ | refine blk_drew ?_ | refine blk_alloc ?_ _)); exact BK151.out) hb); have n1_ := Aside0.mk (below_step (by repeat (first | (with_reducible first | exact HB.out | apply below_alloc | apply pw_below_drewN | apply below_drew1 | refine below_set ?_ GE151.out) | exact HB.out)) hb); clear BK151; clear HB; have BK151 := n0_; have HB := n1_; clear n0_ n1_; (try clear hb); (try clear hb2); (try clear hk); (try clear hi)) | (go_at_call 11; (with_reducible refine (clock_Add.calls (wrap64 (Int.tmod (IntKind.u64.wrap (a0)) 2305843009213693952)) 0 t174 _ A35.out).mono ?_); rintro e w45 ⟨rfl, hb⟩; have n0_ := Aside0.mk (blk_below (g := gb151) (o := .cells #[.int .i64 t148, .int .i64 t149] 24 (0, 0)) (by (with_reducible repeat (first | refine blk_drewN ?_ _ | refine blk_drew ?_ | refine blk_alloc ?_ _)); exact BK151.out) hb); have n1_ := Aside0.mk (below_step (by repeat (first | (with_reducible first | exact HB.out | apply below_alloc | apply pw_below_drewN | apply below_drew1 | refine below_set ?_ GE151.out) | exact HB.out)) hb); clear BK151; clear HB; have BK151 := n0_; have HB := n1_; clear n0_ n1_; (try clear hb); (try clear hb2); (try clear hk); (try clear hi)) | (go_at_call 10; (with_reducible refine (belvederelaw05_sure.calls k  t175 _ A37.out ?side1).mono ?_); (case side1 => first | exact hG | exact GB.below hG (by repeat (first | (with_reducible first | exact HB.out | apply below_alloc | apply pw_below_drewN | apply below_drew1 | refine below_set ?_ GE151.out) | exact HB.out)) | (repeat (first | exact hG | apply GB.drewN | apply GB.drew | apply GB.alloc))); rintro e w46 ⟨rfl, hb⟩; have n0_ := Aside0.mk (blk_below (g := gb151) (o := .cells #[.int .i64 t148, .int .i64 t149] 24 (0, 0)) (by (with_reducible repeat (first | refine blk_drewN ?_ _ | refine blk_drew ?_ | refine blk_alloc ?_ _)); exact BK151.out) hb); have n1_ := Aside0.mk (below_step (by repeat (first | (with_reducible first | exact HB.out | apply below_alloc | apply pw_below_drewN | apply below_drew1 | refine below_set ?_ GE151.out) | exact HB.out)) hb); clear BK151; clear HB; have BK151 := n0_; have HB := n1_; clear n0_ n1_; (try clear hb); (try clear hb2); (try clear hk); (try clear hi)))
              go_ret
              exact ⟨by first | rfl | (simp [errW_none, errW_some] <;> rfl) | (simp [*, errW_none, errW_some] <;> rfl), by repeat (first | (with_reducible first | exact HB.out | apply below_alloc | apply pw_below_drewN | apply below_drew1 | refine below_set ?_ GE151.out) | exact HB.out)⟩
            · rw [if_neg c36] at H
              exact absurd H (by simp)
          · rw [if_neg c34] at H
            exact absurd H (by simp)
        · rw [if_neg c31] at H
          exact absurd H (by simp)
      · have H1 : (none) = some r := by rw [if_neg (show ¬ (some q171).isNone = true by simp)] at H; exact H
        clear H
        have H := H1
        clear H1
        try simp only [errW_none, errW_some]
        exact absurd H (by simp)
    · have H1 : (none) = some r := by rw [if_neg (show ¬ (some q170).isNone = true by simp)] at H; exact H
      clear H
      have H := H1
      clear H1
      try simp only [errW_none, errW_some]
      exact absurd H (by simp)

/-- THE ONE PURE STATEMENT of belvederelaw05_ClockBack: yours. -/
def belvederelaw05_ClockBack.Pure : Prop := ∀ (a0 : Int) (a1 : Int) (a2 : Int), (Lit.int .i64 a0).wf = true → (Lit.int .i64 a1).wf = true → (Lit.int .i64 a2).wf = true → ∃ k, belvederelaw05_ClockBack.f k a0 a1 a2 = some true
theorem belvederelaw05_ClockBack.walk (P : belvederelaw05_ClockBack.Pure) (a0 : Int) (a1 : Int) (a2 : Int) (w : World) (w0 : (Lit.int .i64 a0).wf = true) (w1 : (Lit.int .i64 a1).wf = true) (w2 : (Lit.int .i64 a2).wf = true) (hG : GB w) :
    Calls Tryd.prog 7 #[.int .i64 a0, .int .i64 a1, .int .i64 a2] w fun e w' => e = .returned (.bool true) ∧ Below w.heap.size w w' := by
  obtain ⟨k, h⟩ := P a0 a1 a2 w0 w1 w2
  refine (belvederelaw05_ClockBack.calls k a0 a1 a2 true w h hG).mono ?_
  rintro e w' ⟨rfl, hd⟩
  exact ⟨rfl, hd⟩

end Go.Proofs.YtegiikkbeknodaaDoor.B
