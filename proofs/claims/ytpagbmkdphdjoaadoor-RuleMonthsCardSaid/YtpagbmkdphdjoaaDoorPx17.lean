-- written by myprint.py (this claim's own program, after the kit's print)
import Derived.Test.YtpagbmkdphdjoaaDoorPx0
import Derived.Test.YtpagbmkdphdjoaaDoorPx3
import Derived.Test.YtpagbmkdphdjoaaDoorPx6
import Derived.Test.YtpagbmkdphdjoaaDoorPx16
import Derived.Test.YtpagbmkdphdjoaaDoorPClOf
namespace Go.Proofs.YtpagbmkdphdjoaaDoor.P
open Go.RowKit Go.Proofs.YtpagbmkdphdjoaaDoorW.PrintWords Go.Proofs.YtpagbmkdphdjoaaDoorW.PrintLast Go.Proofs.YtpagbmkdphdjoaaDoorW.PrintMore
attribute [local go_sem] max2_int min2_int max_two min_two max_three min_three max_four min_four   -- for this text's walks alone
set_option linter.unusedVariables false
set_option linter.unusedSimpArgs false

/-! ### belvederelaw06_RuleMonths: function 3 -/
mutual
def belvederelaw06_RuleMonths.l0 : Nat → Int → Int → Int → Int → Int → Int → Int → Int → Option (Bool)
  | 0, _, _, _, _, _, _, _, _ => none
  | k + 1, x6, x9, x11, x12, x13, x248000, x248001, x248002 => if x13 ≤ 31 then (belvederelaw06_RuleMonths.l1 k x6 x9 x11 x12 x13 0 0 0 x248000 x248001 x248002) else (belvederelaw06_RuleMonths.l2 k x6 x9 x11 x12 (-1) 1)
def belvederelaw06_RuleMonths.l1 : Nat → Int → Int → Int → Int → Int → Int → Int → Int → Int → Int → Int → Option (Bool)
  | 0, _, _, _, _, _, _, _, _, _, _, _ => none
  | k + 1, x6, x9, x11, x12, x13, x14, x15, x16, x248000, x248001, x248002 => if x16 < x9 then ((rule_Match.f k 1 0 x13 0 0 0 0 0 0 0 (wrap64 (x11 + x16))).bind fun bt252 => ((rule_Match.f k 1 x248001 (wrap64 (-x13)) 0 0 0 0 0 0 0 (wrap64 (x11 + x16))).bind fun bt254 => (if bt252.2.isNone = true then (if bt254.2.isNone = true then (if (bt252.1 != (x16 == (wrap64 (x13 - 1)))) = true then (none) else (if (bt254.1 != (x16 == (wrap64 (x9 - x13)))) = true then (none) else (if bt252.1 = true then (belvederelaw06_RuleMonths.j2 k x6 x9 x11 x12 x13 (wrap64 (x14 + 1)) x15 x16 bt254.1 x248000 x248001 x248002) else (belvederelaw06_RuleMonths.j2 k x6 x9 x11 x12 x13 x14 x15 x16 bt254.1 x248000 x248001 x248002)))) else (none)) else (none)))) else (if x14 = x15 then (if ((x14 == 1) != (decide (x13 ≤ x9))) = true then (none) else (belvederelaw06_RuleMonths.l0 k x6 x9 x11 x12 (wrap64 (x13 + 1)) x248000 x248001 x248002)) else (none))
def belvederelaw06_RuleMonths.j2 : Nat → Int → Int → Int → Int → Int → Int → Int → Int → Bool → Int → Int → Int → Option (Bool)
  | 0, _, _, _, _, _, _, _, _, _, _, _, _ => none
  | k + 1, x6, x9, x11, x12, x13, x14, x15, x16, x19, x248000, x248001, x248002 => if x19 = true then (belvederelaw06_RuleMonths.l1 k x6 x9 x11 x12 x13 x14 (wrap64 (x15 + 1)) (wrap64 (x16 + 1)) x248000 x248001 x248002) else (belvederelaw06_RuleMonths.l1 k x6 x9 x11 x12 x13 x14 x15 (wrap64 (x16 + 1)) x248000 x248001 x248002)
def belvederelaw06_RuleMonths.l2 : Nat → Int → Int → Int → Int → Int → Int → Option (Bool)
  | 0, _, _, _, _, _, _ => none
  | k + 1, x6, x9, x11, x12, x21, x22 => if x22 ≤ 5 then (belvederelaw06_RuleMonths.l3 k x6 x9 x11 x12 x21 x22 0) else (if x12 = 4 then (if (wrap64 (x21 + 7)) ≥ x9 then ((belvederelaw06_sure.f k).bind fun t258 => (some t258)) else (none)) else (if x12 = 5 then (if (wrap64 (x21 + 7)) ≥ x9 then ((belvederelaw06_sure.f k).bind fun t259 => (some t259)) else (none)) else (none)))
def belvederelaw06_RuleMonths.l3 : Nat → Int → Int → Int → Int → Int → Int → Int → Option (Bool)
  | 0, _, _, _, _, _, _, _ => none
  | k + 1, x6, x9, x11, x12, x21, x22, x23 => if x23 < x9 then ((rule_Match.f k 2 0 x22 x6 0 0 0 0 0 0 (wrap64 (x11 + x23))).bind fun bt260 => (if bt260.2.isNone = true then (if bt260.1 = true then ((civil_Weekday.f (wrap64 (x11 + x23))).bind fun t263 => (if t263 = x6 then (if x21 ≥ 0 then (if x23 = (wrap64 (x21 + 7)) then (if x21 < 0 then (if x23 > 6 then (none) else (belvederelaw06_RuleMonths.l3 k x6 x9 x11 (wrap64 (x12 + 1)) x23 x22 (wrap64 (x23 + 1)))) else (belvederelaw06_RuleMonths.l3 k x6 x9 x11 (wrap64 (x12 + 1)) x23 x22 (wrap64 (x23 + 1)))) else (none)) else (if x21 < 0 then (if x23 > 6 then (none) else (belvederelaw06_RuleMonths.l3 k x6 x9 x11 (wrap64 (x12 + 1)) x23 x22 (wrap64 (x23 + 1)))) else (belvederelaw06_RuleMonths.l3 k x6 x9 x11 (wrap64 (x12 + 1)) x23 x22 (wrap64 (x23 + 1))))) else (none))) else (belvederelaw06_RuleMonths.l3 k x6 x9 x11 x12 x21 x22 (wrap64 (x23 + 1)))) else (none))) else (belvederelaw06_RuleMonths.l2 k x6 x9 x11 x12 x21 (wrap64 (x22 + 1)))
end
def belvederelaw06_RuleMonths.f (k : Nat) (a0 : Int) (a1 : Int) : Option (Bool) := (civil_Of.f (wrap64 (Int.tmod (IntKind.u64.wrap (a0)) 3000000))).bind fun bt243 => ((civil_Length.f k bt243.1 bt243.2.1).bind fun bt248 => (if bt243.2.2.2.isNone = true then (if bt248.2.isNone = true then (if bt243.2.2.1 < 1 then (none) else (if bt248.1 < 28 then (none) else (belvederelaw06_RuleMonths.l0 k (wrap64 (Int.tmod (IntKind.u64.wrap (a1)) 7)) bt248.1 (wrap64 ((wrap64 ((wrap64 (Int.tmod (IntKind.u64.wrap (a0)) 3000000)) - bt243.2.2.1)) + 1)) 0 1 bt243.1 bt243.2.1 bt243.2.2.1))) else (none)) else (none)))
theorem belvederelaw06_RuleMonths.mono_l : ∀ k, (∀ y0 y1 y2 y3 y4 y5 y6 y7, LeO (belvederelaw06_RuleMonths.l0 k y0 y1 y2 y3 y4 y5 y6 y7) (belvederelaw06_RuleMonths.l0 (k + 1) y0 y1 y2 y3 y4 y5 y6 y7)) ∧ (∀ y0 y1 y2 y3 y4 y5 y6 y7 y8 y9 y10, LeO (belvederelaw06_RuleMonths.l1 k y0 y1 y2 y3 y4 y5 y6 y7 y8 y9 y10) (belvederelaw06_RuleMonths.l1 (k + 1) y0 y1 y2 y3 y4 y5 y6 y7 y8 y9 y10)) ∧ (∀ y0 y1 y2 y3 y4 y5 y6 y7 y8 y9 y10 y11, LeO (belvederelaw06_RuleMonths.j2 k y0 y1 y2 y3 y4 y5 y6 y7 y8 y9 y10 y11) (belvederelaw06_RuleMonths.j2 (k + 1) y0 y1 y2 y3 y4 y5 y6 y7 y8 y9 y10 y11)) ∧ (∀ y0 y1 y2 y3 y4 y5, LeO (belvederelaw06_RuleMonths.l2 k y0 y1 y2 y3 y4 y5) (belvederelaw06_RuleMonths.l2 (k + 1) y0 y1 y2 y3 y4 y5)) ∧ (∀ y0 y1 y2 y3 y4 y5 y6, LeO (belvederelaw06_RuleMonths.l3 k y0 y1 y2 y3 y4 y5 y6) (belvederelaw06_RuleMonths.l3 (k + 1) y0 y1 y2 y3 y4 y5 y6))
  | 0 => ⟨fun _ _ _ _ _ _ _ _ r h => by simp [belvederelaw06_RuleMonths.l0] at h, fun _ _ _ _ _ _ _ _ _ _ _ r h => by simp [belvederelaw06_RuleMonths.l1] at h, fun _ _ _ _ _ _ _ _ _ _ _ _ r h => by simp [belvederelaw06_RuleMonths.j2] at h, fun _ _ _ _ _ _ r h => by simp [belvederelaw06_RuleMonths.l2] at h, fun _ _ _ _ _ _ _ r h => by simp [belvederelaw06_RuleMonths.l3] at h⟩
  | k + 1 => by
    obtain ⟨ih0, ih1, ih2, ih3, ih4⟩ := belvederelaw06_RuleMonths.mono_l k
    refine ⟨?_, ?_, ?_, ?_, ?_⟩
    · intro y0 y1 y2 y3 y4 y5 y6 y7
      unfold belvederelaw06_RuleMonths.l0
      repeat' first
      | (with_reducible exact ih0 _ _ _ _ _ _ _ _)
      | (with_reducible exact ih1 _ _ _ _ _ _ _ _ _ _ _)
      | (with_reducible exact ih2 _ _ _ _ _ _ _ _ _ _ _ _)
      | (with_reducible exact ih3 _ _ _ _ _ _)
      | (with_reducible exact ih4 _ _ _ _ _ _ _)
      | (with_reducible exact belvederelaw06_sure.mono _)
      | (with_reducible exact civil_Length.mono _ _ _)
      | (with_reducible exact rule_Match.mono _ _ _ _ _ _ _ _ _ _ _ _)
      | (with_reducible exact LeO.refl _)
      | (with_reducible exact LeO.none _)
      | (with_reducible refine LeO.ite ?_ ?_)
      | (with_reducible refine LeO.bind ?_ (fun _ => ?_))
      | exact ih0 _ _ _ _ _ _ _ _
      | exact ih1 _ _ _ _ _ _ _ _ _ _ _
      | exact ih2 _ _ _ _ _ _ _ _ _ _ _ _
      | exact ih3 _ _ _ _ _ _
      | exact ih4 _ _ _ _ _ _ _
      | exact belvederelaw06_sure.mono _
      | exact civil_Length.mono _ _ _
      | exact rule_Match.mono _ _ _ _ _ _ _ _ _ _ _ _
      | exact LeO.none _
      | refine LeO.ite ?_ ?_
      | refine LeO.bind ?_ (fun _ => ?_)
    · intro y0 y1 y2 y3 y4 y5 y6 y7 y8 y9 y10
      unfold belvederelaw06_RuleMonths.l1
      repeat' first
      | (with_reducible exact ih0 _ _ _ _ _ _ _ _)
      | (with_reducible exact ih1 _ _ _ _ _ _ _ _ _ _ _)
      | (with_reducible exact ih2 _ _ _ _ _ _ _ _ _ _ _ _)
      | (with_reducible exact ih3 _ _ _ _ _ _)
      | (with_reducible exact ih4 _ _ _ _ _ _ _)
      | (with_reducible exact belvederelaw06_sure.mono _)
      | (with_reducible exact civil_Length.mono _ _ _)
      | (with_reducible exact rule_Match.mono _ _ _ _ _ _ _ _ _ _ _ _)
      | (with_reducible exact LeO.refl _)
      | (with_reducible exact LeO.none _)
      | (with_reducible refine LeO.ite ?_ ?_)
      | (with_reducible refine LeO.bind ?_ (fun _ => ?_))
      | exact ih0 _ _ _ _ _ _ _ _
      | exact ih1 _ _ _ _ _ _ _ _ _ _ _
      | exact ih2 _ _ _ _ _ _ _ _ _ _ _ _
      | exact ih3 _ _ _ _ _ _
      | exact ih4 _ _ _ _ _ _ _
      | exact belvederelaw06_sure.mono _
      | exact civil_Length.mono _ _ _
      | exact rule_Match.mono _ _ _ _ _ _ _ _ _ _ _ _
      | exact LeO.none _
      | refine LeO.ite ?_ ?_
      | refine LeO.bind ?_ (fun _ => ?_)
    · intro y0 y1 y2 y3 y4 y5 y6 y7 y8 y9 y10 y11
      unfold belvederelaw06_RuleMonths.j2
      repeat' first
      | (with_reducible exact ih0 _ _ _ _ _ _ _ _)
      | (with_reducible exact ih1 _ _ _ _ _ _ _ _ _ _ _)
      | (with_reducible exact ih2 _ _ _ _ _ _ _ _ _ _ _ _)
      | (with_reducible exact ih3 _ _ _ _ _ _)
      | (with_reducible exact ih4 _ _ _ _ _ _ _)
      | (with_reducible exact belvederelaw06_sure.mono _)
      | (with_reducible exact civil_Length.mono _ _ _)
      | (with_reducible exact rule_Match.mono _ _ _ _ _ _ _ _ _ _ _ _)
      | (with_reducible exact LeO.refl _)
      | (with_reducible exact LeO.none _)
      | (with_reducible refine LeO.ite ?_ ?_)
      | (with_reducible refine LeO.bind ?_ (fun _ => ?_))
      | exact ih0 _ _ _ _ _ _ _ _
      | exact ih1 _ _ _ _ _ _ _ _ _ _ _
      | exact ih2 _ _ _ _ _ _ _ _ _ _ _ _
      | exact ih3 _ _ _ _ _ _
      | exact ih4 _ _ _ _ _ _ _
      | exact belvederelaw06_sure.mono _
      | exact civil_Length.mono _ _ _
      | exact rule_Match.mono _ _ _ _ _ _ _ _ _ _ _ _
      | exact LeO.none _
      | refine LeO.ite ?_ ?_
      | refine LeO.bind ?_ (fun _ => ?_)
    · intro y0 y1 y2 y3 y4 y5
      unfold belvederelaw06_RuleMonths.l2
      repeat' first
      | (with_reducible exact ih0 _ _ _ _ _ _ _ _)
      | (with_reducible exact ih1 _ _ _ _ _ _ _ _ _ _ _)
      | (with_reducible exact ih2 _ _ _ _ _ _ _ _ _ _ _ _)
      | (with_reducible exact ih3 _ _ _ _ _ _)
      | (with_reducible exact ih4 _ _ _ _ _ _ _)
      | (with_reducible exact belvederelaw06_sure.mono _)
      | (with_reducible exact civil_Length.mono _ _ _)
      | (with_reducible exact rule_Match.mono _ _ _ _ _ _ _ _ _ _ _ _)
      | (with_reducible exact LeO.refl _)
      | (with_reducible exact LeO.none _)
      | (with_reducible refine LeO.ite ?_ ?_)
      | (with_reducible refine LeO.bind ?_ (fun _ => ?_))
      | exact ih0 _ _ _ _ _ _ _ _
      | exact ih1 _ _ _ _ _ _ _ _ _ _ _
      | exact ih2 _ _ _ _ _ _ _ _ _ _ _ _
      | exact ih3 _ _ _ _ _ _
      | exact ih4 _ _ _ _ _ _ _
      | exact belvederelaw06_sure.mono _
      | exact civil_Length.mono _ _ _
      | exact rule_Match.mono _ _ _ _ _ _ _ _ _ _ _ _
      | exact LeO.none _
      | refine LeO.ite ?_ ?_
      | refine LeO.bind ?_ (fun _ => ?_)
    · intro y0 y1 y2 y3 y4 y5 y6
      unfold belvederelaw06_RuleMonths.l3
      repeat' first
      | (with_reducible exact ih0 _ _ _ _ _ _ _ _)
      | (with_reducible exact ih1 _ _ _ _ _ _ _ _ _ _ _)
      | (with_reducible exact ih2 _ _ _ _ _ _ _ _ _ _ _ _)
      | (with_reducible exact ih3 _ _ _ _ _ _)
      | (with_reducible exact ih4 _ _ _ _ _ _ _)
      | (with_reducible exact belvederelaw06_sure.mono _)
      | (with_reducible exact civil_Length.mono _ _ _)
      | (with_reducible exact rule_Match.mono _ _ _ _ _ _ _ _ _ _ _ _)
      | (with_reducible exact LeO.refl _)
      | (with_reducible exact LeO.none _)
      | (with_reducible refine LeO.ite ?_ ?_)
      | (with_reducible refine LeO.bind ?_ (fun _ => ?_))
      | exact ih0 _ _ _ _ _ _ _ _
      | exact ih1 _ _ _ _ _ _ _ _ _ _ _
      | exact ih2 _ _ _ _ _ _ _ _ _ _ _ _
      | exact ih3 _ _ _ _ _ _
      | exact ih4 _ _ _ _ _ _ _
      | exact belvederelaw06_sure.mono _
      | exact civil_Length.mono _ _ _
      | exact rule_Match.mono _ _ _ _ _ _ _ _ _ _ _ _
      | exact LeO.none _
      | refine LeO.ite ?_ ?_
      | refine LeO.bind ?_ (fun _ => ?_)
theorem belvederelaw06_RuleMonths.mono : ∀ a0 a1 k, LeO (belvederelaw06_RuleMonths.f k a0 a1) (belvederelaw06_RuleMonths.f (k + 1) a0 a1) := by
  intro a0 a1 k
  obtain ⟨ih0, ih1, ih2, ih3, ih4⟩ := belvederelaw06_RuleMonths.mono_l k
  unfold belvederelaw06_RuleMonths.f
  repeat' first
      | (with_reducible exact ih0 _ _ _ _ _ _ _ _)
      | (with_reducible exact ih1 _ _ _ _ _ _ _ _ _ _ _)
      | (with_reducible exact ih2 _ _ _ _ _ _ _ _ _ _ _ _)
      | (with_reducible exact ih3 _ _ _ _ _ _)
      | (with_reducible exact ih4 _ _ _ _ _ _ _)
      | (with_reducible exact belvederelaw06_sure.mono _)
      | (with_reducible exact civil_Length.mono _ _ _)
      | (with_reducible exact rule_Match.mono _ _ _ _ _ _ _ _ _ _ _ _)
      | (with_reducible exact LeO.refl _)
      | (with_reducible exact LeO.none _)
      | (with_reducible refine LeO.ite ?_ ?_)
      | (with_reducible refine LeO.bind ?_ (fun _ => ?_))
      | exact ih0 _ _ _ _ _ _ _ _
      | exact ih1 _ _ _ _ _ _ _ _ _ _ _
      | exact ih2 _ _ _ _ _ _ _ _ _ _ _ _
      | exact ih3 _ _ _ _ _ _
      | exact ih4 _ _ _ _ _ _ _
      | exact belvederelaw06_sure.mono _
      | exact civil_Length.mono _ _ _
      | exact rule_Match.mono _ _ _ _ _ _ _ _ _ _ _ _
      | exact LeO.none _
      | refine LeO.ite ?_ ?_
      | refine LeO.bind ?_ (fun _ => ?_)
set_option maxHeartbeats 8000000 in
set_option maxRecDepth 100000 in
theorem belvederelaw06_RuleMonths.calls (k : Nat) (a0 : Int) (a1 : Int) (r : Bool) (w : World) (h : belvederelaw06_RuleMonths.f k a0 a1 = some r) (hG : GR w) :
    Calls Tryd.prog 3 #[.int .i64 a0, .int .i64 a1] w fun e w' => e = .returned (.bool r) ∧ Below w.heap.size w w' := by
  have hu24 := Tryd.underlying24
  have hu34 := Tryd.underlying34
  have hu26 := Tryd.underlying26
  have hu38 := Tryd.underlying38
  have HB := Aside0.mk (Below.refl w.heap.size w)
  have H : ((civil_Of.f (wrap64 (Int.tmod (IntKind.u64.wrap (a0)) 3000000))).bind fun bt243 => ((civil_Length.f k bt243.1 bt243.2.1).bind fun bt248 => (if bt243.2.2.2.isNone = true then (if bt248.2.isNone = true then (if bt243.2.2.1 < 1 then (none) else (if bt248.1 < 28 then (none) else (belvederelaw06_RuleMonths.l0 k (wrap64 (Int.tmod (IntKind.u64.wrap (a1)) 7)) bt248.1 (wrap64 ((wrap64 ((wrap64 (Int.tmod (IntKind.u64.wrap (a0)) 3000000)) - bt243.2.2.1)) + 1)) 0 1 bt243.1 bt243.2.1 bt243.2.2.1))) else (none)) else (none)))) = some r := h
  clear h
  replace H := Option.bind_eq_some_iff.mp H
  obtain ⟨⟨t243, t244, t245, t246⟩, A30, H⟩ := H
  replace H : ((civil_Length.f k t243 t244).bind fun bt248 => (if t246.isNone = true then (if bt248.2.isNone = true then (if t245 < 1 then (none) else (if bt248.1 < 28 then (none) else (belvederelaw06_RuleMonths.l0 k (wrap64 (Int.tmod (IntKind.u64.wrap (a1)) 7)) bt248.1 (wrap64 ((wrap64 ((wrap64 (Int.tmod (IntKind.u64.wrap (a0)) 3000000)) - t245)) + 1)) 0 1 t243 t244 t245))) else (none)) else (none))) = some r := H
  have A3 := Aside0.mk A30
  clear A30
  replace H := Option.bind_eq_some_iff.mp H
  obtain ⟨⟨t248, t249⟩, A40, H⟩ := H
  replace H : (if t246.isNone = true then (if t249.isNone = true then (if t245 < 1 then (none) else (if t248 < 28 then (none) else (belvederelaw06_RuleMonths.l0 k (wrap64 (Int.tmod (IntKind.u64.wrap (a1)) 7)) t248 (wrap64 ((wrap64 ((wrap64 (Int.tmod (IntKind.u64.wrap (a0)) 3000000)) - t245)) + 1)) 0 1 t243 t244 t245))) else (none)) else (none)) = some r := H
  have A4 := Aside0.mk A40
  clear A40
  rcases t246 with _ | q250
  · have H1 : (if t249.isNone = true then (if t245 < 1 then (none) else (if t248 < 28 then (none) else (belvederelaw06_RuleMonths.l0 k (wrap64 (Int.tmod (IntKind.u64.wrap (a1)) 7)) t248 (wrap64 ((wrap64 ((wrap64 (Int.tmod (IntKind.u64.wrap (a0)) 3000000)) - t245)) + 1)) 0 1 t243 t244 t245))) else (none)) = some r := by rw [if_pos (show (none : Option Int).isNone = true by rfl)] at H; exact H
    clear H
    have H := H1
    clear H1
    try simp only [errW_none, errW_some]
    rcases t249 with _ | q251
    · have H1 : (if t245 < 1 then (none) else (if t248 < 28 then (none) else (belvederelaw06_RuleMonths.l0 k (wrap64 (Int.tmod (IntKind.u64.wrap (a1)) 7)) t248 (wrap64 ((wrap64 ((wrap64 (Int.tmod (IntKind.u64.wrap (a0)) 3000000)) - t245)) + 1)) 0 1 t243 t244 t245))) = some r := by rw [if_pos (show (none : Option Int).isNone = true by rfl)] at H; exact H
      clear H
      have H := H1
      clear H1
      try simp only [errW_none, errW_some]
      by_cases c5 : t245 < 1
      · rw [if_pos c5] at H
        exact absurd H (by simp)
      · rw [if_neg c5] at H
        have c5b0 : decide (t245 < 1) = false := decide_eq_false c5
        clear c5
        by_cases c6 : t248 < 28
        · rw [if_pos c6] at H
          exact absurd H (by simp)
        · rw [if_neg c6] at H
          have c6b0 : decide (t248 < 28) = false := decide_eq_false c6
          clear c6
          have H' := Aside0.mk H
          clear H
          go_enter Tryd.func3, Tryd.ntmps3
          go_wp2_with (first | ((with_reducible refine gate_callee (f := 5) rfl ?_); refine goesL_ (some 36) rfl rfl Tryd.func5 (by kernel_rfl) rfl #[.int .i64 (wrap64 (Int.tmod (IntKind.u64.wrap (a0)) 3000000))] rfl (by (try simp only [List.map_toArray, List.map_cons, List.map_nil]); first | done | rfl | (simp only [List.length_drop, List.length_take]; rfl)) ?_; (with_reducible refine (civil_Of.calls (wrap64 (Int.tmod (IntKind.u64.wrap (a0)) 3000000)) t243 t244 t245 none _ A3.out).mono ?_); rintro e w7 ⟨rfl, hb⟩; refine ⟨_, rfl, ?_⟩; have n0_ := Aside0.mk (below_step (by repeat (first | (with_reducible first | exact HB.out | apply below_alloc | apply pw_below_drewN | apply below_drew1) | exact HB.out)) hb); clear HB; have HB := n0_; clear n0_; (try clear hb); (try clear hb2); (try clear hk); (try clear hi); (try simp only [errW_none, errW_some])) | ((with_reducible refine gate_dst (N := 7) rfl ?_); refine box_event ?hg (N := 7) ?hd (cs := #[.int .i64 0, .int .i64 0, .int .i64 0]) (t := 24) ?hr ?_; (case hd => rfl); (case hg => rfl); (case hr => first | (go_simp; done) | (go_simp; rfl)); intro gb247 hg w8 hbox hb; have n0_ := Aside0.mk (below_step (by repeat (first | (with_reducible first | exact HB.out | apply below_alloc | apply pw_below_drewN | apply below_drew1) | exact HB.out)) hb); have n1_ := Aside0.mk (hbox); have n2_ := Aside0.mk ((by rw [hg]; exact (below_size (by repeat (first | (with_reducible first | exact HB.out | apply below_alloc | apply pw_below_drewN | apply below_drew1) | exact HB.out))) : w.heap.size ≤ gb247)); have n3_ := Aside0.mk ((by rw [hg]; exact (below_size (by repeat (first | (with_reducible first | exact HB.out | apply below_alloc | apply pw_below_drewN | apply below_drew1) | exact HB.out))) : w.heap.size ≤ gb247)); clear HB; have HB := n0_; have BK247 := n1_; have GW247 := n2_; have GE247 := n3_; clear n0_ n1_ n2_ n3_; clear hb hbox hg; have hcz9_0 : w8.cell? ⟨gb247, 0, none⟩ = some (.int .i64 0) := (blk_cell BK247.out 0).trans rfl; have hcz9_1 : w8.cell? ⟨gb247, 1, none⟩ = some (.int .i64 0) := (blk_cell BK247.out 1).trans rfl; have hcz9_2 : w8.cell? ⟨gb247, 2, none⟩ = some (.int .i64 0) := (blk_cell BK247.out 2).trans rfl; have hfz9_0 := blk_frozen BK247.out 0; have hfz9_1 := blk_frozen BK247.out 1; have hfz9_2 := blk_frozen BK247.out 2) | ((with_reducible refine gate_callee (f := 6) rfl ?_); refine goesL_ (some 44) rfl rfl Tryd.func6 (by kernel_rfl) rfl #[.int .i64 t243, .int .i64 t244] rfl (by (try simp only [List.map_toArray, List.map_cons, List.map_nil]); first | done | rfl | (simp only [List.length_drop, List.length_take]; rfl)) ?_; (with_reducible refine (civil_Length.calls k t243 t244 t248 none _ A4.out).mono ?_); rintro e w' ⟨rfl, ⟨nd, rfl⟩⟩; refine ⟨_, rfl, ?_⟩; (try simp only [errW_none, errW_some])))
          go_loopg [13] k (fun kq v13 w' => ∃ (x13_1 : Int), v13 = .int .i64 x13_1 ∧ Aside0 (belvederelaw06_RuleMonths.l0 kq (wrap64 (Int.tmod (IntKind.u64.wrap (a1)) 7)) t248 (wrap64 ((wrap64 ((wrap64 (Int.tmod (IntKind.u64.wrap (a0)) 3000000)) - t245)) + 1)) 0 x13_1 t243 t244 t245 = some r) ∧ Aside0 (kq ≤ k) ∧ Aside0 (w'.heap[gb247]? = some (.cells #[.int .i64 t243, .int .i64 t244, .int .i64 t245] 24 (0, 0))) ∧ Aside0 (Below w.heap.size w w'))
          case atStart => exact ⟨(1), (by first | rfl | (simp; done) | (simp [*]; done) | (simp; unfold wrap64; omega)), H', ⟨Nat.le_refl _⟩, ⟨by (with_reducible repeat (first | refine blk_drewN ?_ _ | refine blk_drew ?_ | refine blk_alloc ?_ _)); refine blk_put (cs := #[.int .i64 t243, .int .i64 t244, .int .i64 0]) ?_ 2 _ rfl; (with_reducible repeat (first | refine blk_drewN ?_ _ | refine blk_drew ?_ | refine blk_alloc ?_ _)); refine blk_put (cs := #[.int .i64 t243, .int .i64 0, .int .i64 0]) ?_ 1 _ rfl; (with_reducible repeat (first | refine blk_drewN ?_ _ | refine blk_drew ?_ | refine blk_alloc ?_ _)); refine blk_put (cs := #[.int .i64 0, .int .i64 0, .int .i64 0]) ?_ 0 _ rfl; (with_reducible repeat (first | refine blk_drewN ?_ _ | refine blk_drew ?_ | refine blk_alloc ?_ _)); exact BK247.out⟩, ⟨by repeat (first | (with_reducible first | exact HB.out | apply below_alloc | apply pw_below_drewN | apply below_drew1 | refine below_set ?_ GE247.out) | exact HB.out)⟩⟩
          case round =>
            clear H'
            try clear p2
            try clear q2
            try clear c3
            try clear c5
            try clear c5b0
            try clear c6
            try clear c6b0
            try clear p6
            try clear hcz9_0
            try clear hcz9_1
            try clear hcz9_2
            try clear hfz9_0
            try clear hfz9_1
            try clear hfz9_2
            try clear q250
            try clear q251
            obtain ⟨x13_1, rfl, HA, HK1, BK247, HB⟩ := hrel
            cases gk with
            | zero => exact absurd HA.out (by simp [belvederelaw06_RuleMonths.l0])
            | succ k1 =>
              have H := HA.out
              clear HA
              simp only [belvederelaw06_RuleMonths.l0] at H
              by_cases c10 : x13_1 ≤ 31
              · rw [if_pos c10] at H
                have c10b0 : decide (x13_1 ≤ 31) = true := decide_eq_true c10
                clear c10
                have H' := Aside0.mk H
                clear H
                go_wp2
                go_loopg [14, 15, 16] k1 (fun kq v14 v15 v16 w' => ∃ (x14_2 : Int) (x15_2 : Int) (x16_2 : Int), v14 = .int .i64 x14_2 ∧ v15 = .int .i64 x15_2 ∧ v16 = .int .i64 x16_2 ∧ Aside0 (belvederelaw06_RuleMonths.l1 kq (wrap64 (Int.tmod (IntKind.u64.wrap (a1)) 7)) t248 (wrap64 ((wrap64 ((wrap64 (Int.tmod (IntKind.u64.wrap (a0)) 3000000)) - t245)) + 1)) 0 x13_1 x14_2 x15_2 x16_2 t243 t244 t245 = some r) ∧ Aside0 (kq ≤ k1) ∧ Aside0 (w'.heap[gb247]? = some (.cells #[.int .i64 t243, .int .i64 t244, .int .i64 t245] 24 (0, 0))) ∧ Aside0 (Below w.heap.size w w'))
                case atStart => exact ⟨(0), (0), (0), (by first | rfl | (simp; done) | (simp [*]; done) | (simp; unfold wrap64; omega)), (by first | rfl | (simp; done) | (simp [*]; done) | (simp; unfold wrap64; omega)), (by first | rfl | (simp; done) | (simp [*]; done) | (simp; unfold wrap64; omega)), H', ⟨Nat.le_refl _⟩, ⟨by (with_reducible repeat (first | refine blk_drewN ?_ _ | refine blk_drew ?_ | refine blk_alloc ?_ _)); exact BK247.out⟩, ⟨by repeat (first | (with_reducible first | exact HB.out | apply below_alloc | apply pw_below_drewN | apply below_drew1 | refine below_set ?_ GE247.out) | exact HB.out)⟩⟩
                case round =>
                  clear H'
                  try clear c1
                  try clear p2
                  try clear q2
                  try clear c3
                  try clear c5
                  try clear c5b0
                  try clear c6
                  try clear c6b0
                  try clear p6
                  try clear c10
                  try clear c10b0
                  try clear hcz9_0
                  try clear hcz9_1
                  try clear hcz9_2
                  try clear hfz9_0
                  try clear hfz9_1
                  try clear hfz9_2
                  try clear p2
                  try clear p6
                  try clear q2
                  try clear q250
                  try clear q251
                  obtain ⟨x14_2, x15_2, x16_2, rfl, rfl, rfl, HA, HK2, BK247, HB⟩ := hrel
                  cases gk with
                  | zero => exact absurd HA.out (by simp [belvederelaw06_RuleMonths.l1])
                  | succ k2 =>
                    have H := HA.out
                    clear HA
                    simp only [belvederelaw06_RuleMonths.l1] at H
                    by_cases c11 : x16_2 < t248
                    · rw [if_pos c11] at H
                      have c11b0 : decide (x16_2 < t248) = true := decide_eq_true c11
                      clear c11
                      replace H := Option.bind_eq_some_iff.mp H
                      obtain ⟨⟨t252, t253⟩, A120, H⟩ := H
                      replace H : ((rule_Match.f k2 1 t244 (wrap64 (-x13_1)) 0 0 0 0 0 0 0 (wrap64 ((wrap64 ((wrap64 ((wrap64 (Int.tmod (IntKind.u64.wrap (a0)) 3000000)) - t245)) + 1)) + x16_2))).bind fun bt254 => (if t253.isNone = true then (if bt254.2.isNone = true then (if (t252 != (x16_2 == (wrap64 (x13_1 - 1)))) = true then (none) else (if (bt254.1 != (x16_2 == (wrap64 (t248 - x13_1)))) = true then (none) else (if t252 = true then (belvederelaw06_RuleMonths.j2 k2 (wrap64 (Int.tmod (IntKind.u64.wrap (a1)) 7)) t248 (wrap64 ((wrap64 ((wrap64 (Int.tmod (IntKind.u64.wrap (a0)) 3000000)) - t245)) + 1)) 0 x13_1 (wrap64 (x14_2 + 1)) x15_2 x16_2 bt254.1 t243 t244 t245) else (belvederelaw06_RuleMonths.j2 k2 (wrap64 (Int.tmod (IntKind.u64.wrap (a1)) 7)) t248 (wrap64 ((wrap64 ((wrap64 (Int.tmod (IntKind.u64.wrap (a0)) 3000000)) - t245)) + 1)) 0 x13_1 x14_2 x15_2 x16_2 bt254.1 t243 t244 t245)))) else (none)) else (none))) = some r := H
                      have A12 := Aside0.mk A120
                      clear A120
                      replace H := Option.bind_eq_some_iff.mp H
                      obtain ⟨⟨t254, t255⟩, A130, H⟩ := H
                      replace H : (if t253.isNone = true then (if t255.isNone = true then (if (t252 != (x16_2 == (wrap64 (x13_1 - 1)))) = true then (none) else (if (t254 != (x16_2 == (wrap64 (t248 - x13_1)))) = true then (none) else (if t252 = true then (belvederelaw06_RuleMonths.j2 k2 (wrap64 (Int.tmod (IntKind.u64.wrap (a1)) 7)) t248 (wrap64 ((wrap64 ((wrap64 (Int.tmod (IntKind.u64.wrap (a0)) 3000000)) - t245)) + 1)) 0 x13_1 (wrap64 (x14_2 + 1)) x15_2 x16_2 t254 t243 t244 t245) else (belvederelaw06_RuleMonths.j2 k2 (wrap64 (Int.tmod (IntKind.u64.wrap (a1)) 7)) t248 (wrap64 ((wrap64 ((wrap64 (Int.tmod (IntKind.u64.wrap (a0)) 3000000)) - t245)) + 1)) 0 x13_1 x14_2 x15_2 x16_2 t254 t243 t244 t245)))) else (none)) else (none)) = some r := H
                      have A13 := Aside0.mk A130
                      clear A130
                      rcases t253 with _ | q256
                      · have H1 : (if t255.isNone = true then (if (t252 != (x16_2 == (wrap64 (x13_1 - 1)))) = true then (none) else (if (t254 != (x16_2 == (wrap64 (t248 - x13_1)))) = true then (none) else (if t252 = true then (belvederelaw06_RuleMonths.j2 k2 (wrap64 (Int.tmod (IntKind.u64.wrap (a1)) 7)) t248 (wrap64 ((wrap64 ((wrap64 (Int.tmod (IntKind.u64.wrap (a0)) 3000000)) - t245)) + 1)) 0 x13_1 (wrap64 (x14_2 + 1)) x15_2 x16_2 t254 t243 t244 t245) else (belvederelaw06_RuleMonths.j2 k2 (wrap64 (Int.tmod (IntKind.u64.wrap (a1)) 7)) t248 (wrap64 ((wrap64 ((wrap64 (Int.tmod (IntKind.u64.wrap (a0)) 3000000)) - t245)) + 1)) 0 x13_1 x14_2 x15_2 x16_2 t254 t243 t244 t245)))) else (none)) = some r := by rw [if_pos (show (none : Option Int).isNone = true by rfl)] at H; exact H
                        clear H
                        have H := H1
                        clear H1
                        try simp only [errW_none, errW_some]
                        rcases t255 with _ | q257
                        · have H1 : (if (t252 != (x16_2 == (wrap64 (x13_1 - 1)))) = true then (none) else (if (t254 != (x16_2 == (wrap64 (t248 - x13_1)))) = true then (none) else (if t252 = true then (belvederelaw06_RuleMonths.j2 k2 (wrap64 (Int.tmod (IntKind.u64.wrap (a1)) 7)) t248 (wrap64 ((wrap64 ((wrap64 (Int.tmod (IntKind.u64.wrap (a0)) 3000000)) - t245)) + 1)) 0 x13_1 (wrap64 (x14_2 + 1)) x15_2 x16_2 t254 t243 t244 t245) else (belvederelaw06_RuleMonths.j2 k2 (wrap64 (Int.tmod (IntKind.u64.wrap (a1)) 7)) t248 (wrap64 ((wrap64 ((wrap64 (Int.tmod (IntKind.u64.wrap (a0)) 3000000)) - t245)) + 1)) 0 x13_1 x14_2 x15_2 x16_2 t254 t243 t244 t245)))) = some r := by rw [if_pos (show (none : Option Int).isNone = true by rfl)] at H; exact H
                          clear H
                          have H := H1
                          clear H1
                          try simp only [errW_none, errW_some]
                          by_cases c14 : (t252 != (x16_2 == (wrap64 (x13_1 - 1)))) = true
                          · rw [if_pos c14] at H
                            exact absurd H (by simp)
                          · rw [if_neg c14] at H
                            have c14b0 : (t252 != (x16_2 == (wrap64 (x13_1 - 1)))) = false := by simpa using c14
                            (try (have c14b1 : decide (t252 = (x16_2 == (wrap64 (x13_1 - 1)))) = true := by simpa using c14))
                            (try (have c14b2 : (t252 == (x16_2 == (wrap64 (x13_1 - 1)))) = true := by simpa using c14))
                            clear c14
                            by_cases c15 : (t254 != (x16_2 == (wrap64 (t248 - x13_1)))) = true
                            · rw [if_pos c15] at H
                              exact absurd H (by simp)
                            · rw [if_neg c15] at H
                              have c15b0 : (t254 != (x16_2 == (wrap64 (t248 - x13_1)))) = false := by simpa using c15
                              (try (have c15b1 : decide (t254 = (x16_2 == (wrap64 (t248 - x13_1)))) = true := by simpa using c15))
                              (try (have c15b2 : (t254 == (x16_2 == (wrap64 (t248 - x13_1)))) = true := by simpa using c15))
                              clear c15
                              have HC16 := Aside0.mk H
                              clear H
                              go_upto_if 120 with (first | ((with_reducible refine gate_callee (f := 7) rfl ?_); refine goesL_ (some 82) rfl rfl Tryd.func7 (by kernel_rfl) rfl #[.agg #[.int .i64 1, .int .i64 0, .int .i64 x13_1, .int .i64 0, .int .i64 0, .int .i64 0, .int .i64 0, .int .i64 0, .int .i64 0, .int .i64 0], .int .i64 (wrap64 ((wrap64 ((wrap64 ((wrap64 (Int.tmod (IntKind.u64.wrap (a0)) 3000000)) - t245)) + 1)) + x16_2))] rfl (by (try simp only [List.map_toArray, List.map_cons, List.map_nil]); first | done | rfl | (simp only [List.length_drop, List.length_take]; rfl)) ?_; (with_reducible refine (rule_Match.calls k2 1 0 x13_1 0 0 0 0 0 0 0 (wrap64 ((wrap64 ((wrap64 ((wrap64 (Int.tmod (IntKind.u64.wrap (a0)) 3000000)) - t245)) + 1)) + x16_2)) t252 none _ A12.out).mono ?_); rintro e w17 ⟨rfl, hb⟩; refine ⟨_, rfl, ?_⟩; have n0_ := Aside0.mk (blk_below (g := gb247) (o := .cells #[.int .i64 t243, .int .i64 t244, .int .i64 t245] 24 (0, 0)) (by (with_reducible repeat (first | refine blk_drewN ?_ _ | refine blk_drew ?_ | refine blk_alloc ?_ _)); exact BK247.out) hb); have n1_ := Aside0.mk (below_step (by repeat (first | (with_reducible first | exact HB.out | apply below_alloc | apply pw_below_drewN | apply below_drew1 | refine below_set ?_ GE247.out) | exact HB.out)) hb); clear BK247; clear HB; have BK247 := n0_; have HB := n1_; clear n0_ n1_; (try clear hb); (try clear hb2); (try clear hk); (try clear hi); (try simp only [errW_none, errW_some]); have hcz18_0 : w17.cell? ⟨gb247, 0, none⟩ = some (.int .i64 t243) := (blk_cell BK247.out 0).trans rfl; have hcz18_1 : w17.cell? ⟨gb247, 1, none⟩ = some (.int .i64 t244) := (blk_cell BK247.out 1).trans rfl; have hcz18_2 : w17.cell? ⟨gb247, 2, none⟩ = some (.int .i64 t245) := (blk_cell BK247.out 2).trans rfl; have hfz18_0 := blk_frozen BK247.out 0; have hfz18_1 := blk_frozen BK247.out 1; have hfz18_2 := blk_frozen BK247.out 2) | ((with_reducible refine gate_callee (f := 7) rfl ?_); refine goesL_ (some 94) rfl rfl Tryd.func7 (by kernel_rfl) rfl #[.agg #[.int .i64 1, .int .i64 t244, .int .i64 (wrap64 (-x13_1)), .int .i64 0, .int .i64 0, .int .i64 0, .int .i64 0, .int .i64 0, .int .i64 0, .int .i64 0], .int .i64 (wrap64 ((wrap64 ((wrap64 ((wrap64 (Int.tmod (IntKind.u64.wrap (a0)) 3000000)) - t245)) + 1)) + x16_2))] rfl (by (try simp only [List.map_toArray, List.map_cons, List.map_nil]); first | done | rfl | (simp only [List.length_drop, List.length_take]; rfl)) ?_; (with_reducible refine (rule_Match.calls k2 1 t244 (wrap64 (-x13_1)) 0 0 0 0 0 0 0 (wrap64 ((wrap64 ((wrap64 ((wrap64 (Int.tmod (IntKind.u64.wrap (a0)) 3000000)) - t245)) + 1)) + x16_2)) t254 none _ A13.out).mono ?_); rintro e w19 ⟨rfl, hb⟩; refine ⟨_, rfl, ?_⟩; have n0_ := Aside0.mk (blk_below (g := gb247) (o := .cells #[.int .i64 t243, .int .i64 t244, .int .i64 t245] 24 (0, 0)) (by (with_reducible repeat (first | refine blk_drewN ?_ _ | refine blk_drew ?_ | refine blk_alloc ?_ _)); exact BK247.out) hb); have n1_ := Aside0.mk (below_step (by repeat (first | (with_reducible first | exact HB.out | apply below_alloc | apply pw_below_drewN | apply below_drew1 | refine below_set ?_ GE247.out) | exact HB.out)) hb); clear BK247; clear HB; have BK247 := n0_; have HB := n1_; clear n0_ n1_; (try clear hb); (try clear hb2); (try clear hk); (try clear hi); (try simp only [errW_none, errW_some])))
                              (try simp only [Act.put, List.setIfInBounds_toArray, List.set_cons_zero, List.set_cons_succ])
                              go_cut [14] (fun v14 wc => ∃ (kq : Nat) (x14_15 : Int), v14 = .int .i64 x14_15 ∧ Aside0 (belvederelaw06_RuleMonths.j2 kq (wrap64 (Int.tmod (IntKind.u64.wrap (a1)) 7)) t248 (wrap64 ((wrap64 ((wrap64 (Int.tmod (IntKind.u64.wrap (a0)) 3000000)) - t245)) + 1)) 0 x13_1 x14_15 x15_2 x16_2 t254 t243 t244 t245 = some r) ∧ Aside0 (kq ≤ k2) ∧ Aside0 (wc.heap[gb247]? = some (.cells #[.int .i64 t243, .int .i64 t244, .int .i64 t245] 24 (0, 0))) ∧ Aside0 (Below w.heap.size w wc))
                              case first =>
                                have H := HC16.out
                                clear HC16
                                by_cases c20 : t252 = true
                                · subst c20
                                  have H1 : (belvederelaw06_RuleMonths.j2 k2 (wrap64 (Int.tmod (IntKind.u64.wrap (a1)) 7)) t248 (wrap64 ((wrap64 ((wrap64 (Int.tmod (IntKind.u64.wrap (a0)) 3000000)) - t245)) + 1)) 0 x13_1 (wrap64 (x14_2 + 1)) x15_2 x16_2 t254 t243 t244 t245) = some r := by rw [if_pos rfl] at H; exact H
                                  clear H
                                  have H := H1
                                  clear H1
                                  have H' := Aside0.mk H
                                  clear H
                                  go_wp2
                                  go_meet
                                  case rel => exact ⟨_, (wrap64 (x14_2 + 1)), (by first | rfl | (simp; done) | (simp [*]; done) | (simp; unfold wrap64; omega)), H', ⟨by have := HK1.out; have := HK2.out; first | omega | exact Nat.le_refl _⟩, ⟨by (with_reducible repeat (first | refine blk_drewN ?_ _ | refine blk_drew ?_ | refine blk_alloc ?_ _)); exact BK247.out⟩, ⟨by repeat (first | (with_reducible first | exact HB.out | apply below_alloc | apply pw_below_drewN | apply below_drew1 | refine below_set ?_ GE247.out) | exact HB.out)⟩⟩
                                · replace c20 := Bool.eq_false_iff.mpr c20
                                  subst c20
                                  have H1 : (belvederelaw06_RuleMonths.j2 k2 (wrap64 (Int.tmod (IntKind.u64.wrap (a1)) 7)) t248 (wrap64 ((wrap64 ((wrap64 (Int.tmod (IntKind.u64.wrap (a0)) 3000000)) - t245)) + 1)) 0 x13_1 x14_2 x15_2 x16_2 t254 t243 t244 t245) = some r := by rw [if_neg (show ¬ (false = true) by decide)] at H; exact H
                                  clear H
                                  have H := H1
                                  clear H1
                                  have H' := Aside0.mk H
                                  clear H
                                  go_wp2
                                  go_meet
                                  case rel => exact ⟨_, (x14_2), (by first | rfl | (simp; done) | (simp [*]; done) | (simp; unfold wrap64; omega)), H', ⟨by have := HK1.out; have := HK2.out; first | omega | exact Nat.le_refl _⟩, ⟨by (with_reducible repeat (first | refine blk_drewN ?_ _ | refine blk_drew ?_ | refine blk_alloc ?_ _)); exact BK247.out⟩, ⟨by repeat (first | (with_reducible first | exact HB.out | apply below_alloc | apply pw_below_drewN | apply below_drew1 | refine below_set ?_ GE247.out) | exact HB.out)⟩⟩
                              case rest =>
                                clear HC16
                                try clear c1
                                try clear c2
                                try clear p2
                                try clear q2
                                try clear c3
                                try clear c5
                                try clear c5b0
                                try clear c6
                                try clear c6b0
                                try clear p6
                                try clear c7
                                try clear c10
                                try clear c10b0
                                try clear c11
                                try clear c11b0
                                try clear c14
                                try clear c14b0
                                try clear c14b1
                                try clear c14b2
                                try clear c15
                                try clear c15b0
                                try clear c15b1
                                try clear c15b2
                                try clear c20
                                try clear hcz18_0
                                try clear hcz18_1
                                try clear hcz18_2
                                try clear hcz9_0
                                try clear hcz9_1
                                try clear hcz9_2
                                try clear hfz18_0
                                try clear hfz18_1
                                try clear hfz18_2
                                try clear hfz9_0
                                try clear hfz9_1
                                try clear hfz9_2
                                try clear p2
                                try clear p6
                                try clear q2
                                try clear q250
                                try clear q251
                                try clear q256
                                try clear q257
                                obtain ⟨kq, x14_15, rfl, HA, HJ15, BK247, HB⟩ := hcut
                                cases kq with
                                | zero => exact absurd HA.out (by simp [belvederelaw06_RuleMonths.j2])
                                | succ kj15 =>
                                  have H := HA.out
                                  clear HA
                                  simp only [belvederelaw06_RuleMonths.j2] at H
                                  by_cases c21 : t254 = true
                                  · subst c21
                                    have H1 : (belvederelaw06_RuleMonths.l1 kj15 (wrap64 (Int.tmod (IntKind.u64.wrap (a1)) 7)) t248 (wrap64 ((wrap64 ((wrap64 (Int.tmod (IntKind.u64.wrap (a0)) 3000000)) - t245)) + 1)) 0 x13_1 x14_15 (wrap64 (x15_2 + 1)) (wrap64 (x16_2 + 1)) t243 t244 t245) = some r := by rw [if_pos rfl] at H; exact H
                                    clear H
                                    have H := H1
                                    clear H1
                                    have H' := Aside0.mk H
                                    clear H
                                    go_wp2
                                    go_roundg kj15
                                    case measure => have := HK1.out; have := HK2.out; have := HJ15.out; omega
                                    case rel => exact ⟨(x14_15), (wrap64 (x15_2 + 1)), (wrap64 (x16_2 + 1)), (by first | rfl | (simp; done) | (simp [*]; done) | (simp; unfold wrap64; omega)), (by first | rfl | (simp; done) | (simp [*]; done) | (simp; unfold wrap64; omega)), (by first | rfl | (simp; done) | (simp [*]; done) | (simp; unfold wrap64; omega)), H', ⟨by have := HK1.out; have := HK2.out; have := HJ15.out; omega⟩, ⟨by (with_reducible repeat (first | refine blk_drewN ?_ _ | refine blk_drew ?_ | refine blk_alloc ?_ _)); exact BK247.out⟩, ⟨by repeat (first | (with_reducible first | exact HB.out | apply below_alloc | apply pw_below_drewN | apply below_drew1 | refine below_set ?_ GE247.out) | exact HB.out)⟩⟩
                                  · replace c21 := Bool.eq_false_iff.mpr c21
                                    subst c21
                                    have H1 : (belvederelaw06_RuleMonths.l1 kj15 (wrap64 (Int.tmod (IntKind.u64.wrap (a1)) 7)) t248 (wrap64 ((wrap64 ((wrap64 (Int.tmod (IntKind.u64.wrap (a0)) 3000000)) - t245)) + 1)) 0 x13_1 x14_15 x15_2 (wrap64 (x16_2 + 1)) t243 t244 t245) = some r := by rw [if_neg (show ¬ (false = true) by decide)] at H; exact H
                                    clear H
                                    have H := H1
                                    clear H1
                                    have H' := Aside0.mk H
                                    clear H
                                    go_wp2
                                    go_roundg kj15
                                    case measure => have := HK1.out; have := HK2.out; have := HJ15.out; omega
                                    case rel => exact ⟨(x14_15), (x15_2), (wrap64 (x16_2 + 1)), (by first | rfl | (simp; done) | (simp [*]; done) | (simp; unfold wrap64; omega)), (by first | rfl | (simp; done) | (simp [*]; done) | (simp; unfold wrap64; omega)), (by first | rfl | (simp; done) | (simp [*]; done) | (simp; unfold wrap64; omega)), H', ⟨by have := HK1.out; have := HK2.out; have := HJ15.out; omega⟩, ⟨by (with_reducible repeat (first | refine blk_drewN ?_ _ | refine blk_drew ?_ | refine blk_alloc ?_ _)); exact BK247.out⟩, ⟨by repeat (first | (with_reducible first | exact HB.out | apply below_alloc | apply pw_below_drewN | apply below_drew1 | refine below_set ?_ GE247.out) | exact HB.out)⟩⟩
                        · have H1 : (none) = some r := by rw [if_neg (show ¬ (some q257).isNone = true by simp)] at H; exact H
                          clear H
                          have H := H1
                          clear H1
                          try simp only [errW_none, errW_some]
                          exact absurd H (by simp)
                      · have H1 : (none) = some r := by rw [if_neg (show ¬ (some q256).isNone = true by simp)] at H; exact H
                        clear H
                        have H := H1
                        clear H1
                        try simp only [errW_none, errW_some]
                        exact absurd H (by simp)
                    · rw [if_neg c11] at H
                      have c11b0 : decide (x16_2 < t248) = false := decide_eq_false c11
                      clear c11
                      by_cases c22 : x14_2 = x15_2
                      · rw [if_pos c22] at H
                        have c22b0 : (x14_2 == x15_2) = true := beq_iff_eq.mpr c22
                        have c22b1 : (x14_2 != x15_2) = false := bne_eq_false_iff_eq.mpr c22
                        clear c22
                        by_cases c23 : ((x14_2 == 1) != (decide (x13_1 ≤ t248))) = true
                        · rw [if_pos c23] at H
                          exact absurd H (by simp)
                        · rw [if_neg c23] at H
                          have c23b0 : ((x14_2 == 1) != (decide (x13_1 ≤ t248))) = false := by simpa using c23
                          (try (have c23b1 : decide ((x14_2 == 1) = (decide (x13_1 ≤ t248))) = true := by simpa using c23))
                          (try (have c23b2 : ((x14_2 == 1) == (decide (x13_1 ≤ t248))) = true := by simpa using c23))
                          clear c23
                          have H' := Aside0.mk H
                          clear H
                          go_wp2
                          go_roundg k2
                          case measure => have := HK1.out; have := HK2.out; omega
                          case rel => exact ⟨(wrap64 (x13_1 + 1)), (by first | rfl | (simp; done) | (simp [*]; done) | (simp; unfold wrap64; omega)), H', ⟨by have := HK1.out; have := HK2.out; omega⟩, ⟨by (with_reducible repeat (first | refine blk_drewN ?_ _ | refine blk_drew ?_ | refine blk_alloc ?_ _)); exact BK247.out⟩, ⟨by repeat (first | (with_reducible first | exact HB.out | apply below_alloc | apply pw_below_drewN | apply below_drew1 | refine below_set ?_ GE247.out) | exact HB.out)⟩⟩
                      · rw [if_neg c22] at H
                        exact absurd H (by simp)
              · rw [if_neg c10] at H
                have c10b0 : decide (x13_1 ≤ 31) = false := decide_eq_false c10
                clear c10
                have H' := Aside0.mk H
                clear H
                go_wp2
                go_loopg [12, 21, 22] k1 (fun kq v12 v21 v22 w' => ∃ (x12_2 : Int) (x21_2 : Int) (x22_2 : Int), v12 = .int .i64 x12_2 ∧ v21 = .int .i64 x21_2 ∧ v22 = .int .i64 x22_2 ∧ Aside0 (belvederelaw06_RuleMonths.l2 kq (wrap64 (Int.tmod (IntKind.u64.wrap (a1)) 7)) t248 (wrap64 ((wrap64 ((wrap64 (Int.tmod (IntKind.u64.wrap (a0)) 3000000)) - t245)) + 1)) x12_2 x21_2 x22_2 = some r) ∧ Aside0 (kq ≤ k1) ∧ Aside0 (w'.heap[gb247]? = some (.cells #[.int .i64 t243, .int .i64 t244, .int .i64 t245] 24 (0, 0))) ∧ Aside0 (Below w.heap.size w w'))
                case atStart => exact ⟨(0), ((-1)), (1), (by first | rfl | (simp; done) | (simp [*]; done) | (simp; unfold wrap64; omega)), (by first | rfl | (simp; done) | (simp [*]; done) | (simp; unfold wrap64; omega)), (by first | rfl | (simp; done) | (simp [*]; done) | (simp; unfold wrap64; omega)), H', ⟨Nat.le_refl _⟩, ⟨by (with_reducible repeat (first | refine blk_drewN ?_ _ | refine blk_drew ?_ | refine blk_alloc ?_ _)); exact BK247.out⟩, ⟨by repeat (first | (with_reducible first | exact HB.out | apply below_alloc | apply pw_below_drewN | apply below_drew1 | refine below_set ?_ GE247.out) | exact HB.out)⟩⟩
                case round =>
                  clear H'
                  try clear c1
                  try clear c2
                  try clear p2
                  try clear q2
                  try clear c3
                  try clear c5
                  try clear c5b0
                  try clear c6
                  try clear c6b0
                  try clear p6
                  try clear c7
                  try clear c10
                  try clear c10b0
                  try clear c11
                  try clear c11b0
                  try clear c14
                  try clear c14b0
                  try clear c14b1
                  try clear c14b2
                  try clear c15
                  try clear c15b0
                  try clear c15b1
                  try clear c15b2
                  try clear c20
                  try clear c21
                  try clear c22
                  try clear c22b0
                  try clear c22b1
                  try clear c23
                  try clear c23b0
                  try clear c23b1
                  try clear c23b2
                  try clear hcz18_0
                  try clear hcz18_1
                  try clear hcz18_2
                  try clear hcz9_0
                  try clear hcz9_1
                  try clear hcz9_2
                  try clear hfz18_0
                  try clear hfz18_1
                  try clear hfz18_2
                  try clear hfz9_0
                  try clear hfz9_1
                  try clear hfz9_2
                  try clear p2
                  try clear p6
                  try clear q2
                  try clear q250
                  try clear q251
                  try clear q256
                  try clear q257
                  obtain ⟨x12_2, x21_2, x22_2, rfl, rfl, rfl, HA, HK2, BK247, HB⟩ := hrel
                  cases gk with
                  | zero => exact absurd HA.out (by simp [belvederelaw06_RuleMonths.l2])
                  | succ k2 =>
                    have H := HA.out
                    clear HA
                    simp only [belvederelaw06_RuleMonths.l2] at H
                    by_cases c24 : x22_2 ≤ 5
                    · rw [if_pos c24] at H
                      have c24b0 : decide (x22_2 ≤ 5) = true := decide_eq_true c24
                      clear c24
                      have H' := Aside0.mk H
                      clear H
                      go_wp2
                      go_loopg [12, 21, 23] k2 (fun kq v12 v21 v23 w' => ∃ (x12_3 : Int) (x21_3 : Int) (x23_3 : Int), v12 = .int .i64 x12_3 ∧ v21 = .int .i64 x21_3 ∧ v23 = .int .i64 x23_3 ∧ Aside0 (belvederelaw06_RuleMonths.l3 kq (wrap64 (Int.tmod (IntKind.u64.wrap (a1)) 7)) t248 (wrap64 ((wrap64 ((wrap64 (Int.tmod (IntKind.u64.wrap (a0)) 3000000)) - t245)) + 1)) x12_3 x21_3 x22_2 x23_3 = some r) ∧ Aside0 (kq ≤ k2) ∧ Aside0 (w'.heap[gb247]? = some (.cells #[.int .i64 t243, .int .i64 t244, .int .i64 t245] 24 (0, 0))) ∧ Aside0 (Below w.heap.size w w'))
                      case atStart => exact ⟨(x12_2), (x21_2), (0), (by first | rfl | (simp; done) | (simp [*]; done) | (simp; unfold wrap64; omega)), (by first | rfl | (simp; done) | (simp [*]; done) | (simp; unfold wrap64; omega)), (by first | rfl | (simp; done) | (simp [*]; done) | (simp; unfold wrap64; omega)), H', ⟨Nat.le_refl _⟩, ⟨by (with_reducible repeat (first | refine blk_drewN ?_ _ | refine blk_drew ?_ | refine blk_alloc ?_ _)); exact BK247.out⟩, ⟨by repeat (first | (with_reducible first | exact HB.out | apply below_alloc | apply pw_below_drewN | apply below_drew1 | refine below_set ?_ GE247.out) | exact HB.out)⟩⟩
                      case round =>
                        clear H'
                        try clear c1
                        try clear c2
                        try clear p2
                        try clear q2
                        try clear c3
                        try clear c5
                        try clear c5b0
                        try clear c6
                        try clear c6b0
                        try clear p6
                        try clear c7
                        try clear c10
                        try clear c10b0
                        try clear c11
                        try clear c11b0
                        try clear c14
                        try clear c14b0
                        try clear c14b1
                        try clear c14b2
                        try clear c15
                        try clear c15b0
                        try clear c15b1
                        try clear c15b2
                        try clear c20
                        try clear c21
                        try clear c22
                        try clear c22b0
                        try clear c22b1
                        try clear c23
                        try clear c23b0
                        try clear c23b1
                        try clear c23b2
                        try clear c24
                        try clear c24b0
                        try clear hcz18_0
                        try clear hcz18_1
                        try clear hcz18_2
                        try clear hcz9_0
                        try clear hcz9_1
                        try clear hcz9_2
                        try clear hfz18_0
                        try clear hfz18_1
                        try clear hfz18_2
                        try clear hfz9_0
                        try clear hfz9_1
                        try clear hfz9_2
                        try clear p2
                        try clear p6
                        try clear q2
                        try clear q250
                        try clear q251
                        try clear q256
                        try clear q257
                        obtain ⟨x12_3, x21_3, x23_3, rfl, rfl, rfl, HA, HK3, BK247, HB⟩ := hrel
                        cases gk with
                        | zero => exact absurd HA.out (by simp [belvederelaw06_RuleMonths.l3])
                        | succ k3 =>
                          have H := HA.out
                          clear HA
                          simp only [belvederelaw06_RuleMonths.l3] at H
                          by_cases c25 : x23_3 < t248
                          · rw [if_pos c25] at H
                            have c25b0 : decide (x23_3 < t248) = true := decide_eq_true c25
                            clear c25
                            replace H := Option.bind_eq_some_iff.mp H
                            obtain ⟨⟨t260, t261⟩, A260, H⟩ := H
                            replace H : (if t261.isNone = true then (if t260 = true then ((civil_Weekday.f (wrap64 ((wrap64 ((wrap64 ((wrap64 (Int.tmod (IntKind.u64.wrap (a0)) 3000000)) - t245)) + 1)) + x23_3))).bind fun t263 => (if t263 = (wrap64 (Int.tmod (IntKind.u64.wrap (a1)) 7)) then (if x21_3 ≥ 0 then (if x23_3 = (wrap64 (x21_3 + 7)) then (if x21_3 < 0 then (if x23_3 > 6 then (none) else (belvederelaw06_RuleMonths.l3 k3 (wrap64 (Int.tmod (IntKind.u64.wrap (a1)) 7)) t248 (wrap64 ((wrap64 ((wrap64 (Int.tmod (IntKind.u64.wrap (a0)) 3000000)) - t245)) + 1)) (wrap64 (x12_3 + 1)) x23_3 x22_2 (wrap64 (x23_3 + 1)))) else (belvederelaw06_RuleMonths.l3 k3 (wrap64 (Int.tmod (IntKind.u64.wrap (a1)) 7)) t248 (wrap64 ((wrap64 ((wrap64 (Int.tmod (IntKind.u64.wrap (a0)) 3000000)) - t245)) + 1)) (wrap64 (x12_3 + 1)) x23_3 x22_2 (wrap64 (x23_3 + 1)))) else (none)) else (if x21_3 < 0 then (if x23_3 > 6 then (none) else (belvederelaw06_RuleMonths.l3 k3 (wrap64 (Int.tmod (IntKind.u64.wrap (a1)) 7)) t248 (wrap64 ((wrap64 ((wrap64 (Int.tmod (IntKind.u64.wrap (a0)) 3000000)) - t245)) + 1)) (wrap64 (x12_3 + 1)) x23_3 x22_2 (wrap64 (x23_3 + 1)))) else (belvederelaw06_RuleMonths.l3 k3 (wrap64 (Int.tmod (IntKind.u64.wrap (a1)) 7)) t248 (wrap64 ((wrap64 ((wrap64 (Int.tmod (IntKind.u64.wrap (a0)) 3000000)) - t245)) + 1)) (wrap64 (x12_3 + 1)) x23_3 x22_2 (wrap64 (x23_3 + 1))))) else (none))) else (belvederelaw06_RuleMonths.l3 k3 (wrap64 (Int.tmod (IntKind.u64.wrap (a1)) 7)) t248 (wrap64 ((wrap64 ((wrap64 (Int.tmod (IntKind.u64.wrap (a0)) 3000000)) - t245)) + 1)) x12_3 x21_3 x22_2 (wrap64 (x23_3 + 1)))) else (none)) = some r := H
                            have A26 := Aside0.mk A260
                            clear A260
                            rcases t261 with _ | q262
                            · have H1 : (if t260 = true then ((civil_Weekday.f (wrap64 ((wrap64 ((wrap64 ((wrap64 (Int.tmod (IntKind.u64.wrap (a0)) 3000000)) - t245)) + 1)) + x23_3))).bind fun t263 => (if t263 = (wrap64 (Int.tmod (IntKind.u64.wrap (a1)) 7)) then (if x21_3 ≥ 0 then (if x23_3 = (wrap64 (x21_3 + 7)) then (if x21_3 < 0 then (if x23_3 > 6 then (none) else (belvederelaw06_RuleMonths.l3 k3 (wrap64 (Int.tmod (IntKind.u64.wrap (a1)) 7)) t248 (wrap64 ((wrap64 ((wrap64 (Int.tmod (IntKind.u64.wrap (a0)) 3000000)) - t245)) + 1)) (wrap64 (x12_3 + 1)) x23_3 x22_2 (wrap64 (x23_3 + 1)))) else (belvederelaw06_RuleMonths.l3 k3 (wrap64 (Int.tmod (IntKind.u64.wrap (a1)) 7)) t248 (wrap64 ((wrap64 ((wrap64 (Int.tmod (IntKind.u64.wrap (a0)) 3000000)) - t245)) + 1)) (wrap64 (x12_3 + 1)) x23_3 x22_2 (wrap64 (x23_3 + 1)))) else (none)) else (if x21_3 < 0 then (if x23_3 > 6 then (none) else (belvederelaw06_RuleMonths.l3 k3 (wrap64 (Int.tmod (IntKind.u64.wrap (a1)) 7)) t248 (wrap64 ((wrap64 ((wrap64 (Int.tmod (IntKind.u64.wrap (a0)) 3000000)) - t245)) + 1)) (wrap64 (x12_3 + 1)) x23_3 x22_2 (wrap64 (x23_3 + 1)))) else (belvederelaw06_RuleMonths.l3 k3 (wrap64 (Int.tmod (IntKind.u64.wrap (a1)) 7)) t248 (wrap64 ((wrap64 ((wrap64 (Int.tmod (IntKind.u64.wrap (a0)) 3000000)) - t245)) + 1)) (wrap64 (x12_3 + 1)) x23_3 x22_2 (wrap64 (x23_3 + 1))))) else (none))) else (belvederelaw06_RuleMonths.l3 k3 (wrap64 (Int.tmod (IntKind.u64.wrap (a1)) 7)) t248 (wrap64 ((wrap64 ((wrap64 (Int.tmod (IntKind.u64.wrap (a0)) 3000000)) - t245)) + 1)) x12_3 x21_3 x22_2 (wrap64 (x23_3 + 1)))) = some r := by rw [if_pos (show (none : Option Int).isNone = true by rfl)] at H; exact H
                              clear H
                              have H := H1
                              clear H1
                              try simp only [errW_none, errW_some]
                              by_cases c27 : t260 = true
                              · subst c27
                                have H1 : ((civil_Weekday.f (wrap64 ((wrap64 ((wrap64 ((wrap64 (Int.tmod (IntKind.u64.wrap (a0)) 3000000)) - t245)) + 1)) + x23_3))).bind fun t263 => (if t263 = (wrap64 (Int.tmod (IntKind.u64.wrap (a1)) 7)) then (if x21_3 ≥ 0 then (if x23_3 = (wrap64 (x21_3 + 7)) then (if x21_3 < 0 then (if x23_3 > 6 then (none) else (belvederelaw06_RuleMonths.l3 k3 (wrap64 (Int.tmod (IntKind.u64.wrap (a1)) 7)) t248 (wrap64 ((wrap64 ((wrap64 (Int.tmod (IntKind.u64.wrap (a0)) 3000000)) - t245)) + 1)) (wrap64 (x12_3 + 1)) x23_3 x22_2 (wrap64 (x23_3 + 1)))) else (belvederelaw06_RuleMonths.l3 k3 (wrap64 (Int.tmod (IntKind.u64.wrap (a1)) 7)) t248 (wrap64 ((wrap64 ((wrap64 (Int.tmod (IntKind.u64.wrap (a0)) 3000000)) - t245)) + 1)) (wrap64 (x12_3 + 1)) x23_3 x22_2 (wrap64 (x23_3 + 1)))) else (none)) else (if x21_3 < 0 then (if x23_3 > 6 then (none) else (belvederelaw06_RuleMonths.l3 k3 (wrap64 (Int.tmod (IntKind.u64.wrap (a1)) 7)) t248 (wrap64 ((wrap64 ((wrap64 (Int.tmod (IntKind.u64.wrap (a0)) 3000000)) - t245)) + 1)) (wrap64 (x12_3 + 1)) x23_3 x22_2 (wrap64 (x23_3 + 1)))) else (belvederelaw06_RuleMonths.l3 k3 (wrap64 (Int.tmod (IntKind.u64.wrap (a1)) 7)) t248 (wrap64 ((wrap64 ((wrap64 (Int.tmod (IntKind.u64.wrap (a0)) 3000000)) - t245)) + 1)) (wrap64 (x12_3 + 1)) x23_3 x22_2 (wrap64 (x23_3 + 1))))) else (none))) = some r := by rw [if_pos rfl] at H; exact H
                                clear H
                                have H := H1
                                clear H1
                                replace H := Option.bind_eq_some_iff.mp H
                                obtain ⟨t263, A280, H⟩ := H
                                replace H : (if t263 = (wrap64 (Int.tmod (IntKind.u64.wrap (a1)) 7)) then (if x21_3 ≥ 0 then (if x23_3 = (wrap64 (x21_3 + 7)) then (if x21_3 < 0 then (if x23_3 > 6 then (none) else (belvederelaw06_RuleMonths.l3 k3 (wrap64 (Int.tmod (IntKind.u64.wrap (a1)) 7)) t248 (wrap64 ((wrap64 ((wrap64 (Int.tmod (IntKind.u64.wrap (a0)) 3000000)) - t245)) + 1)) (wrap64 (x12_3 + 1)) x23_3 x22_2 (wrap64 (x23_3 + 1)))) else (belvederelaw06_RuleMonths.l3 k3 (wrap64 (Int.tmod (IntKind.u64.wrap (a1)) 7)) t248 (wrap64 ((wrap64 ((wrap64 (Int.tmod (IntKind.u64.wrap (a0)) 3000000)) - t245)) + 1)) (wrap64 (x12_3 + 1)) x23_3 x22_2 (wrap64 (x23_3 + 1)))) else (none)) else (if x21_3 < 0 then (if x23_3 > 6 then (none) else (belvederelaw06_RuleMonths.l3 k3 (wrap64 (Int.tmod (IntKind.u64.wrap (a1)) 7)) t248 (wrap64 ((wrap64 ((wrap64 (Int.tmod (IntKind.u64.wrap (a0)) 3000000)) - t245)) + 1)) (wrap64 (x12_3 + 1)) x23_3 x22_2 (wrap64 (x23_3 + 1)))) else (belvederelaw06_RuleMonths.l3 k3 (wrap64 (Int.tmod (IntKind.u64.wrap (a1)) 7)) t248 (wrap64 ((wrap64 ((wrap64 (Int.tmod (IntKind.u64.wrap (a0)) 3000000)) - t245)) + 1)) (wrap64 (x12_3 + 1)) x23_3 x22_2 (wrap64 (x23_3 + 1))))) else (none)) = some r := H
                                have A28 := Aside0.mk A280
                                clear A280
                                by_cases c29 : t263 = (wrap64 (Int.tmod (IntKind.u64.wrap (a1)) 7))
                                · rw [if_pos c29] at H
                                  have c29b0 : (t263 == (wrap64 (Int.tmod (IntKind.u64.wrap (a1)) 7))) = true := beq_iff_eq.mpr c29
                                  have c29b1 : (t263 != (wrap64 (Int.tmod (IntKind.u64.wrap (a1)) 7))) = false := bne_eq_false_iff_eq.mpr c29
                                  clear c29
                                  by_cases c30 : x21_3 ≥ 0
                                  · rw [if_pos c30] at H
                                    have c30b0 : decide (0 ≤ x21_3) = true := decide_eq_true c30
                                    clear c30
                                    by_cases c31 : x23_3 = (wrap64 (x21_3 + 7))
                                    · rw [if_pos c31] at H
                                      have c31b0 : (x23_3 == (wrap64 (x21_3 + 7))) = true := beq_iff_eq.mpr c31
                                      have c31b1 : (x23_3 != (wrap64 (x21_3 + 7))) = false := bne_eq_false_iff_eq.mpr c31
                                      clear c31
                                      by_cases c32 : x21_3 < 0
                                      · rw [if_pos c32] at H
                                        have c32b0 : decide (x21_3 < 0) = true := decide_eq_true c32
                                        clear c32
                                        by_cases c33 : x23_3 > 6
                                        · rw [if_pos c33] at H
                                          exact absurd H (by simp)
                                        · rw [if_neg c33] at H
                                          have c33b0 : decide (6 < x23_3) = false := decide_eq_false c33
                                          clear c33
                                          have H' := Aside0.mk H
                                          clear H
                                          go_wp2_with (first | ((with_reducible refine gate_callee (f := 7) rfl ?_); refine goesL_ (some 153) rfl rfl Tryd.func7 (by kernel_rfl) rfl #[.agg #[.int .i64 2, .int .i64 0, .int .i64 x22_2, .int .i64 (wrap64 (Int.tmod (IntKind.u64.wrap (a1)) 7)), .int .i64 0, .int .i64 0, .int .i64 0, .int .i64 0, .int .i64 0, .int .i64 0], .int .i64 (wrap64 ((wrap64 ((wrap64 ((wrap64 (Int.tmod (IntKind.u64.wrap (a0)) 3000000)) - t245)) + 1)) + x23_3))] rfl (by (try simp only [List.map_toArray, List.map_cons, List.map_nil]); first | done | rfl | (simp only [List.length_drop, List.length_take]; rfl)) ?_; (with_reducible refine (rule_Match.calls k3 2 0 x22_2 (wrap64 (Int.tmod (IntKind.u64.wrap (a1)) 7)) 0 0 0 0 0 0 (wrap64 ((wrap64 ((wrap64 ((wrap64 (Int.tmod (IntKind.u64.wrap (a0)) 3000000)) - t245)) + 1)) + x23_3)) true none _ A26.out).mono ?_); rintro e w34 ⟨rfl, hb⟩; refine ⟨_, rfl, ?_⟩; have n0_ := Aside0.mk (blk_below (g := gb247) (o := .cells #[.int .i64 t243, .int .i64 t244, .int .i64 t245] 24 (0, 0)) (by (with_reducible repeat (first | refine blk_drewN ?_ _ | refine blk_drew ?_ | refine blk_alloc ?_ _)); exact BK247.out) hb); have n1_ := Aside0.mk (below_step (by repeat (first | (with_reducible first | exact HB.out | apply below_alloc | apply pw_below_drewN | apply below_drew1 | refine below_set ?_ GE247.out) | exact HB.out)) hb); clear BK247; clear HB; have BK247 := n0_; have HB := n1_; clear n0_ n1_; (try clear hb); (try clear hb2); (try clear hk); (try clear hi); (try simp only [errW_none, errW_some])) | ((with_reducible refine gate_callee (f := 8) rfl ?_); refine goesL_ (some 162) rfl rfl Tryd.func8 (by kernel_rfl) rfl #[.int .i64 (wrap64 ((wrap64 ((wrap64 ((wrap64 (Int.tmod (IntKind.u64.wrap (a0)) 3000000)) - t245)) + 1)) + x23_3))] rfl (by (try simp only [List.map_toArray, List.map_cons, List.map_nil]); first | done | rfl | (simp only [List.length_drop, List.length_take]; rfl)) ?_; (with_reducible refine (civil_Weekday.calls (wrap64 ((wrap64 ((wrap64 ((wrap64 (Int.tmod (IntKind.u64.wrap (a0)) 3000000)) - t245)) + 1)) + x23_3)) t263 _ A28.out).mono ?_); rintro e w' ⟨rfl, ⟨nd, rfl⟩⟩; refine ⟨_, rfl, ?_⟩))
                                          go_roundg k3
                                          case measure => have := HK1.out; have := HK2.out; have := HK3.out; omega
                                          case rel => exact ⟨(wrap64 (x12_3 + 1)), (x23_3), (wrap64 (x23_3 + 1)), (by first | rfl | (simp; done) | (simp [*]; done) | (simp; unfold wrap64; omega)), (by first | rfl | (simp; done) | (simp [*]; done) | (simp; unfold wrap64; omega)), (by first | rfl | (simp; done) | (simp [*]; done) | (simp; unfold wrap64; omega)), H', ⟨by have := HK1.out; have := HK2.out; have := HK3.out; omega⟩, ⟨by (with_reducible repeat (first | refine blk_drewN ?_ _ | refine blk_drew ?_ | refine blk_alloc ?_ _)); exact BK247.out⟩, ⟨by repeat (first | (with_reducible first | exact HB.out | apply below_alloc | apply pw_below_drewN | apply below_drew1 | refine below_set ?_ GE247.out) | exact HB.out)⟩⟩
                                      · rw [if_neg c32] at H
                                        have c32b0 : decide (x21_3 < 0) = false := decide_eq_false c32
                                        clear c32
                                        have H' := Aside0.mk H
                                        clear H
                                        go_wp2_with (first | ((with_reducible refine gate_callee (f := 7) rfl ?_); refine goesL_ (some 153) rfl rfl Tryd.func7 (by kernel_rfl) rfl #[.agg #[.int .i64 2, .int .i64 0, .int .i64 x22_2, .int .i64 (wrap64 (Int.tmod (IntKind.u64.wrap (a1)) 7)), .int .i64 0, .int .i64 0, .int .i64 0, .int .i64 0, .int .i64 0, .int .i64 0], .int .i64 (wrap64 ((wrap64 ((wrap64 ((wrap64 (Int.tmod (IntKind.u64.wrap (a0)) 3000000)) - t245)) + 1)) + x23_3))] rfl (by (try simp only [List.map_toArray, List.map_cons, List.map_nil]); first | done | rfl | (simp only [List.length_drop, List.length_take]; rfl)) ?_; (with_reducible refine (rule_Match.calls k3 2 0 x22_2 (wrap64 (Int.tmod (IntKind.u64.wrap (a1)) 7)) 0 0 0 0 0 0 (wrap64 ((wrap64 ((wrap64 ((wrap64 (Int.tmod (IntKind.u64.wrap (a0)) 3000000)) - t245)) + 1)) + x23_3)) true none _ A26.out).mono ?_); rintro e w35 ⟨rfl, hb⟩; refine ⟨_, rfl, ?_⟩; have n0_ := Aside0.mk (blk_below (g := gb247) (o := .cells #[.int .i64 t243, .int .i64 t244, .int .i64 t245] 24 (0, 0)) (by (with_reducible repeat (first | refine blk_drewN ?_ _ | refine blk_drew ?_ | refine blk_alloc ?_ _)); exact BK247.out) hb); have n1_ := Aside0.mk (below_step (by repeat (first | (with_reducible first | exact HB.out | apply below_alloc | apply pw_below_drewN | apply below_drew1 | refine below_set ?_ GE247.out) | exact HB.out)) hb); clear BK247; clear HB; have BK247 := n0_; have HB := n1_; clear n0_ n1_; (try clear hb); (try clear hb2); (try clear hk); (try clear hi); (try simp only [errW_none, errW_some])) | ((with_reducible refine gate_callee (f := 8) rfl ?_); refine goesL_ (some 162) rfl rfl Tryd.func8 (by kernel_rfl) rfl #[.int .i64 (wrap64 ((wrap64 ((wrap64 ((wrap64 (Int.tmod (IntKind.u64.wrap (a0)) 3000000)) - t245)) + 1)) + x23_3))] rfl (by (try simp only [List.map_toArray, List.map_cons, List.map_nil]); first | done | rfl | (simp only [List.length_drop, List.length_take]; rfl)) ?_; (with_reducible refine (civil_Weekday.calls (wrap64 ((wrap64 ((wrap64 ((wrap64 (Int.tmod (IntKind.u64.wrap (a0)) 3000000)) - t245)) + 1)) + x23_3)) t263 _ A28.out).mono ?_); rintro e w' ⟨rfl, ⟨nd, rfl⟩⟩; refine ⟨_, rfl, ?_⟩))
                                        go_roundg k3
                                        case measure => have := HK1.out; have := HK2.out; have := HK3.out; omega
                                        case rel => exact ⟨(wrap64 (x12_3 + 1)), (x23_3), (wrap64 (x23_3 + 1)), (by first | rfl | (simp; done) | (simp [*]; done) | (simp; unfold wrap64; omega)), (by first | rfl | (simp; done) | (simp [*]; done) | (simp; unfold wrap64; omega)), (by first | rfl | (simp; done) | (simp [*]; done) | (simp; unfold wrap64; omega)), H', ⟨by have := HK1.out; have := HK2.out; have := HK3.out; omega⟩, ⟨by (with_reducible repeat (first | refine blk_drewN ?_ _ | refine blk_drew ?_ | refine blk_alloc ?_ _)); exact BK247.out⟩, ⟨by repeat (first | (with_reducible first | exact HB.out | apply below_alloc | apply pw_below_drewN | apply below_drew1 | refine below_set ?_ GE247.out) | exact HB.out)⟩⟩
                                    · rw [if_neg c31] at H
                                      exact absurd H (by simp)
                                  · rw [if_neg c30] at H
                                    have c30b0 : decide (0 ≤ x21_3) = false := decide_eq_false c30
                                    clear c30
                                    by_cases c36 : x21_3 < 0
                                    · rw [if_pos c36] at H
                                      have c36b0 : decide (x21_3 < 0) = true := decide_eq_true c36
                                      clear c36
                                      by_cases c37 : x23_3 > 6
                                      · rw [if_pos c37] at H
                                        exact absurd H (by simp)
                                      · rw [if_neg c37] at H
                                        have c37b0 : decide (6 < x23_3) = false := decide_eq_false c37
                                        clear c37
                                        have H' := Aside0.mk H
                                        clear H
                                        go_wp2_with (first | ((with_reducible refine gate_callee (f := 7) rfl ?_); refine goesL_ (some 153) rfl rfl Tryd.func7 (by kernel_rfl) rfl #[.agg #[.int .i64 2, .int .i64 0, .int .i64 x22_2, .int .i64 (wrap64 (Int.tmod (IntKind.u64.wrap (a1)) 7)), .int .i64 0, .int .i64 0, .int .i64 0, .int .i64 0, .int .i64 0, .int .i64 0], .int .i64 (wrap64 ((wrap64 ((wrap64 ((wrap64 (Int.tmod (IntKind.u64.wrap (a0)) 3000000)) - t245)) + 1)) + x23_3))] rfl (by (try simp only [List.map_toArray, List.map_cons, List.map_nil]); first | done | rfl | (simp only [List.length_drop, List.length_take]; rfl)) ?_; (with_reducible refine (rule_Match.calls k3 2 0 x22_2 (wrap64 (Int.tmod (IntKind.u64.wrap (a1)) 7)) 0 0 0 0 0 0 (wrap64 ((wrap64 ((wrap64 ((wrap64 (Int.tmod (IntKind.u64.wrap (a0)) 3000000)) - t245)) + 1)) + x23_3)) true none _ A26.out).mono ?_); rintro e w38 ⟨rfl, hb⟩; refine ⟨_, rfl, ?_⟩; have n0_ := Aside0.mk (blk_below (g := gb247) (o := .cells #[.int .i64 t243, .int .i64 t244, .int .i64 t245] 24 (0, 0)) (by (with_reducible repeat (first | refine blk_drewN ?_ _ | refine blk_drew ?_ | refine blk_alloc ?_ _)); exact BK247.out) hb); have n1_ := Aside0.mk (below_step (by repeat (first | (with_reducible first | exact HB.out | apply below_alloc | apply pw_below_drewN | apply below_drew1 | refine below_set ?_ GE247.out) | exact HB.out)) hb); clear BK247; clear HB; have BK247 := n0_; have HB := n1_; clear n0_ n1_; (try clear hb); (try clear hb2); (try clear hk); (try clear hi); (try simp only [errW_none, errW_some])) | ((with_reducible refine gate_callee (f := 8) rfl ?_); refine goesL_ (some 162) rfl rfl Tryd.func8 (by kernel_rfl) rfl #[.int .i64 (wrap64 ((wrap64 ((wrap64 ((wrap64 (Int.tmod (IntKind.u64.wrap (a0)) 3000000)) - t245)) + 1)) + x23_3))] rfl (by (try simp only [List.map_toArray, List.map_cons, List.map_nil]); first | done | rfl | (simp only [List.length_drop, List.length_take]; rfl)) ?_; (with_reducible refine (civil_Weekday.calls (wrap64 ((wrap64 ((wrap64 ((wrap64 (Int.tmod (IntKind.u64.wrap (a0)) 3000000)) - t245)) + 1)) + x23_3)) t263 _ A28.out).mono ?_); rintro e w' ⟨rfl, ⟨nd, rfl⟩⟩; refine ⟨_, rfl, ?_⟩))
                                        go_roundg k3
                                        case measure => have := HK1.out; have := HK2.out; have := HK3.out; omega
                                        case rel => exact ⟨(wrap64 (x12_3 + 1)), (x23_3), (wrap64 (x23_3 + 1)), (by first | rfl | (simp; done) | (simp [*]; done) | (simp; unfold wrap64; omega)), (by first | rfl | (simp; done) | (simp [*]; done) | (simp; unfold wrap64; omega)), (by first | rfl | (simp; done) | (simp [*]; done) | (simp; unfold wrap64; omega)), H', ⟨by have := HK1.out; have := HK2.out; have := HK3.out; omega⟩, ⟨by (with_reducible repeat (first | refine blk_drewN ?_ _ | refine blk_drew ?_ | refine blk_alloc ?_ _)); exact BK247.out⟩, ⟨by repeat (first | (with_reducible first | exact HB.out | apply below_alloc | apply pw_below_drewN | apply below_drew1 | refine below_set ?_ GE247.out) | exact HB.out)⟩⟩
                                    · rw [if_neg c36] at H
                                      have c36b0 : decide (x21_3 < 0) = false := decide_eq_false c36
                                      clear c36
                                      have H' := Aside0.mk H
                                      clear H
                                      go_wp2_with (first | ((with_reducible refine gate_callee (f := 7) rfl ?_); refine goesL_ (some 153) rfl rfl Tryd.func7 (by kernel_rfl) rfl #[.agg #[.int .i64 2, .int .i64 0, .int .i64 x22_2, .int .i64 (wrap64 (Int.tmod (IntKind.u64.wrap (a1)) 7)), .int .i64 0, .int .i64 0, .int .i64 0, .int .i64 0, .int .i64 0, .int .i64 0], .int .i64 (wrap64 ((wrap64 ((wrap64 ((wrap64 (Int.tmod (IntKind.u64.wrap (a0)) 3000000)) - t245)) + 1)) + x23_3))] rfl (by (try simp only [List.map_toArray, List.map_cons, List.map_nil]); first | done | rfl | (simp only [List.length_drop, List.length_take]; rfl)) ?_; (with_reducible refine (rule_Match.calls k3 2 0 x22_2 (wrap64 (Int.tmod (IntKind.u64.wrap (a1)) 7)) 0 0 0 0 0 0 (wrap64 ((wrap64 ((wrap64 ((wrap64 (Int.tmod (IntKind.u64.wrap (a0)) 3000000)) - t245)) + 1)) + x23_3)) true none _ A26.out).mono ?_); rintro e w39 ⟨rfl, hb⟩; refine ⟨_, rfl, ?_⟩; have n0_ := Aside0.mk (blk_below (g := gb247) (o := .cells #[.int .i64 t243, .int .i64 t244, .int .i64 t245] 24 (0, 0)) (by (with_reducible repeat (first | refine blk_drewN ?_ _ | refine blk_drew ?_ | refine blk_alloc ?_ _)); exact BK247.out) hb); have n1_ := Aside0.mk (below_step (by repeat (first | (with_reducible first | exact HB.out | apply below_alloc | apply pw_below_drewN | apply below_drew1 | refine below_set ?_ GE247.out) | exact HB.out)) hb); clear BK247; clear HB; have BK247 := n0_; have HB := n1_; clear n0_ n1_; (try clear hb); (try clear hb2); (try clear hk); (try clear hi); (try simp only [errW_none, errW_some])) | ((with_reducible refine gate_callee (f := 8) rfl ?_); refine goesL_ (some 162) rfl rfl Tryd.func8 (by kernel_rfl) rfl #[.int .i64 (wrap64 ((wrap64 ((wrap64 ((wrap64 (Int.tmod (IntKind.u64.wrap (a0)) 3000000)) - t245)) + 1)) + x23_3))] rfl (by (try simp only [List.map_toArray, List.map_cons, List.map_nil]); first | done | rfl | (simp only [List.length_drop, List.length_take]; rfl)) ?_; (with_reducible refine (civil_Weekday.calls (wrap64 ((wrap64 ((wrap64 ((wrap64 (Int.tmod (IntKind.u64.wrap (a0)) 3000000)) - t245)) + 1)) + x23_3)) t263 _ A28.out).mono ?_); rintro e w' ⟨rfl, ⟨nd, rfl⟩⟩; refine ⟨_, rfl, ?_⟩))
                                      go_roundg k3
                                      case measure => have := HK1.out; have := HK2.out; have := HK3.out; omega
                                      case rel => exact ⟨(wrap64 (x12_3 + 1)), (x23_3), (wrap64 (x23_3 + 1)), (by first | rfl | (simp; done) | (simp [*]; done) | (simp; unfold wrap64; omega)), (by first | rfl | (simp; done) | (simp [*]; done) | (simp; unfold wrap64; omega)), (by first | rfl | (simp; done) | (simp [*]; done) | (simp; unfold wrap64; omega)), H', ⟨by have := HK1.out; have := HK2.out; have := HK3.out; omega⟩, ⟨by (with_reducible repeat (first | refine blk_drewN ?_ _ | refine blk_drew ?_ | refine blk_alloc ?_ _)); exact BK247.out⟩, ⟨by repeat (first | (with_reducible first | exact HB.out | apply below_alloc | apply pw_below_drewN | apply below_drew1 | refine below_set ?_ GE247.out) | exact HB.out)⟩⟩
                                · rw [if_neg c29] at H
                                  exact absurd H (by simp)
                              · replace c27 := Bool.eq_false_iff.mpr c27
                                subst c27
                                have H1 : (belvederelaw06_RuleMonths.l3 k3 (wrap64 (Int.tmod (IntKind.u64.wrap (a1)) 7)) t248 (wrap64 ((wrap64 ((wrap64 (Int.tmod (IntKind.u64.wrap (a0)) 3000000)) - t245)) + 1)) x12_3 x21_3 x22_2 (wrap64 (x23_3 + 1))) = some r := by rw [if_neg (show ¬ (false = true) by decide)] at H; exact H
                                clear H
                                have H := H1
                                clear H1
                                have H' := Aside0.mk H
                                clear H
                                go_wp2_with (first | ((with_reducible refine gate_callee (f := 7) rfl ?_); refine goesL_ (some 153) rfl rfl Tryd.func7 (by kernel_rfl) rfl #[.agg #[.int .i64 2, .int .i64 0, .int .i64 x22_2, .int .i64 (wrap64 (Int.tmod (IntKind.u64.wrap (a1)) 7)), .int .i64 0, .int .i64 0, .int .i64 0, .int .i64 0, .int .i64 0, .int .i64 0], .int .i64 (wrap64 ((wrap64 ((wrap64 ((wrap64 (Int.tmod (IntKind.u64.wrap (a0)) 3000000)) - t245)) + 1)) + x23_3))] rfl (by (try simp only [List.map_toArray, List.map_cons, List.map_nil]); first | done | rfl | (simp only [List.length_drop, List.length_take]; rfl)) ?_; (with_reducible refine (rule_Match.calls k3 2 0 x22_2 (wrap64 (Int.tmod (IntKind.u64.wrap (a1)) 7)) 0 0 0 0 0 0 (wrap64 ((wrap64 ((wrap64 ((wrap64 (Int.tmod (IntKind.u64.wrap (a0)) 3000000)) - t245)) + 1)) + x23_3)) false none _ A26.out).mono ?_); rintro e w40 ⟨rfl, hb⟩; refine ⟨_, rfl, ?_⟩; have n0_ := Aside0.mk (blk_below (g := gb247) (o := .cells #[.int .i64 t243, .int .i64 t244, .int .i64 t245] 24 (0, 0)) (by (with_reducible repeat (first | refine blk_drewN ?_ _ | refine blk_drew ?_ | refine blk_alloc ?_ _)); exact BK247.out) hb); have n1_ := Aside0.mk (below_step (by repeat (first | (with_reducible first | exact HB.out | apply below_alloc | apply pw_below_drewN | apply below_drew1 | refine below_set ?_ GE247.out) | exact HB.out)) hb); clear BK247; clear HB; have BK247 := n0_; have HB := n1_; clear n0_ n1_; (try clear hb); (try clear hb2); (try clear hk); (try clear hi); (try simp only [errW_none, errW_some])))
                                go_roundg k3
                                case measure => have := HK1.out; have := HK2.out; have := HK3.out; omega
                                case rel => exact ⟨(x12_3), (x21_3), (wrap64 (x23_3 + 1)), (by first | rfl | (simp; done) | (simp [*]; done) | (simp; unfold wrap64; omega)), (by first | rfl | (simp; done) | (simp [*]; done) | (simp; unfold wrap64; omega)), (by first | rfl | (simp; done) | (simp [*]; done) | (simp; unfold wrap64; omega)), H', ⟨by have := HK1.out; have := HK2.out; have := HK3.out; omega⟩, ⟨by (with_reducible repeat (first | refine blk_drewN ?_ _ | refine blk_drew ?_ | refine blk_alloc ?_ _)); exact BK247.out⟩, ⟨by repeat (first | (with_reducible first | exact HB.out | apply below_alloc | apply pw_below_drewN | apply below_drew1 | refine below_set ?_ GE247.out) | exact HB.out)⟩⟩
                            · have H1 : (none) = some r := by rw [if_neg (show ¬ (some q262).isNone = true by simp)] at H; exact H
                              clear H
                              have H := H1
                              clear H1
                              try simp only [errW_none, errW_some]
                              exact absurd H (by simp)
                          · rw [if_neg c25] at H
                            have c25b0 : decide (x23_3 < t248) = false := decide_eq_false c25
                            clear c25
                            have H' := Aside0.mk H
                            clear H
                            go_wp2
                            go_roundg k3
                            case measure => have := HK1.out; have := HK2.out; have := HK3.out; omega
                            case rel => exact ⟨(x12_3), (x21_3), (wrap64 (x22_2 + 1)), (by first | rfl | (simp; done) | (simp [*]; done) | (simp; unfold wrap64; omega)), (by first | rfl | (simp; done) | (simp [*]; done) | (simp; unfold wrap64; omega)), (by first | rfl | (simp; done) | (simp [*]; done) | (simp; unfold wrap64; omega)), H', ⟨by have := HK1.out; have := HK2.out; have := HK3.out; omega⟩, ⟨by (with_reducible repeat (first | refine blk_drewN ?_ _ | refine blk_drew ?_ | refine blk_alloc ?_ _)); exact BK247.out⟩, ⟨by repeat (first | (with_reducible first | exact HB.out | apply below_alloc | apply pw_below_drewN | apply below_drew1 | refine below_set ?_ GE247.out) | exact HB.out)⟩⟩
                    · rw [if_neg c24] at H
                      have c24b0 : decide (x22_2 ≤ 5) = false := decide_eq_false c24
                      clear c24
                      by_cases c41 : x12_2 = 4
                      · rw [if_pos c41] at H
                        have c41b0 : (x12_2 == 4) = true := beq_iff_eq.mpr c41
                        have c41b1 : (x12_2 != 4) = false := bne_eq_false_iff_eq.mpr c41
                        clear c41
                        by_cases c42 : (wrap64 (x21_2 + 7)) ≥ t248
                        · rw [if_pos c42] at H
                          have c42b0 : decide (t248 ≤ (wrap64 (x21_2 + 7))) = true := decide_eq_true c42
                          clear c42
                          replace H := Option.bind_eq_some_iff.mp H
                          obtain ⟨t258, A430, H⟩ := H
                          replace H : (some t258) = some r := H
                          have A43 := Aside0.mk A430
                          clear A430
                          obtain rfl := Option.some.inj H
                          go_wp2_with (first | (go_at_call 9; (with_reducible refine (belvederelaw06_sure.calls k2  t258 _ A43.out ?side1).mono ?_); (case side1 => first | (with_reducible exact hG) | exact GR.below hG (by repeat (first | (with_reducible first | exact HB.out | apply below_alloc | apply pw_below_drewN | apply below_drew1 | refine below_set ?_ GE247.out) | exact HB.out)) | (repeat (first | exact hG | apply GR.drewN | apply GR.drew | apply GR.alloc))); rintro e w44 ⟨rfl, hb⟩; have n0_ := Aside0.mk (blk_below (g := gb247) (o := .cells #[.int .i64 t243, .int .i64 t244, .int .i64 t245] 24 (0, 0)) (by (with_reducible repeat (first | refine blk_drewN ?_ _ | refine blk_drew ?_ | refine blk_alloc ?_ _)); exact BK247.out) hb); have n1_ := Aside0.mk (below_step (by repeat (first | (with_reducible first | exact HB.out | apply below_alloc | apply pw_below_drewN | apply below_drew1 | refine below_set ?_ GE247.out) | exact HB.out)) hb); clear BK247; clear HB; have BK247 := n0_; have HB := n1_; clear n0_ n1_; (try clear hb); (try clear hb2); (try clear hk); (try clear hi)))
                          go_ret
                          exact ⟨by first | rfl | (simp [errW_none, errW_some] <;> rfl) | (simp [*, errW_none, errW_some] <;> rfl), by repeat (first | (with_reducible first | exact HB.out | apply below_alloc | apply pw_below_drewN | apply below_drew1 | refine below_set ?_ GE247.out) | exact HB.out)⟩
                        · rw [if_neg c42] at H
                          exact absurd H (by simp)
                      · rw [if_neg c41] at H
                        have c41b0 : (x12_2 == 4) = false := beq_eq_false_iff_ne.mpr c41
                        have c41b1 : (x12_2 != 4) = true := bne_iff_ne.mpr c41
                        by_cases c45 : x12_2 = 5
                        · rw [if_pos c45] at H
                          have c45b0 : (x12_2 == 5) = true := beq_iff_eq.mpr c45
                          have c45b1 : (x12_2 != 5) = false := bne_eq_false_iff_eq.mpr c45
                          clear c45
                          by_cases c46 : (wrap64 (x21_2 + 7)) ≥ t248
                          · rw [if_pos c46] at H
                            have c46b0 : decide (t248 ≤ (wrap64 (x21_2 + 7))) = true := decide_eq_true c46
                            clear c46
                            replace H := Option.bind_eq_some_iff.mp H
                            obtain ⟨t259, A470, H⟩ := H
                            replace H : (some t259) = some r := H
                            have A47 := Aside0.mk A470
                            clear A470
                            obtain rfl := Option.some.inj H
                            go_wp2_with (first | (go_at_call 9; (with_reducible refine (belvederelaw06_sure.calls k2  t259 _ A47.out ?side1).mono ?_); (case side1 => first | (with_reducible exact hG) | exact GR.below hG (by repeat (first | (with_reducible first | exact HB.out | apply below_alloc | apply pw_below_drewN | apply below_drew1 | refine below_set ?_ GE247.out) | exact HB.out)) | (repeat (first | exact hG | apply GR.drewN | apply GR.drew | apply GR.alloc))); rintro e w48 ⟨rfl, hb⟩; have n0_ := Aside0.mk (blk_below (g := gb247) (o := .cells #[.int .i64 t243, .int .i64 t244, .int .i64 t245] 24 (0, 0)) (by (with_reducible repeat (first | refine blk_drewN ?_ _ | refine blk_drew ?_ | refine blk_alloc ?_ _)); exact BK247.out) hb); have n1_ := Aside0.mk (below_step (by repeat (first | (with_reducible first | exact HB.out | apply below_alloc | apply pw_below_drewN | apply below_drew1 | refine below_set ?_ GE247.out) | exact HB.out)) hb); clear BK247; clear HB; have BK247 := n0_; have HB := n1_; clear n0_ n1_; (try clear hb); (try clear hb2); (try clear hk); (try clear hi)))
                            go_ret
                            exact ⟨by first | rfl | (simp [errW_none, errW_some] <;> rfl) | (simp [*, errW_none, errW_some] <;> rfl), by repeat (first | (with_reducible first | exact HB.out | apply below_alloc | apply pw_below_drewN | apply below_drew1 | refine below_set ?_ GE247.out) | exact HB.out)⟩
                          · rw [if_neg c46] at H
                            exact absurd H (by simp)
                        · rw [if_neg c45] at H
                          exact absurd H (by simp)
    · have H1 : (none) = some r := by rw [if_neg (show ¬ (some q251).isNone = true by simp)] at H; exact H
      clear H
      have H := H1
      clear H1
      try simp only [errW_none, errW_some]
      exact absurd H (by simp)
  · have H1 : (none) = some r := by rw [if_neg (show ¬ (some q250).isNone = true by simp)] at H; exact H
    clear H
    have H := H1
    clear H1
    try simp only [errW_none, errW_some]
    exact absurd H (by simp)

/-- THE ONE PURE STATEMENT of belvederelaw06_RuleMonths: yours. -/
def belvederelaw06_RuleMonths.Pure : Prop := ∀ (a0 : Int) (a1 : Int), (Lit.int .i64 a0).wf = true → (Lit.int .i64 a1).wf = true → ∃ k, belvederelaw06_RuleMonths.f k a0 a1 = some true
theorem belvederelaw06_RuleMonths.walk (P : belvederelaw06_RuleMonths.Pure) (a0 : Int) (a1 : Int) (w : World) (w0 : (Lit.int .i64 a0).wf = true) (w1 : (Lit.int .i64 a1).wf = true) (hG : GR w) :
    Calls Tryd.prog 3 #[.int .i64 a0, .int .i64 a1] w fun e w' => e = .returned (.bool true) ∧ Below w.heap.size w w' := by
  obtain ⟨k, h⟩ := P a0 a1 w0 w1
  refine (belvederelaw06_RuleMonths.calls k a0 a1 true w h hG).mono ?_
  rintro e w' ⟨rfl, hd⟩
  exact ⟨rfl, hd⟩

end Go.Proofs.YtpagbmkdphdjoaaDoor.P
