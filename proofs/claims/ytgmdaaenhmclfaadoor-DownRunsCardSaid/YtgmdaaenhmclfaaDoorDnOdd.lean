/- slices.IndexFunc, slices.ContainsFunc at down.odd: the printed walks. -/
import Derived.Test.YtgmdaaenhmclfaaDoorPx2
namespace Go.Proofs.YtgmdaaenhmclfaaDoor.P
open Go.RowKit Go.Proofs.YtgmdaaenhmclfaaDoorW.PrintWords Go.Proofs.YtgmdaaenhmclfaaDoorW.PrintLast Go.Proofs.YtgmdaaenhmclfaaDoorW.PrintMore
attribute [local go_sem] max2_int min2_int max_two min_two max_three min_three max_four min_four
set_option linter.unusedVariables false
set_option linter.unusedSimpArgs false
/-! ### dI41: function 25 -/
def dI41.l0 : Nat → List (S47) → Int → Int → Option (Int)
  | 0, _, _, _ => none
  | k + 1, x0, x7, x8 => if x8 < x7 then (if 0 ≤ x8 then (if x8 < (x0.length : Int) then ((down_odd.f k ((rd_T47 x0 x8).f0) ((rd_T47 x0 x8).f1) ((rd_T47 x0 x8).f2) ((rd_T47 x0 x8).f3) ((rd_T47 x0 x8).f4) ((rd_T47 x0 x8).f5) ((rd_T47 x0 x8).f6) ((rd_T47 x0 x8).f7)).bind fun t106 => (if t106 = true then (some x8) else (dI41.l0 k x0 x7 (wrap64 (x8 + 1))))) else (none)) else (none)) else (some (-1))
def dI41.f (k : Nat) (l0 : List (S47))  : Option (Int) := dI41.l0 k l0 (l0.length : Int) 0
theorem dI41.mono_l : ∀ k, (∀ y0 y1 y2, LeO (dI41.l0 k y0 y1 y2) (dI41.l0 (k + 1) y0 y1 y2))
  | 0 => fun _ _ _ r h => by simp [dI41.l0] at h
  | k + 1 => by
    have ih0 := dI41.mono_l k
    · intro y0 y1 y2
      unfold dI41.l0
      repeat' first
      | (with_reducible exact ih0 _ _ _)
      | (with_reducible exact down_odd.mono _ _ _ _ _ _ _ _ _)
      | (with_reducible exact LeO.refl _)
      | (with_reducible exact LeO.none _)
      | (with_reducible refine LeO.ite ?_ ?_)
      | (with_reducible refine LeO.bind ?_ (fun _ => ?_))
      | exact ih0 _ _ _
      | exact down_odd.mono _ _ _ _ _ _ _ _ _
      | exact LeO.none _
      | refine LeO.ite ?_ ?_
      | refine LeO.bind ?_ (fun _ => ?_)
theorem dI41.mono : ∀ a0 k, LeO (dI41.f k a0) (dI41.f (k + 1) a0) := by
  intro a0 k
  have ih0 := dI41.mono_l k
  unfold dI41.f
  repeat' first
      | (with_reducible exact ih0 _ _ _)
      | (with_reducible exact down_odd.mono _ _ _ _ _ _ _ _ _)
      | (with_reducible exact LeO.refl _)
      | (with_reducible exact LeO.none _)
      | (with_reducible refine LeO.ite ?_ ?_)
      | (with_reducible refine LeO.bind ?_ (fun _ => ?_))
      | exact ih0 _ _ _
      | exact down_odd.mono _ _ _ _ _ _ _ _ _
      | exact LeO.none _
      | refine LeO.ite ?_ ?_
      | refine LeO.bind ?_ (fun _ => ?_)
set_option maxRecDepth 100000 in
set_option maxHeartbeats 8000000 in
set_option maxRecDepth 100000 in
theorem dI41.calls (k : Nat) (A0 : Option Addr) (c0 : Nat) (l0 : List (S47))  (r : Int) (w : World) (hr0 : Kd.C k47 w A0 l0.length l0) (hc0 : l0.length ≤ c0) (h : dI41.f k l0 = some r) :
    Calls Tryd.prog 41 #[.slice A0 l0.length c0, .func (.func 30) #[] #[]] w fun e w' => e = .returned (.int .i64 r) ∧ Below w.heap.size w w' := by
  have hu47 := Tryd.underlying47
  have HR0 := As hr0
  have HC0 := As hc0
  clear hr0 hc0
  have HB := As (Below.refl w.heap.size w)
  have H : (dI41.l0 k l0 (l0.length : Int) 0) = some r := h
  clear h
  have H' := As H
  clear H
  go_enter Tryd.func41, Tryd.ntmps41
  go_wp2
  go_loopg [8] k (fun kq v8 w' => ∃ (x8_1 : Int), v8 = .int .i64 x8_1 ∧ Aside0 (dI41.l0 kq l0 (l0.length : Int) x8_1 = some r) ∧ Aside0 (kq ≤ k) ∧ Aside0 (Below w.heap.size w w'))
  case atStart => exact ⟨(0), (by first | rfl | (simp; done) | (simp [*]; done)), H', ⟨Nat.le_refl _⟩, ⟨by repeat (first | (with_reducible first | exact HB.out | apply XA | apply XN | apply XD) | exact HB.out)⟩⟩
  case round =>
    clear H'
    try clear p2
    obtain ⟨x8_1, rfl, HA, HK1, HB⟩ := hrel
    cases gk with
    | zero => exact absurd HA.out (by simp [dI41.l0])
    | succ k1 =>
      have H := HA.out
      clear HA
      simp only [dI41.l0] at H
      by_cases c3 : x8_1 < (l0.length : Int)
      · rw [if_pos c3] at H
        have c3b0 : decide (x8_1 < (l0.length : Int)) = true := dY c3
        clear c3
        by_cases c4 : 0 ≤ x8_1
        · rw [if_pos c4] at H
          have c4b0 : decide (0 ≤ x8_1) = true := dY c4
          clear c4
          by_cases c5 : x8_1 < (l0.length : Int)
          · rw [if_pos c5] at H
            have c5b0 : decide (x8_1 < (l0.length : Int)) = true := dY c5
            clear c5
            replace H := bE H
            obtain ⟨t106, A60, H⟩ := H
            replace H : (if t106 = true then (some x8_1) else (dI41.l0 k1 l0 (l0.length : Int) (wrap64 (x8_1 + 1)))) = some r := H
            have A6 := As A60
            clear A60
            by_cases c7 : t106 = true
            · subst c7
              have H1 : (some x8_1) = some r := by rw [if_pos rfl] at H; exact H
              clear H
              have H := H1
              clear H1
              obtain rfl := Option.some.inj H
              have p105 : 0 ≤ (x8_1 : Int) := dT (by first | (with_reducible assumption) | assumption)
              have q105 : x8_1 < (l0.length : Int) := dT (by first | (with_reducible assumption) | assumption)
              obtain ⟨ad105, e105, hx105_0, hx105_1, hx105_2, hx105_3, hx105_4, hx105_5, hx105_6, hx105_7⟩ := at_T47 HR0.out x8_1 p105 q105
              cases e105
              replace hx105_0 := (HB.out.cell (BL w _ hx105_0)).trans hx105_0
              replace hx105_1 := (HB.out.cell (BL w _ hx105_1)).trans hx105_1
              replace hx105_2 := (HB.out.cell (BL w _ hx105_2)).trans hx105_2
              replace hx105_3 := (HB.out.cell (BL w _ hx105_3)).trans hx105_3
              replace hx105_4 := (HB.out.cell (BL w _ hx105_4)).trans hx105_4
              replace hx105_5 := (HB.out.cell (BL w _ hx105_5)).trans hx105_5
              replace hx105_6 := (HB.out.cell (BL w _ hx105_6)).trans hx105_6
              replace hx105_7 := (HB.out.cell (BL w _ hx105_7)).trans hx105_7
              replace p105 := eq_true p105
              replace q105 := eq_true q105
              go_wp2_with (first | ((with_reducible refine gate_dst (N := 16) rfl ?_); refine goesT_ (some 16) rfl rfl Tryd.func30 (by kernel_rfl) rfl #[.agg #[.int .i64 ((rd_T47 l0 x8_1).f0), .int .i64 ((rd_T47 l0 x8_1).f1), .int .i64 ((rd_T47 l0 x8_1).f2), .int .i64 ((rd_T47 l0 x8_1).f3), .bool ((rd_T47 l0 x8_1).f4), .int .i64 ((rd_T47 l0 x8_1).f5), .int .i64 ((rd_T47 l0 x8_1).f6), .int .i64 ((rd_T47 l0 x8_1).f7)]] rfl rfl (by (try simp only [List.map_toArray, List.map_cons, List.map_nil]); first | done | rfl | (simp only [List.length_drop, List.length_take]; rfl)) ?_; (with_reducible refine (down_odd.calls k1 ((rd_T47 l0 x8_1).f0) ((rd_T47 l0 x8_1).f1) ((rd_T47 l0 x8_1).f2) ((rd_T47 l0 x8_1).f3) ((rd_T47 l0 x8_1).f4) ((rd_T47 l0 x8_1).f5) ((rd_T47 l0 x8_1).f6) ((rd_T47 l0 x8_1).f7) true _ A6.out).mono ?_); rintro e w8 ⟨rfl, hb⟩; refine ⟨_, rfl, ?_⟩; have n0_ := As (XT (by repeat (first | (with_reducible first | exact HB.out | apply XA | apply XN | apply XD) | exact HB.out)) hb); clear HB; have HB := n0_; clear n0_; (try clear hb); (try clear hb2); (try clear hk); (try clear hi)))
              go_ret
              exact ⟨by first | rfl | (simp [errW_none, errW_some] <;> rfl) | (simp [*, errW_none, errW_some] <;> rfl), by repeat (first | (with_reducible first | exact HB.out | apply XA | apply XN | apply XD) | exact HB.out)⟩
            · replace c7 := Bool.eq_false_iff.mpr c7
              subst c7
              have H1 : (dI41.l0 k1 l0 (l0.length : Int) (wrap64 (x8_1 + 1))) = some r := by rw [if_neg (show ¬ (false = true) by decide)] at H; exact H
              clear H
              have H := H1
              clear H1
              have H' := As H
              clear H
              have p105 : 0 ≤ (x8_1 : Int) := dT (by first | (with_reducible assumption) | assumption)
              have q105 : x8_1 < (l0.length : Int) := dT (by first | (with_reducible assumption) | assumption)
              obtain ⟨ad105, e105, hx105_0, hx105_1, hx105_2, hx105_3, hx105_4, hx105_5, hx105_6, hx105_7⟩ := at_T47 HR0.out x8_1 p105 q105
              cases e105
              replace hx105_0 := (HB.out.cell (BL w _ hx105_0)).trans hx105_0
              replace hx105_1 := (HB.out.cell (BL w _ hx105_1)).trans hx105_1
              replace hx105_2 := (HB.out.cell (BL w _ hx105_2)).trans hx105_2
              replace hx105_3 := (HB.out.cell (BL w _ hx105_3)).trans hx105_3
              replace hx105_4 := (HB.out.cell (BL w _ hx105_4)).trans hx105_4
              replace hx105_5 := (HB.out.cell (BL w _ hx105_5)).trans hx105_5
              replace hx105_6 := (HB.out.cell (BL w _ hx105_6)).trans hx105_6
              replace hx105_7 := (HB.out.cell (BL w _ hx105_7)).trans hx105_7
              replace p105 := eq_true p105
              replace q105 := eq_true q105
              go_wp2_with (first | ((with_reducible refine gate_dst (N := 16) rfl ?_); refine goesT_ (some 16) rfl rfl Tryd.func30 (by kernel_rfl) rfl #[.agg #[.int .i64 ((rd_T47 l0 x8_1).f0), .int .i64 ((rd_T47 l0 x8_1).f1), .int .i64 ((rd_T47 l0 x8_1).f2), .int .i64 ((rd_T47 l0 x8_1).f3), .bool ((rd_T47 l0 x8_1).f4), .int .i64 ((rd_T47 l0 x8_1).f5), .int .i64 ((rd_T47 l0 x8_1).f6), .int .i64 ((rd_T47 l0 x8_1).f7)]] rfl rfl (by (try simp only [List.map_toArray, List.map_cons, List.map_nil]); first | done | rfl | (simp only [List.length_drop, List.length_take]; rfl)) ?_; (with_reducible refine (down_odd.calls k1 ((rd_T47 l0 x8_1).f0) ((rd_T47 l0 x8_1).f1) ((rd_T47 l0 x8_1).f2) ((rd_T47 l0 x8_1).f3) ((rd_T47 l0 x8_1).f4) ((rd_T47 l0 x8_1).f5) ((rd_T47 l0 x8_1).f6) ((rd_T47 l0 x8_1).f7) false _ A6.out).mono ?_); rintro e w9 ⟨rfl, hb⟩; refine ⟨_, rfl, ?_⟩; have n0_ := As (XT (by repeat (first | (with_reducible first | exact HB.out | apply XA | apply XN | apply XD) | exact HB.out)) hb); clear HB; have HB := n0_; clear n0_; (try clear hb); (try clear hb2); (try clear hk); (try clear hi)))
              go_roundg k1
              case measure => have := HK1.out; omega
              case rel => exact ⟨(wrap64 (x8_1 + 1)), (by first | rfl | (simp; done) | (simp [*]; done)), H', ⟨by have := HK1.out; omega⟩, ⟨by repeat (first | (with_reducible first | exact HB.out | apply XA | apply XN | apply XD) | exact HB.out)⟩⟩
          · rw [if_neg c5] at H
            exact absurd H (by simp)
        · rw [if_neg c4] at H
          exact absurd H (by simp)
      · rw [if_neg c3] at H
        have c3b0 : decide (x8_1 < (l0.length : Int)) = false := dN c3
        clear c3
        obtain rfl := Option.some.inj H
        go_wp2
        go_ret
        exact ⟨by first | rfl | (simp [errW_none, errW_some] <;> rfl) | (simp [*, errW_none, errW_some] <;> rfl), by repeat (first | (with_reducible first | exact HB.out | apply XA | apply XN | apply XD) | exact HB.out)⟩

/-! ### dC32: function 21 -/
def dC32.f (k : Nat) (l0 : List (S47))  : Option (Bool) := (dI41.f k l0).bind fun t107 => (some (decide (t107 ≥ 0)))
theorem dC32.mono : ∀ a0 k, LeO (dC32.f k a0) (dC32.f (k + 1) a0) := by
  intro a0 k
  unfold dC32.f
  repeat' first
      | (with_reducible exact dI41.mono _ _)
      | (with_reducible exact LeO.refl _)
      | (with_reducible exact LeO.none _)
      | (with_reducible refine LeO.ite ?_ ?_)
      | (with_reducible refine LeO.bind ?_ (fun _ => ?_))
      | exact dI41.mono _ _
      | exact LeO.none _
      | refine LeO.ite ?_ ?_
      | refine LeO.bind ?_ (fun _ => ?_)
set_option maxRecDepth 100000 in
set_option maxHeartbeats 8000000 in
set_option maxRecDepth 100000 in
theorem dC32.calls (k : Nat) (A0 : Option Addr) (c0 : Nat) (l0 : List (S47))  (r : Bool) (w : World) (hr0 : Kd.C k47 w A0 l0.length l0) (hc0 : l0.length ≤ c0) (h : dC32.f k l0 = some r) :
    Calls Tryd.prog 32 #[.slice A0 l0.length c0, .func (.func 30) #[] #[]] w fun e w' => e = .returned (.bool r) ∧ Below w.heap.size w w' := by
  have HR0 := As hr0
  have HC0 := As hc0
  clear hr0 hc0
  have HB := As (Below.refl w.heap.size w)
  have H : ((dI41.f k l0).bind fun t107 => (some (decide (t107 ≥ 0)))) = some r := h
  clear h
  replace H := bE H
  obtain ⟨t107, A30, H⟩ := H
  replace H : (some (decide (t107 ≥ 0))) = some r := H
  have A3 := As A30
  clear A30
  obtain rfl := Option.some.inj H
  go_enter Tryd.func32, Tryd.ntmps32
  go_wp2_with (first | ((with_reducible refine gate_callee (f := 41) rfl ?_); refine goesL_ (some 7) rfl rfl Tryd.func41 (by kernel_rfl) rfl #[.slice A0 l0.length c0, .func (.func 30) #[] #[]] rfl (by (try simp only [List.map_toArray, List.map_cons, List.map_nil]); first | done | rfl | (simp only [List.length_drop, List.length_take]; rfl)) ?_; (with_reducible refine (dI41.calls k _ _ l0  t107 _ ?side1 ?side2 A3.out).mono ?_); (case side1 => repeat (first | exact HR0.out | (with_reducible refine Kd.C_alloc ?_ _) | (with_reducible refine Kd.C_drewN ?_ _) | (with_reducible refine Kd.C_drew ?_))); (case side2 => exact HC0.out); rintro e w4 ⟨rfl, hb⟩; refine ⟨_, rfl, ?_⟩; have n0_ := As (XT (by repeat (first | (with_reducible first | exact HB.out | apply XA | apply XN | apply XD) | exact HB.out)) hb); clear HB; have HB := n0_; clear n0_; (try clear hb); (try clear hb2); (try clear hk); (try clear hi)))
  go_ret
  exact ⟨by first | rfl | (simp [errW_none, errW_some] <;> rfl) | (simp [*, errW_none, errW_some] <;> rfl), by repeat (first | (with_reducible first | exact HB.out | apply XA | apply XN | apply XD) | exact HB.out)⟩

end Go.Proofs.YtgmdaaenhmclfaaDoor.P
