-- written by myprint.py (this claim's own program, after the kit's print)
import Derived.Test.YtgmdaaenhmclfaaDoorPx0
import Derived.Test.YtgmdaaenhmclfaaDoorPack
namespace Go.Proofs.YtgmdaaenhmclfaaDoor.P
open Go.RowKit Go.Proofs.YtgmdaaenhmclfaaDoorW.PrintWords Go.Proofs.YtgmdaaenhmclfaaDoorW.PrintLast Go.Proofs.YtgmdaaenhmclfaaDoorW.PrintMore
attribute [local go_sem] max2_int min2_int max_two min_two max_three min_three max_four min_four   -- for this text's walks alone
set_option linter.unusedVariables false
set_option linter.unusedSimpArgs false

/-! ### down_timely: function 23 -/
def down_timely.f (a0 : Int) : Option (Bool) := if a0 ≥ 0 then (some (decide (a0 ≤ 4611686018427387904))) else (some false)
set_option maxHeartbeats 8000000 in
set_option maxRecDepth 100000 in
theorem down_timely.calls (a0 : Int) (r : Bool) (w : World) (h : down_timely.f a0 = some r) :
  Calls Tryd.prog 23 #[.int .i64 a0] w fun e w' => e = .returned (.bool r) ∧ Drawn0 w w' := by
 have H : (if a0 ≥ 0 then (some (decide (a0 ≤ 4611686018427387904))) else (some false)) = some r := h;clear h
 by_cases c2 : a0 ≥ 0
 ·rw [if_pos c2] at H;have c2b0 : decide (0 ≤ a0) = true := dY c2;clear c2;obtain rfl := Option.some.inj H
  go_enter Tryd.func23, Tryd.ntmps23
  go_wp2
  go_ret
  exact ⟨by first | rfl | (simp; done) | (simp [*]; done) | (simp; unfold wrap64; omega), by repeat (first | exact Drawn0.refl _ | apply Drawn0.step)⟩
 ·rw [if_neg c2] at H;have c2b0 : decide (0 ≤ a0) = false := dN c2;clear c2;obtain rfl := Option.some.inj H
  go_enter Tryd.func23, Tryd.ntmps23
  go_wp2
  go_ret
  exact ⟨by first | rfl | (simp; done) | (simp [*]; done) | (simp; unfold wrap64; omega), by repeat (first | exact Drawn0.refl _ | apply Drawn0.step)⟩

/-! ### down_odd: function 30 -/
def down_odd.j0 : Nat → Bool → Int → Int → Int → Int → Bool → Int → Int → Int → Option (Bool)
 | 0, _, _, _, _, _, _, _, _, _ => none
 | k + 1, x29, x102000, x102001, x102002, x102003, x102004, x102005, x102006, x102007 => if x29 = true then (some true) else (if x102004 = true then (if x102006 = 0 then (if x102005 = 0 then (some (x102007 != (-1))) else (some true)) else (some true)) else (if x102006 < 0 then (some true) else (if x102006 ≥ x102000 then (some true) else (if x102005 < 1 then (some true) else (if x102005 > 34560000 then (some true) else (if x102007 = (-1) then (some false) else ((down_timely.f x102007).bind fun t104 => (some (!t104)))))))))
def down_odd.f (k : Nat) (a0_0 : Int) (a0_1 : Int) (a0_2 : Int) (a0_3 : Int) (a0_4 : Bool) (a0_5 : Int) (a0_6 : Int) (a0_7 : Int) : Option (Bool) := if a0_0 < 1 then (down_odd.j0 k true a0_0 a0_1 a0_2 a0_3 a0_4 a0_5 a0_6 a0_7) else (if a0_1 < 0 then (down_odd.j0 k true a0_0 a0_1 a0_2 a0_3 a0_4 a0_5 a0_6 a0_7) else ((down_timely.f a0_2).bind fun t102 => (if t102 = true then ((down_timely.f a0_3).bind fun t103 => (if t103 = true then (down_odd.j0 k (decide (a0_2 ≥ a0_3)) a0_0 a0_1 a0_2 a0_3 a0_4 a0_5 a0_6 a0_7) else (down_odd.j0 k true a0_0 a0_1 a0_2 a0_3 a0_4 a0_5 a0_6 a0_7))) else (down_odd.j0 k true a0_0 a0_1 a0_2 a0_3 a0_4 a0_5 a0_6 a0_7))))
theorem down_odd.mono_l : ∀ k, (∀ y0 y1 y2 y3 y4 y5 y6 y7 y8, LeO (down_odd.j0 k y0 y1 y2 y3 y4 y5 y6 y7 y8) (down_odd.j0 (k + 1) y0 y1 y2 y3 y4 y5 y6 y7 y8))
 | 0 => fun _ _ _ _ _ _ _ _ _ r h => by simp [down_odd.j0] at h
 | k + 1 => by
  have ih0 := down_odd.mono_l k
  ·intro y0 y1 y2 y3 y4 y5 y6 y7 y8;unfold down_odd.j0
   repeat' first
   | (with_reducible exact ih0 _ _ _ _ _ _ _ _ _)
   | (with_reducible exact LeO.refl _)
   | (with_reducible exact LeO.none _)
   | (with_reducible refine LeO.ite ?_ ?_)
   | (with_reducible refine LeO.bind ?_ (fun _ => ?_))
   | exact ih0 _ _ _ _ _ _ _ _ _
   | exact LeO.none _
   | refine LeO.ite ?_ ?_
   | refine LeO.bind ?_ (fun _ => ?_)
theorem down_odd.mono : ∀ a0 a1 a2 a3 a4 a5 a6 a7 k, LeO (down_odd.f k a0 a1 a2 a3 a4 a5 a6 a7) (down_odd.f (k + 1) a0 a1 a2 a3 a4 a5 a6 a7) := by
 intro a0 a1 a2 a3 a4 a5 a6 a7 k;have ih0 := down_odd.mono_l k;unfold down_odd.f
 repeat' first
   | (with_reducible exact ih0 _ _ _ _ _ _ _ _ _)
   | (with_reducible exact LeO.refl _)
   | (with_reducible exact LeO.none _)
   | (with_reducible refine LeO.ite ?_ ?_)
   | (with_reducible refine LeO.bind ?_ (fun _ => ?_))
   | exact ih0 _ _ _ _ _ _ _ _ _
   | exact LeO.none _
   | refine LeO.ite ?_ ?_
   | refine LeO.bind ?_ (fun _ => ?_)
set_option maxHeartbeats 8000000 in
set_option maxRecDepth 100000 in
theorem down_odd.calls (k : Nat) (a0_0 : Int) (a0_1 : Int) (a0_2 : Int) (a0_3 : Int) (a0_4 : Bool) (a0_5 : Int) (a0_6 : Int) (a0_7 : Int) (r : Bool) (w : World) (h : down_odd.f k a0_0 a0_1 a0_2 a0_3 a0_4 a0_5 a0_6 a0_7 = some r) :
  Calls Tryd.prog 30 #[.agg #[.int .i64 a0_0, .int .i64 a0_1, .int .i64 a0_2, .int .i64 a0_3, .bool a0_4, .int .i64 a0_5, .int .i64 a0_6, .int .i64 a0_7]] w fun e w' => e = .returned (.bool r) ∧ Below w.heap.size w w' := by
 have hu47 := Tryd.underlying47;have HB := As (Below.refl w.heap.size w);have H : (if a0_0 < 1 then (down_odd.j0 k true a0_0 a0_1 a0_2 a0_3 a0_4 a0_5 a0_6 a0_7) else (if a0_1 < 0 then (down_odd.j0 k true a0_0 a0_1 a0_2 a0_3 a0_4 a0_5 a0_6 a0_7) else ((down_timely.f a0_2).bind fun t102 => (if t102 = true then ((down_timely.f a0_3).bind fun t103 => (if t103 = true then (down_odd.j0 k (decide (a0_2 ≥ a0_3)) a0_0 a0_1 a0_2 a0_3 a0_4 a0_5 a0_6 a0_7) else (down_odd.j0 k true a0_0 a0_1 a0_2 a0_3 a0_4 a0_5 a0_6 a0_7))) else (down_odd.j0 k true a0_0 a0_1 a0_2 a0_3 a0_4 a0_5 a0_6 a0_7))))) = some r := h;clear h;have HC2 := As H;clear H
 go_enter Tryd.func30, Tryd.ntmps30
 go_upto_region 1 with (first | ((with_reducible refine gate_dst (N := 1) rfl ?_); refine box_event ?hg (N := 1) ?hd (cs := #[.int .i64 a0_0, .int .i64 a0_1, .int .i64 a0_2, .int .i64 a0_3, .bool a0_4, .int .i64 a0_5, .int .i64 a0_6, .int .i64 a0_7]) (t := 47) ?hr ?_; (case hd => rfl); (case hg => rfl); (case hr => first | (go_simp; done) | (go_simp; rfl)); intro gb101 hg w3 hbox hb; have n0_ := As (XT (by repeat (first | (with_reducible first | exact HB.out | apply XA | apply XN | apply XD) | exact HB.out)) hb); have n1_ := As (hbox); have n2_ := As ((by rw [hg]; exact (XZ (by repeat (first | (with_reducible first | exact HB.out | apply XA | apply XN | apply XD) | exact HB.out))) : w.heap.size ≤ gb101)); have n3_ := As ((by rw [hg]; exact (XZ (by repeat (first | (with_reducible first | exact HB.out | apply XA | apply XN | apply XD) | exact HB.out))) : w.heap.size ≤ gb101)); clear HB; have HB := n0_; have BK101 := n1_; have GW101 := n2_; have GE101 := n3_; clear n0_ n1_ n2_ n3_; clear hb hbox hg))
 (try simp only [Act.put, List.setIfInBounds_toArray, List.set_cons_zero, List.set_cons_succ])
 go_cut [29] (fun v29 wc => ∃ (kq : Nat) (x29_1 : Bool), v29 = .bool x29_1 ∧ Aside0 (down_odd.j0 kq x29_1 a0_0 a0_1 a0_2 a0_3 a0_4 a0_5 a0_6 a0_7 = some r) ∧ Aside0 (kq ≤ k) ∧ Aside0 (wc.heap[gb101]? = some (.cells #[.int .i64 a0_0, .int .i64 a0_1, .int .i64 a0_2, .int .i64 a0_3, .bool a0_4, .int .i64 a0_5, .int .i64 a0_6, .int .i64 a0_7] 47 (0, 0))) ∧ Aside0 (Below w.heap.size w wc))
 case first =>
  have H := HC2.out;clear HC2
  by_cases c4 : a0_0 < 1
  ·rw [if_pos c4] at H;have c4b0 : decide (a0_0 < 1) = true := dY c4;clear c4
   (first | rw [c4b0] | (simp only [i64_w, i32_w]; rw [c4b0]) | skip)
   have H' := As H;clear H;obtain ⟨hcz5_0, hcz5_1, hcz5_2, hcz5_3, hcz5_4, hcz5_5, hcz5_6, hcz5_7, hfz5_0, hfz5_1, hfz5_2, hfz5_3, hfz5_4, hfz5_5, hfz5_6, hfz5_7⟩ := cz8 BK101.out
   go_wp2
   go_meet
   case rel => exact ⟨_, (true), (by first | rfl | (simp; done) | (simp [*]; done) | (simp; unfold wrap64; omega)), H', ⟨by first | omega | exact Nat.le_refl _⟩, ⟨by (with_reducible repeat (first | refine YN ?_ _ | refine YD ?_ | refine YA ?_ _)); exact BK101.out⟩, ⟨by repeat (first | (with_reducible first | exact HB.out | apply XA | apply XN | apply XD | refine XS ?_ GE101.out) | exact HB.out)⟩⟩
  ·rw [if_neg c4] at H;have c4b0 : decide (a0_0 < 1) = false := dN c4;clear c4
   (first | rw [c4b0] | (simp only [i64_w, i32_w]; rw [c4b0]) | skip)
   by_cases c6 : a0_1 < 0
   ·rw [if_pos c6] at H;have c6b0 : decide (a0_1 < 0) = true := dY c6;clear c6;have H' := As H;clear H;obtain ⟨hcz7_0, hcz7_1, hcz7_2, hcz7_3, hcz7_4, hcz7_5, hcz7_6, hcz7_7, hfz7_0, hfz7_1, hfz7_2, hfz7_3, hfz7_4, hfz7_5, hfz7_6, hfz7_7⟩ := cz8 BK101.out
    go_wp2
    go_meet
    case rel => exact ⟨_, (true), (by first | rfl | (simp; done) | (simp [*]; done) | (simp; unfold wrap64; omega)), H', ⟨by first | omega | exact Nat.le_refl _⟩, ⟨by (with_reducible repeat (first | refine YN ?_ _ | refine YD ?_ | refine YA ?_ _)); exact BK101.out⟩, ⟨by repeat (first | (with_reducible first | exact HB.out | apply XA | apply XN | apply XD | refine XS ?_ GE101.out) | exact HB.out)⟩⟩
   ·rw [if_neg c6] at H;have c6b0 : decide (a0_1 < 0) = false := dN c6;clear c6;replace H := bE H;obtain ⟨t102, A80, H⟩ := H;replace H : (if t102 = true then ((down_timely.f a0_3).bind fun t103 => (if t103 = true then (down_odd.j0 k (decide (a0_2 ≥ a0_3)) a0_0 a0_1 a0_2 a0_3 a0_4 a0_5 a0_6 a0_7) else (down_odd.j0 k true a0_0 a0_1 a0_2 a0_3 a0_4 a0_5 a0_6 a0_7))) else (down_odd.j0 k true a0_0 a0_1 a0_2 a0_3 a0_4 a0_5 a0_6 a0_7)) = some r := H;have A8 := As A80;clear A80
    by_cases c9 : t102 = true
    ·subst c9
     have H1 : ((down_timely.f a0_3).bind fun t103 => (if t103 = true then (down_odd.j0 k (decide (a0_2 ≥ a0_3)) a0_0 a0_1 a0_2 a0_3 a0_4 a0_5 a0_6 a0_7) else (down_odd.j0 k true a0_0 a0_1 a0_2 a0_3 a0_4 a0_5 a0_6 a0_7))) = some r := by rw [if_pos rfl] at H; exact H
     clear H;have H := H1;clear H1;replace H := bE H;obtain ⟨t103, A100, H⟩ := H;replace H : (if t103 = true then (down_odd.j0 k (decide (a0_2 ≥ a0_3)) a0_0 a0_1 a0_2 a0_3 a0_4 a0_5 a0_6 a0_7) else (down_odd.j0 k true a0_0 a0_1 a0_2 a0_3 a0_4 a0_5 a0_6 a0_7)) = some r := H;have A10 := As A100;clear A100
     by_cases c11 : t103 = true
     ·subst c11
      have H1 : (down_odd.j0 k (decide (a0_2 ≥ a0_3)) a0_0 a0_1 a0_2 a0_3 a0_4 a0_5 a0_6 a0_7) = some r := by rw [if_pos rfl] at H; exact H
      clear H;have H := H1;clear H1;have H' := As H;clear H;obtain ⟨hcz12_0, hcz12_1, hcz12_2, hcz12_3, hcz12_4, hcz12_5, hcz12_6, hcz12_7, hfz12_0, hfz12_1, hfz12_2, hfz12_3, hfz12_4, hfz12_5, hfz12_6, hfz12_7⟩ := cz8 BK101.out
      go_wp2_with (first | (go_at_call 23; (with_reducible refine (down_timely.calls a0_2 true _ A8.out).mono ?_); rintro e w' ⟨rfl, ⟨nd, rfl⟩⟩) | (go_at_call 23; (with_reducible refine (down_timely.calls a0_3 true _ A10.out).mono ?_); rintro e w' ⟨rfl, ⟨nd, rfl⟩⟩))
      go_meet
      case rel => exact ⟨_, (decide (a0_2 ≥ a0_3)), (by first | rfl | (simp; done) | (simp [*]; done) | (simp; unfold wrap64; omega)), H', ⟨by first | omega | exact Nat.le_refl _⟩, ⟨by (with_reducible repeat (first | refine YN ?_ _ | refine YD ?_ | refine YA ?_ _)); exact BK101.out⟩, ⟨by repeat (first | (with_reducible first | exact HB.out | apply XA | apply XN | apply XD | refine XS ?_ GE101.out) | exact HB.out)⟩⟩
     ·replace c11 := Bool.eq_false_iff.mpr c11;subst c11
      have H1 : (down_odd.j0 k true a0_0 a0_1 a0_2 a0_3 a0_4 a0_5 a0_6 a0_7) = some r := by rw [if_neg (show ¬ (false = true) by decide)] at H; exact H
      clear H;have H := H1;clear H1;have H' := As H;clear H;obtain ⟨hcz13_0, hcz13_1, hcz13_2, hcz13_3, hcz13_4, hcz13_5, hcz13_6, hcz13_7, hfz13_0, hfz13_1, hfz13_2, hfz13_3, hfz13_4, hfz13_5, hfz13_6, hfz13_7⟩ := cz8 BK101.out
      go_wp2_with (first | (go_at_call 23; (with_reducible refine (down_timely.calls a0_2 true _ A8.out).mono ?_); rintro e w' ⟨rfl, ⟨nd, rfl⟩⟩) | (go_at_call 23; (with_reducible refine (down_timely.calls a0_3 false _ A10.out).mono ?_); rintro e w' ⟨rfl, ⟨nd, rfl⟩⟩))
      go_meet
      case rel => exact ⟨_, (true), (by first | rfl | (simp; done) | (simp [*]; done) | (simp; unfold wrap64; omega)), H', ⟨by first | omega | exact Nat.le_refl _⟩, ⟨by (with_reducible repeat (first | refine YN ?_ _ | refine YD ?_ | refine YA ?_ _)); exact BK101.out⟩, ⟨by repeat (first | (with_reducible first | exact HB.out | apply XA | apply XN | apply XD | refine XS ?_ GE101.out) | exact HB.out)⟩⟩
    ·replace c9 := Bool.eq_false_iff.mpr c9;subst c9
     have H1 : (down_odd.j0 k true a0_0 a0_1 a0_2 a0_3 a0_4 a0_5 a0_6 a0_7) = some r := by rw [if_neg (show ¬ (false = true) by decide)] at H; exact H
     clear H;have H := H1;clear H1;have H' := As H;clear H;obtain ⟨hcz14_0, hcz14_1, hcz14_2, hcz14_3, hcz14_4, hcz14_5, hcz14_6, hcz14_7, hfz14_0, hfz14_1, hfz14_2, hfz14_3, hfz14_4, hfz14_5, hfz14_6, hfz14_7⟩ := cz8 BK101.out
     go_wp2_with (first | (go_at_call 23; (with_reducible refine (down_timely.calls a0_2 false _ A8.out).mono ?_); rintro e w' ⟨rfl, ⟨nd, rfl⟩⟩))
     go_meet
     case rel => exact ⟨_, (true), (by first | rfl | (simp; done) | (simp [*]; done) | (simp; unfold wrap64; omega)), H', ⟨by first | omega | exact Nat.le_refl _⟩, ⟨by (with_reducible repeat (first | refine YN ?_ _ | refine YD ?_ | refine YA ?_ _)); exact BK101.out⟩, ⟨by repeat (first | (with_reducible first | exact HB.out | apply XA | apply XN | apply XD | refine XS ?_ GE101.out) | exact HB.out)⟩⟩
 case rest =>
  clear HC2
  try clear c1
  try clear p2
  try clear c3
  try clear c4
  try clear c4b0
  try clear c6
  try clear c6b0
  try clear p6
  try clear c9
  try clear c11
  try clear hcz12_0 hcz12_1 hcz12_2 hcz12_3 hcz12_4 hcz12_5 hcz12_6 hcz12_7
  try clear hcz13_0 hcz13_1 hcz13_2 hcz13_3 hcz13_4 hcz13_5 hcz13_6 hcz13_7
  try clear hcz14_0 hcz14_1 hcz14_2 hcz14_3 hcz14_4 hcz14_5 hcz14_6 hcz14_7
  try clear hcz5_0 hcz5_1 hcz5_2 hcz5_3 hcz5_4 hcz5_5 hcz5_6 hcz5_7
  try clear hcz7_0 hcz7_1 hcz7_2 hcz7_3 hcz7_4 hcz7_5 hcz7_6 hcz7_7
  try clear hfz12_0 hfz12_1 hfz12_2 hfz12_3 hfz12_4 hfz12_5 hfz12_6 hfz12_7
  try clear hfz13_0 hfz13_1 hfz13_2 hfz13_3 hfz13_4 hfz13_5 hfz13_6 hfz13_7
  try clear hfz14_0 hfz14_1 hfz14_2 hfz14_3 hfz14_4 hfz14_5 hfz14_6 hfz14_7
  try clear hfz5_0 hfz5_1 hfz5_2 hfz5_3 hfz5_4 hfz5_5 hfz5_6 hfz5_7
  try clear hfz7_0 hfz7_1 hfz7_2 hfz7_3 hfz7_4 hfz7_5 hfz7_6 hfz7_7
  obtain ⟨kq, x29_1, rfl, HA, HJ1, BK101, HB⟩ := hcut
  cases kq with
  | zero => exact absurd HA.out (by simp [down_odd.j0])
  | succ kj1 =>
   have H := HA.out;clear HA;simp only [down_odd.j0] at H
   by_cases c15 : x29_1 = true
   ·subst c15
    have H1 : (some true) = some r := by rw [if_pos rfl] at H; exact H
    clear H;have H := H1;clear H1;obtain rfl := Option.some.inj H
    go_wp2
    go_ret
    exact ⟨by first | rfl | (simp [errW_none, errW_some] <;> rfl) | (simp [*, errW_none, errW_some] <;> rfl), by repeat (first | (with_reducible first | exact HB.out | apply XA | apply XN | apply XD | refine XS ?_ GE101.out) | exact HB.out)⟩
   ·replace c15 := Bool.eq_false_iff.mpr c15;subst c15
    have H1 : (if a0_4 = true then (if a0_6 = 0 then (if a0_5 = 0 then (some (a0_7 != (-1))) else (some true)) else (some true)) else (if a0_6 < 0 then (some true) else (if a0_6 ≥ a0_0 then (some true) else (if a0_5 < 1 then (some true) else (if a0_5 > 34560000 then (some true) else (if a0_7 = (-1) then (some false) else ((down_timely.f a0_7).bind fun t104 => (some (!t104))))))))) = some r := by rw [if_neg (show ¬ (false = true) by decide)] at H; exact H
    clear H;have H := H1;clear H1
    by_cases c16 : a0_4 = true
    ·subst c16
     have H1 : (if a0_6 = 0 then (if a0_5 = 0 then (some (a0_7 != (-1))) else (some true)) else (some true)) = some r := by rw [if_pos rfl] at H; exact H
     clear H;have H := H1;clear H1
     by_cases c17 : a0_6 = 0
     ·rw [if_pos c17] at H;have c17b0 : (a0_6 == 0) = true := beq_iff_eq.mpr c17;have c17b1 : (a0_6 != 0) = false := bne_eq_false_iff_eq.mpr c17;clear c17
      by_cases c18 : a0_5 = 0
      ·rw [if_pos c18] at H;have c18b0 : (a0_5 == 0) = true := beq_iff_eq.mpr c18;have c18b1 : (a0_5 != 0) = false := bne_eq_false_iff_eq.mpr c18;clear c18;obtain rfl := Option.some.inj H;obtain ⟨hcz19_0, hcz19_1, hcz19_2, hcz19_3, hcz19_4, hcz19_5, hcz19_6, hcz19_7, hfz19_0, hfz19_1, hfz19_2, hfz19_3, hfz19_4, hfz19_5, hfz19_6, hfz19_7⟩ := cz8 BK101.out
       go_wp2
       go_ret
       exact ⟨by first | rfl | (simp [errW_none, errW_some] <;> rfl) | (simp [*, errW_none, errW_some] <;> rfl), by repeat (first | (with_reducible first | exact HB.out | apply XA | apply XN | apply XD | refine XS ?_ GE101.out) | exact HB.out)⟩
      ·rw [if_neg c18] at H;have c18b0 : (a0_5 == 0) = false := beq_eq_false_iff_ne.mpr c18;have c18b1 : (a0_5 != 0) = true := bne_iff_ne.mpr c18;obtain rfl := Option.some.inj H;obtain ⟨hcz20_0, hcz20_1, hcz20_2, hcz20_3, hcz20_4, hcz20_5, hcz20_6, hcz20_7, hfz20_0, hfz20_1, hfz20_2, hfz20_3, hfz20_4, hfz20_5, hfz20_6, hfz20_7⟩ := cz8 BK101.out
       go_wp2
       go_ret
       exact ⟨by first | rfl | (simp [errW_none, errW_some] <;> rfl) | (simp [*, errW_none, errW_some] <;> rfl), by repeat (first | (with_reducible first | exact HB.out | apply XA | apply XN | apply XD | refine XS ?_ GE101.out) | exact HB.out)⟩
     ·rw [if_neg c17] at H;have c17b0 : (a0_6 == 0) = false := beq_eq_false_iff_ne.mpr c17;have c17b1 : (a0_6 != 0) = true := bne_iff_ne.mpr c17;obtain rfl := Option.some.inj H;obtain ⟨hcz21_0, hcz21_1, hcz21_2, hcz21_3, hcz21_4, hcz21_5, hcz21_6, hcz21_7, hfz21_0, hfz21_1, hfz21_2, hfz21_3, hfz21_4, hfz21_5, hfz21_6, hfz21_7⟩ := cz8 BK101.out
      go_wp2
      go_ret
      exact ⟨by first | rfl | (simp [errW_none, errW_some] <;> rfl) | (simp [*, errW_none, errW_some] <;> rfl), by repeat (first | (with_reducible first | exact HB.out | apply XA | apply XN | apply XD | refine XS ?_ GE101.out) | exact HB.out)⟩
    ·replace c16 := Bool.eq_false_iff.mpr c16;subst c16
     have H1 : (if a0_6 < 0 then (some true) else (if a0_6 ≥ a0_0 then (some true) else (if a0_5 < 1 then (some true) else (if a0_5 > 34560000 then (some true) else (if a0_7 = (-1) then (some false) else ((down_timely.f a0_7).bind fun t104 => (some (!t104)))))))) = some r := by rw [if_neg (show ¬ (false = true) by decide)] at H; exact H
     clear H;have H := H1;clear H1
     by_cases c22 : a0_6 < 0
     ·rw [if_pos c22] at H;have c22b0 : decide (a0_6 < 0) = true := dY c22;clear c22;obtain rfl := Option.some.inj H;obtain ⟨hcz23_0, hcz23_1, hcz23_2, hcz23_3, hcz23_4, hcz23_5, hcz23_6, hcz23_7, hfz23_0, hfz23_1, hfz23_2, hfz23_3, hfz23_4, hfz23_5, hfz23_6, hfz23_7⟩ := cz8 BK101.out
      go_wp2
      go_ret
      exact ⟨by first | rfl | (simp [errW_none, errW_some] <;> rfl) | (simp [*, errW_none, errW_some] <;> rfl), by repeat (first | (with_reducible first | exact HB.out | apply XA | apply XN | apply XD | refine XS ?_ GE101.out) | exact HB.out)⟩
     ·rw [if_neg c22] at H;have c22b0 : decide (a0_6 < 0) = false := dN c22;clear c22
      by_cases c24 : a0_6 ≥ a0_0
      ·rw [if_pos c24] at H;have c24b0 : decide (a0_0 ≤ a0_6) = true := dY c24;clear c24;obtain rfl := Option.some.inj H;obtain ⟨hcz25_0, hcz25_1, hcz25_2, hcz25_3, hcz25_4, hcz25_5, hcz25_6, hcz25_7, hfz25_0, hfz25_1, hfz25_2, hfz25_3, hfz25_4, hfz25_5, hfz25_6, hfz25_7⟩ := cz8 BK101.out
       go_wp2
       go_ret
       exact ⟨by first | rfl | (simp [errW_none, errW_some] <;> rfl) | (simp [*, errW_none, errW_some] <;> rfl), by repeat (first | (with_reducible first | exact HB.out | apply XA | apply XN | apply XD | refine XS ?_ GE101.out) | exact HB.out)⟩
      ·rw [if_neg c24] at H;have c24b0 : decide (a0_0 ≤ a0_6) = false := dN c24;clear c24
       by_cases c26 : a0_5 < 1
       ·rw [if_pos c26] at H;have c26b0 : decide (a0_5 < 1) = true := dY c26;clear c26;obtain rfl := Option.some.inj H;obtain ⟨hcz27_0, hcz27_1, hcz27_2, hcz27_3, hcz27_4, hcz27_5, hcz27_6, hcz27_7, hfz27_0, hfz27_1, hfz27_2, hfz27_3, hfz27_4, hfz27_5, hfz27_6, hfz27_7⟩ := cz8 BK101.out
        go_wp2
        go_ret
        exact ⟨by first | rfl | (simp [errW_none, errW_some] <;> rfl) | (simp [*, errW_none, errW_some] <;> rfl), by repeat (first | (with_reducible first | exact HB.out | apply XA | apply XN | apply XD | refine XS ?_ GE101.out) | exact HB.out)⟩
       ·rw [if_neg c26] at H;have c26b0 : decide (a0_5 < 1) = false := dN c26;clear c26
        by_cases c28 : a0_5 > 34560000
        ·rw [if_pos c28] at H;have c28b0 : decide (34560000 < a0_5) = true := dY c28;clear c28;obtain rfl := Option.some.inj H;obtain ⟨hcz29_0, hcz29_1, hcz29_2, hcz29_3, hcz29_4, hcz29_5, hcz29_6, hcz29_7, hfz29_0, hfz29_1, hfz29_2, hfz29_3, hfz29_4, hfz29_5, hfz29_6, hfz29_7⟩ := cz8 BK101.out
         go_wp2
         go_ret
         exact ⟨by first | rfl | (simp [errW_none, errW_some] <;> rfl) | (simp [*, errW_none, errW_some] <;> rfl), by repeat (first | (with_reducible first | exact HB.out | apply XA | apply XN | apply XD | refine XS ?_ GE101.out) | exact HB.out)⟩
        ·rw [if_neg c28] at H;have c28b0 : decide (34560000 < a0_5) = false := dN c28;clear c28
         by_cases c30 : a0_7 = (-1)
         ·rw [if_pos c30] at H;have c30b0 : (a0_7 == (-1)) = true := beq_iff_eq.mpr c30;have c30b1 : (a0_7 != (-1)) = false := bne_eq_false_iff_eq.mpr c30;clear c30;obtain rfl := Option.some.inj H;obtain ⟨hcz31_0, hcz31_1, hcz31_2, hcz31_3, hcz31_4, hcz31_5, hcz31_6, hcz31_7, hfz31_0, hfz31_1, hfz31_2, hfz31_3, hfz31_4, hfz31_5, hfz31_6, hfz31_7⟩ := cz8 BK101.out
          go_wp2
          go_ret
          exact ⟨by first | rfl | (simp [errW_none, errW_some] <;> rfl) | (simp [*, errW_none, errW_some] <;> rfl), by repeat (first | (with_reducible first | exact HB.out | apply XA | apply XN | apply XD | refine XS ?_ GE101.out) | exact HB.out)⟩
         ·rw [if_neg c30] at H;have c30b0 : (a0_7 == (-1)) = false := beq_eq_false_iff_ne.mpr c30;have c30b1 : (a0_7 != (-1)) = true := bne_iff_ne.mpr c30;replace H := bE H;obtain ⟨t104, A320, H⟩ := H;replace H : (some (!t104)) = some r := H;have A32 := As A320;clear A320;obtain rfl := Option.some.inj H;obtain ⟨hcz33_0, hcz33_1, hcz33_2, hcz33_3, hcz33_4, hcz33_5, hcz33_6, hcz33_7, hfz33_0, hfz33_1, hfz33_2, hfz33_3, hfz33_4, hfz33_5, hfz33_6, hfz33_7⟩ := cz8 BK101.out
          go_wp2_with (first | (go_at_call 23; (with_reducible refine (down_timely.calls a0_7 t104 _ A32.out).mono ?_); rintro e w' ⟨rfl, ⟨nd, rfl⟩⟩))
          go_ret
          exact ⟨by first | rfl | (simp [errW_none, errW_some] <;> rfl) | (simp [*, errW_none, errW_some] <;> rfl), by repeat (first | (with_reducible first | exact HB.out | apply XA | apply XN | apply XD | refine XS ?_ GE101.out) | exact HB.out)⟩

-- NOT PRINTED: function 41 (down_Down_41)

-- NOT PRINTED: function 32 (down_Down_32)

end Go.Proofs.YtgmdaaenhmclfaaDoor.P
-- SHRUNK
-- PACKED
-- PACKED2
