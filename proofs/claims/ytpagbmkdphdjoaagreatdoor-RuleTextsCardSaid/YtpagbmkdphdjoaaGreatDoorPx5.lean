-- written by myprint.py (this claim's own program, after the kit's print)
import Derived.Test.YtpagbmkdphdjoaaGreatDoorPx0
import Derived.Test.YtpagbmkdphdjoaaGreatDoorPx3
import Derived.Test.YtpagbmkdphdjoaaGreatDoorPack
namespace Go.Proofs.YtpagbmkdphdjoaaGreatDoor.P
open Go.RowKit Go.Proofs.YtpagbmkdphdjoaaGreatDoorW.PrintWords Go.Proofs.YtpagbmkdphdjoaaGreatDoorW.PrintLast Go.Proofs.YtpagbmkdphdjoaaGreatDoorW.PrintMore
attribute [local go_sem] max2_int min2_int max_two min_two max_three min_three max_four min_four   -- for this text's walks alone
set_option linter.unusedVariables false
set_option linter.unusedSimpArgs false

/-! ### r4_whole: function 41 -/
def r4_whole.f (a0 : Int) (a1 : Int) : Option (Int × Int) := if a1 = 0 then (none) else (if (Int.tmod a0 a1) < 0 then (some (wrap64 ((wrap64 (Int.tdiv a0 a1)) - 1), wrap64 ((Int.tmod a0 a1) + a1))) else (some (wrap64 (Int.tdiv a0 a1), Int.tmod a0 a1)))
set_option maxHeartbeats 2000000 in
set_option maxRecDepth 100000 in
theorem r4_whole.calls (a0 : Int) (a1 : Int) (r1 : Int) (r2 : Int) (w : World) (h : r4_whole.f a0 a1 = some (r1, r2)) :
  Calls Tryz.prog 41 #[.int .i64 a0, .int .i64 a1] w fun e w' => e = .returned (.tuple #[.int .i64 r1, .int .i64 r2]) ∧ Drawn0 w w' := by
 have H : (if a1 = 0 then (none) else (if (Int.tmod a0 a1) < 0 then (some (wrap64 ((wrap64 (Int.tdiv a0 a1)) - 1), wrap64 ((Int.tmod a0 a1) + a1))) else (some (wrap64 (Int.tdiv a0 a1), Int.tmod a0 a1)))) = some (r1, r2) := h;clear h
 by_cases c3 : a1 = 0
 ·rw [if_pos c3] at H;exact absurd H (by simp)
 ·rw [if_neg c3] at H;have c3b0 : (a1 == 0) = false := beq_eq_false_iff_ne.mpr c3;have c3b1 : (a1 != 0) = true := bne_iff_ne.mpr c3
  by_cases c4 : (Int.tmod a0 a1) < 0
  ·rw [if_pos c4] at H;have c4b0 : decide ((Int.tmod a0 a1) < 0) = true := dY c4;clear c4;simp only [Option.some.injEq, Prod.mk.injEq] at H;obtain ⟨rfl, rfl⟩ := H
   go_enter Tryz.func41, Tryz.ntmps41
   go_wp2
   repeat (go_quiet (fail); try go_wp2)
   go_ret2
   exact ⟨by first | rfl | (simp; done) | (simp [*]; done) | (simp; unfold wrap64; omega), by repeat (first | exact Drawn0.refl _ | apply Drawn0.step)⟩
  ·rw [if_neg c4] at H;have c4b0 : decide ((Int.tmod a0 a1) < 0) = false := dN c4;clear c4;simp only [Option.some.injEq, Prod.mk.injEq] at H;obtain ⟨rfl, rfl⟩ := H
   go_enter Tryz.func41, Tryz.ntmps41
   go_wp2
   repeat (go_quiet (fail); try go_wp2)
   go_ret2
   exact ⟨by first | rfl | (simp; done) | (simp [*]; done) | (simp; unfold wrap64; omega), by repeat (first | exact Drawn0.refl _ | apply Drawn0.step)⟩

/-! ### r4_Days: function 24 -/
mutual
def r4_Days.l0 : Nat → Int → Int → Int → Int → Int → Int → Option (Int)
 | 0, _, _, _, _, _, _ => none
 | k + 1, x4, x5, x6, x115000, x115001, x115002 => if x6 < (wrap64 (1970 + x4)) then ((r4_Leap.f x6).bind fun t117 => (if t117 = true then (r4_Days.l0 k x4 (wrap64 ((wrap64 (x5 + 365)) + 1)) (wrap64 (x6 + 1)) x115000 x115001 x115002) else (r4_Days.l0 k x4 (wrap64 (x5 + 365)) (wrap64 (x6 + 1)) x115000 x115001 x115002))) else (r4_Days.l1 k x4 x5 1 x115000 x115001 x115002)
def r4_Days.l1 : Nat → Int → Int → Int → Int → Int → Int → Option (Int)
 | 0, _, _, _, _, _, _ => none
 | k + 1, x4, x5, x7, x115000, x115001, x115002 => if x7 < x115001 then ((r4_Length.f (wrap64 (1970 + x4)) x7).bind fun t118 => (r4_Days.l1 k x4 (wrap64 (x5 + t118)) (wrap64 (x7 + 1)) x115000 x115001 x115002)) else (some (wrap64 ((wrap64 (x5 + x115002)) - 1)))
end
def r4_Days.f (k : Nat) (a0_0 : Int) (a0_1 : Int) (a0_2 : Int) : Option (Int) := (r4_whole.f (wrap64 (a0_0 - 1970)) 400).bind fun bt115 => (r4_Days.l0 k bt115.2 (wrap64 (146097 * bt115.1)) 1970 a0_0 a0_1 a0_2)
theorem r4_Days.mono_l : ∀ k, (∀ y0 y1 y2 y3 y4 y5, LeO (r4_Days.l0 k y0 y1 y2 y3 y4 y5) (r4_Days.l0 (k + 1) y0 y1 y2 y3 y4 y5)) ∧ (∀ y0 y1 y2 y3 y4 y5, LeO (r4_Days.l1 k y0 y1 y2 y3 y4 y5) (r4_Days.l1 (k + 1) y0 y1 y2 y3 y4 y5))
 | 0 => ⟨fun _ _ _ _ _ _ r h => by simp [r4_Days.l0] at h, fun _ _ _ _ _ _ r h => by simp [r4_Days.l1] at h⟩
 | k + 1 => by
  obtain ⟨ih0, ih1⟩ := r4_Days.mono_l k;refine ⟨?_, ?_⟩
  ·intro y0 y1 y2 y3 y4 y5;unfold r4_Days.l0
   repeat' first
   | (with_reducible exact ih0 _ _ _ _ _ _)
   | (with_reducible exact ih1 _ _ _ _ _ _)
   | (with_reducible exact LeO.refl _)
   | (with_reducible exact LeO.none _)
   | (with_reducible refine LeO.ite ?_ ?_)
   | (with_reducible refine LeO.bind ?_ (fun _ => ?_))
   | exact ih0 _ _ _ _ _ _
   | exact ih1 _ _ _ _ _ _
   | exact LeO.none _
   | refine LeO.ite ?_ ?_
   | refine LeO.bind ?_ (fun _ => ?_)
  ·intro y0 y1 y2 y3 y4 y5;unfold r4_Days.l1
   repeat' first
   | (with_reducible exact ih0 _ _ _ _ _ _)
   | (with_reducible exact ih1 _ _ _ _ _ _)
   | (with_reducible exact LeO.refl _)
   | (with_reducible exact LeO.none _)
   | (with_reducible refine LeO.ite ?_ ?_)
   | (with_reducible refine LeO.bind ?_ (fun _ => ?_))
   | exact ih0 _ _ _ _ _ _
   | exact ih1 _ _ _ _ _ _
   | exact LeO.none _
   | refine LeO.ite ?_ ?_
   | refine LeO.bind ?_ (fun _ => ?_)
theorem r4_Days.mono : ∀ a0 a1 a2 k, LeO (r4_Days.f k a0 a1 a2) (r4_Days.f (k + 1) a0 a1 a2) := by
 intro a0 a1 a2 k;obtain ⟨ih0, ih1⟩ := r4_Days.mono_l k;unfold r4_Days.f
 repeat' first
   | (with_reducible exact ih0 _ _ _ _ _ _)
   | (with_reducible exact ih1 _ _ _ _ _ _)
   | (with_reducible exact LeO.refl _)
   | (with_reducible exact LeO.none _)
   | (with_reducible refine LeO.ite ?_ ?_)
   | (with_reducible refine LeO.bind ?_ (fun _ => ?_))
   | exact ih0 _ _ _ _ _ _
   | exact ih1 _ _ _ _ _ _
   | exact LeO.none _
   | refine LeO.ite ?_ ?_
   | refine LeO.bind ?_ (fun _ => ?_)
set_option maxHeartbeats 2000000 in
set_option maxRecDepth 100000 in
theorem r4_Days.calls (k : Nat) (a0_0 : Int) (a0_1 : Int) (a0_2 : Int) (r : Int) (w : World) (h : r4_Days.f k a0_0 a0_1 a0_2 = some r) :
  Calls Tryz.prog 24 #[.agg #[.int .i64 a0_0, .int .i64 a0_1, .int .i64 a0_2]] w fun e w' => e = .returned (.int .i64 r) ∧ Below w.heap.size w w' := by
 have hu23 := Tryz.underlying23;have HB := As (Below.refl w.heap.size w);have H : ((r4_whole.f (wrap64 (a0_0 - 1970)) 400).bind fun bt115 => (r4_Days.l0 k bt115.2 (wrap64 (146097 * bt115.1)) 1970 a0_0 a0_1 a0_2)) = some r := h;clear h;replace H := bE H;obtain ⟨⟨t115, t116⟩, A20, H⟩ := H;replace H : (r4_Days.l0 k t116 (wrap64 (146097 * t115)) 1970 a0_0 a0_1 a0_2) = some r := H;have A2 := As A20;clear A20;have H' := As H;clear H
 go_enter Tryz.func24, Tryz.ntmps24
 go_wp2_with (first | ((with_reducible refine gate_dst (N := 1) rfl ?_); refine box_event ?hg (N := 1) ?hd (cs := #[.int .i64 a0_0, .int .i64 a0_1, .int .i64 a0_2]) (t := 23) ?hr ?_; (case hd => rfl); (case hg => rfl); (case hr => first | (go_simp; done) | (go_simp; rfl)); intro gb114 hg w3 hbox hb; have BK114 := As (hbox); have GW114 := As ((gz hg (be HB.out) : w.heap.size ≤ gb114)); have GE114 := As ((gz hg (be HB.out) : w.heap.size ≤ gb114)); replace HB := As (XT (be HB.out) hb); clear hb hbox hg; obtain ⟨hcz4_0, hcz4_1, hcz4_2, hfz4_0, hfz4_1, hfz4_2⟩ := cz3 BK114.out) | ((with_reducible refine gate_callee (f := 41) rfl ?_); refine goesL_ (some 12) rfl rfl Tryz.func41 kr rfl #[.int .i64 (wrap64 (a0_0 - 1970)), .int .i64 400] rfl sa ?_; (with_reducible refine (r4_whole.calls (wrap64 (a0_0 - 1970)) 400 _ _ _ A2.out).mono ?_); rintro e w' ⟨rfl, ⟨nd, rfl⟩⟩; refine ⟨_, rfl, ?_⟩))
 go_loopg [5, 6] k (fun kq v5 v6 w' => ∃ (x5_1 : Int) (x6_1 : Int), v5 = .int .i64 x5_1 ∧ v6 = .int .i64 x6_1 ∧ Aside0 (r4_Days.l0 kq t116 x5_1 x6_1 a0_0 a0_1 a0_2 = some r) ∧ Aside0 (kq ≤ k) ∧ Aside0 (w'.heap[gb114]? = some (.cells #[.int .i64 a0_0, .int .i64 a0_1, .int .i64 a0_2] 23 (0, 0))) ∧ Aside0 (Below w.heap.size w w'))
 case atStart => exact ⟨(wrap64 (146097 * t115)), (1970), sw, sw, H', ⟨Nat.le_refl _⟩, ⟨by (with_reducible repeat (first | refine YN ?_ _ | refine YD ?_ | refine YA ?_ _)); exact BK114.out⟩, ⟨by repeat (first | (with_reducible first | exact HB.out | apply XA | apply XN | apply XD | refine XS ?_ GE114.out) | exact HB.out)⟩⟩
 case round =>
  clear H'
  try clear c2
  try clear p2
  try clear c4
  try clear hcz4_0 hcz4_1 hcz4_2 hfz4_0 hfz4_1 hfz4_2
  obtain ⟨x5_1, x6_1, rfl, rfl, HA, HK1, BK114, HB⟩ := hrel
  cases gk with
  | zero => exact absurd HA.out (by simp [r4_Days.l0])
  | succ k1 =>
   have H := HA.out;clear HA;simp only [r4_Days.l0] at H
   by_cases c5 : x6_1 < (wrap64 (1970 + t116))
   focus
    rw [if_pos c5] at H;have c5b0 : decide (x6_1 < (wrap64 (1970 + t116))) = true := dY c5;clear c5;replace H := bE H;obtain ⟨t117, A60, H⟩ := H;replace H : (if t117 = true then (r4_Days.l0 k1 t116 (wrap64 ((wrap64 (x5_1 + 365)) + 1)) (wrap64 (x6_1 + 1)) a0_0 a0_1 a0_2) else (r4_Days.l0 k1 t116 (wrap64 (x5_1 + 365)) (wrap64 (x6_1 + 1)) a0_0 a0_1 a0_2)) = some r := H;have A6 := As A60;clear A60
    by_cases c7 : t117 = true
    subst c7
    have H1 : (r4_Days.l0 k1 t116 (wrap64 ((wrap64 (x5_1 + 365)) + 1)) (wrap64 (x6_1 + 1)) a0_0 a0_1 a0_2) = some r := by rw [if_pos rfl] at H; exact H
    clear H;have H := H1;clear H1;have H' := As H;clear H
    have m2_ := trivial
    rotate_left
    replace c7 := Bool.eq_false_iff.mpr c7;subst c7
    have H1 : (r4_Days.l0 k1 t116 (wrap64 (x5_1 + 365)) (wrap64 (x6_1 + 1)) a0_0 a0_1 a0_2) = some r := by rw [if_neg (show ¬ (false = true) by decide)] at H; exact H
    clear H;have H := H1;clear H1;have H' := As H;clear H
    have m1_ := trivial
   rotate_left 2
   rw [if_neg c5] at H;have c5b0 : decide (x6_1 < (wrap64 (1970 + t116))) = false := dN c5;clear c5;have H' := As H;clear H
   all_goals try
    first | (clear m1_; have m1_ := trivial) | (clear m2_; have m2_ := trivial)
    go_wp2_with (first | ((with_reducible refine gate_callee (f := 42) rfl ?_); refine goesL_ (some 26) rfl rfl Tryz.func42 kr rfl #[.int .i64 x6_1] rfl sa ?_; (with_reducible refine (r4_Leap.calls x6_1 _ _ A6.out).mono ?_); rintro e w' ⟨rfl, ⟨nd, rfl⟩⟩; refine ⟨_, rfl, ?_⟩))
    go_roundg k1
    case measure => have := HK1.out; omega
   ·go_wp2
    go_loopg [5, 7] k1 (fun kq v5 v7 w' => ∃ (x5_2 : Int) (x7_2 : Int), v5 = .int .i64 x5_2 ∧ v7 = .int .i64 x7_2 ∧ Aside0 (r4_Days.l1 kq t116 x5_2 x7_2 a0_0 a0_1 a0_2 = some r) ∧ Aside0 (kq ≤ k1) ∧ Aside0 (w'.heap[gb114]? = some (.cells #[.int .i64 a0_0, .int .i64 a0_1, .int .i64 a0_2] 23 (0, 0))) ∧ Aside0 (Below w.heap.size w w'))
    case atStart => exact ⟨(x5_1), (1), sw, sw, H', ⟨Nat.le_refl _⟩, ⟨by (with_reducible repeat (first | refine YN ?_ _ | refine YD ?_ | refine YA ?_ _)); exact BK114.out⟩, ⟨by repeat (first | (with_reducible first | exact HB.out | apply XA | apply XN | apply XD | refine XS ?_ GE114.out) | exact HB.out)⟩⟩
    case round =>
     clear H'
     try clear c2
     try clear p2
     try clear c4
     try clear c5
     try clear c5b0
     try clear p6
     try clear c7
     try clear hcz4_0 hcz4_1 hcz4_2 hfz4_0 hfz4_1 hfz4_2
     try clear p2
     obtain ⟨x5_2, x7_2, rfl, rfl, HA, HK2, BK114, HB⟩ := hrel
     cases gk with
     | zero => exact absurd HA.out (by simp [r4_Days.l1])
     | succ k2 =>
      have H := HA.out;clear HA;simp only [r4_Days.l1] at H
      by_cases c8 : x7_2 < a0_1
      ·rw [if_pos c8] at H;have c8b0 : decide (x7_2 < a0_1) = true := dY c8;clear c8;replace H := bE H;obtain ⟨t118, A90, H⟩ := H;replace H : (r4_Days.l1 k2 t116 (wrap64 (x5_2 + t118)) (wrap64 (x7_2 + 1)) a0_0 a0_1 a0_2) = some r := H;have A9 := As A90;clear A90;have H' := As H;clear H;obtain ⟨hcz10_0, hcz10_1, hcz10_2, hfz10_0, hfz10_1, hfz10_2⟩ := cz3 BK114.out
       go_wp2_with (first | ((with_reducible refine gate_callee (f := 30) rfl ?_); refine goesL_ (some 39) rfl rfl Tryz.func30 kr rfl #[.int .i64 (wrap64 (1970 + t116)), .int .i64 x7_2] rfl sa ?_; (with_reducible refine (r4_Length.calls (wrap64 (1970 + t116)) x7_2 _ _ A9.out).mono ?_); rintro e w11 ⟨rfl, hb⟩; refine ⟨_, rfl, ?_⟩; replace BK114 := As (YB (g := gb114) (o := .cells #[.int .i64 a0_0, .int .i64 a0_1, .int .i64 a0_2] 23 (0, 0)) (bk BK114.out) hb); replace HB := As (XT (be HB.out) hb); (try clear hb); (try clear hb2); (try clear hk); (try clear hi)))
       go_roundg k2
       case measure => have := HK1.out; have := HK2.out; omega
       case rel => exact ⟨(wrap64 (x5_2 + t118)), (wrap64 (x7_2 + 1)), sw, sw, H', ⟨by have := HK1.out; have := HK2.out; omega⟩, ⟨by (with_reducible repeat (first | refine YN ?_ _ | refine YD ?_ | refine YA ?_ _)); exact BK114.out⟩, ⟨by repeat (first | (with_reducible first | exact HB.out | apply XA | apply XN | apply XD | refine XS ?_ GE114.out) | exact HB.out)⟩⟩
      ·rw [if_neg c8] at H;have c8b0 : decide (x7_2 < a0_1) = false := dN c8;clear c8;obtain rfl := Option.some.inj H;obtain ⟨hcz12_0, hcz12_1, hcz12_2, hfz12_0, hfz12_1, hfz12_2⟩ := cz3 BK114.out
       go_wp2
       go_ret
       exact ⟨by first | rfl | (simp [errW_none, errW_some] <;> rfl) | (simp [*, errW_none, errW_some] <;> rfl), by repeat (first | (with_reducible first | exact HB.out | apply XA | apply XN | apply XD | refine XS ?_ GE114.out) | exact HB.out)⟩
   ·case rel => exact ⟨(wrap64 (x5_1 + 365)), (wrap64 (x6_1 + 1)), sw, sw, H', ⟨by have := HK1.out; omega⟩, ⟨by (with_reducible repeat (first | refine YN ?_ _ | refine YD ?_ | refine YA ?_ _)); exact BK114.out⟩, ⟨by repeat (first | (with_reducible first | exact HB.out | apply XA | apply XN | apply XD | refine XS ?_ GE114.out) | exact HB.out)⟩⟩
   ·case rel => exact ⟨(wrap64 ((wrap64 (x5_1 + 365)) + 1)), (wrap64 (x6_1 + 1)), sw, sw, H', ⟨by have := HK1.out; omega⟩, ⟨by (with_reducible repeat (first | refine YN ?_ _ | refine YD ?_ | refine YA ?_ _)); exact BK114.out⟩, ⟨by repeat (first | (with_reducible first | exact HB.out | apply XA | apply XN | apply XD | refine XS ?_ GE114.out) | exact HB.out)⟩⟩

end Go.Proofs.YtpagbmkdphdjoaaGreatDoor.P
-- SHRUNK
-- PACKED
-- PACKED2
