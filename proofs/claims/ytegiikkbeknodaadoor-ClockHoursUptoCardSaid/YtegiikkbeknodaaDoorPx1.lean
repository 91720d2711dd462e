-- written by myprint.py (this claim's own program, after the kit's print)
import Derived.Test.YtegiikkbeknodaaDoorPx0
import Derived.Test.YtegiikkbeknodaaDoorPack
namespace Go.Proofs.YtegiikkbeknodaaDoor.P
open Go.RowKit Go.Proofs.YtegiikkbeknodaaDoorW.PrintWords Go.Proofs.YtegiikkbeknodaaDoorW.PrintLast Go.Proofs.YtegiikkbeknodaaDoorW.PrintMore
attribute [local go_sem] max2_int min2_int max_two min_two max_three min_three max_four min_four   -- for this text's walks alone
set_option linter.unusedVariables false
set_option linter.unusedSimpArgs false

/-! ### clock_away: function 23 -/
def clock_away.f (a0 : Int) : Option (Bool) := if a0 < (-50400) then (some true) else (some (decide (a0 > 50400)))
set_option maxHeartbeats 8000000 in
set_option maxRecDepth 100000 in
theorem clock_away.calls (a0 : Int) (r : Bool) (w : World) (h : clock_away.f a0 = some r) :
  Calls Tryd.prog 23 #[.int .i64 a0] w fun e w' => e = .returned (.bool r) ∧ Drawn0 w w' := by
 have H : (if a0 < (-50400) then (some true) else (some (decide (a0 > 50400)))) = some r := h;clear h
 by_cases c2 : a0 < (-50400)
 ·rw [if_pos c2] at H;have c2b0 : decide (a0 < (-50400)) = true := dY c2;clear c2;obtain rfl := Option.some.inj H
  go_enter Tryd.func23, Tryd.ntmps23
  go_wp2
  go_ret
  exact ⟨by first | rfl | (simp; done) | (simp [*]; done) | (simp; unfold wrap64; omega), by repeat (first | exact Drawn0.refl _ | apply Drawn0.step)⟩
 ·rw [if_neg c2] at H;have c2b0 : decide (a0 < (-50400)) = false := dN c2;clear c2;obtain rfl := Option.some.inj H
  go_enter Tryd.func23, Tryd.ntmps23
  go_wp2
  go_ret
  exact ⟨by first | rfl | (simp; done) | (simp [*]; done) | (simp; unfold wrap64; omega), by repeat (first | exact Drawn0.refl _ | apply Drawn0.step)⟩

/-! ### clock_Split: function 9 -/
def clock_Split.f (a0 : Int) (a1 : Int) : Option (Int × Int × Option Int) := if a0 < 0 then (some (0, 0, some 1)) else (if a0 > 4611686018427387904 then (some (0, 0, some 1)) else ((clock_away.f a1).bind fun t102 => (if t102 = true then (some (0, 0, some 1)) else (some (wrap64 (Int.tdiv (wrap64 ((wrap64 (a0 + a1)) - (Int.tmod (wrap64 ((Int.tmod (wrap64 (a0 + a1)) 86400) + 86400)) 86400))) 86400), Int.tmod (wrap64 ((Int.tmod (wrap64 (a0 + a1)) 86400) + 86400)) 86400, none)))))
set_option maxHeartbeats 8000000 in
set_option maxRecDepth 100000 in
theorem clock_Split.calls (a0 : Int) (a1 : Int) (r1 : Int) (r2 : Int) (r3 : Option Int) (w : World) (h : clock_Split.f a0 a1 = some (r1, r2, r3)) :
  Calls Tryd.prog 9 #[.int .i64 a0, .int .i64 a1] w fun e w' => e = .returned (.tuple #[.agg #[.int .i64 r1, .int .i64 r2], errW r3]) ∧ Below w.heap.size w w' := by
 have hu24 := Tryd.underlying24;have hu26 := Tryd.underlying26;have hu52 := Tryd.underlying52;have HB := As (Below.refl w.heap.size w);have H : (if a0 < 0 then (some (0, 0, some 1)) else (if a0 > 4611686018427387904 then (some (0, 0, some 1)) else ((clock_away.f a1).bind fun t102 => (if t102 = true then (some (0, 0, some 1)) else (some (wrap64 (Int.tdiv (wrap64 ((wrap64 (a0 + a1)) - (Int.tmod (wrap64 ((Int.tmod (wrap64 (a0 + a1)) 86400) + 86400)) 86400))) 86400), Int.tmod (wrap64 ((Int.tmod (wrap64 (a0 + a1)) 86400) + 86400)) 86400, none)))))) = some (r1, r2, r3) := h;clear h
 by_cases c3 : a0 < 0
 rw [if_pos c3] at H;have c3b0 : decide (a0 < 0) = true := dY c3;clear c3;simp only [Option.some.injEq, Prod.mk.injEq] at H;obtain ⟨rfl, rfl, rfl⟩ := H
 have m4_ := trivial
 rotate_left
 focus
  rw [if_neg c3] at H;have c3b0 : decide (a0 < 0) = false := dN c3;clear c3
  by_cases c6 : a0 > 4611686018427387904
  rw [if_pos c6] at H;have c6b0 : decide (4611686018427387904 < a0) = true := dY c6;clear c6;simp only [Option.some.injEq, Prod.mk.injEq] at H;obtain ⟨rfl, rfl, rfl⟩ := H
  have m3_ := trivial
  rotate_left
  focus
   rw [if_neg c6] at H;have c6b0 : decide (4611686018427387904 < a0) = false := dN c6;clear c6;replace H := bE H;obtain ⟨t102, A90, H⟩ := H;replace H : (if t102 = true then (some (0, 0, some 1)) else (some (wrap64 (Int.tdiv (wrap64 ((wrap64 (a0 + a1)) - (Int.tmod (wrap64 ((Int.tmod (wrap64 (a0 + a1)) 86400) + 86400)) 86400))) 86400), Int.tmod (wrap64 ((Int.tmod (wrap64 (a0 + a1)) 86400) + 86400)) 86400, none))) = some (r1, r2, r3) := H;have A9 := As A90;clear A90
   by_cases c10 : t102 = true
   subst c10
   have H1 : (some (0, 0, some 1)) = some (r1, r2, r3) := by rw [if_pos rfl] at H; exact H
   clear H;have H := H1;clear H1;simp only [Option.some.injEq, Prod.mk.injEq] at H;obtain ⟨rfl, rfl, rfl⟩ := H
   have m2_ := trivial
   rotate_left
   replace c10 := Bool.eq_false_iff.mpr c10;subst c10
   have H1 : (some (wrap64 (Int.tdiv (wrap64 ((wrap64 (a0 + a1)) - (Int.tmod (wrap64 ((Int.tmod (wrap64 (a0 + a1)) 86400) + 86400)) 86400))) 86400), Int.tmod (wrap64 ((Int.tmod (wrap64 (a0 + a1)) 86400) + 86400)) 86400, none)) = some (r1, r2, r3) := by rw [if_neg (show ¬ (false = true) by decide)] at H; exact H
   clear H;have H := H1;clear H1;simp only [Option.some.injEq, Prod.mk.injEq] at H;obtain ⟨rfl, rfl, rfl⟩ := H
   have m1_ := trivial
 all_goals go_enter Tryd.func9, Tryd.ntmps9
 all_goals try
  first | (clear m1_; have m1_ := trivial) | (clear m2_; have m2_ := trivial)
  go_wp2_with (first | ((with_reducible refine gate_dst (N := 4) rfl ?_); refine box_event ?hg (N := 4) ?hd (cs := #[.int .i64 0, .int .i64 0]) (t := 24) ?hr ?_; (case hd => rfl); (case hg => rfl); (case hr => first | (go_simp; done) | (go_simp; rfl)); intro gb101 hg w13 hbox hb; have n0_ := As (XT (be HB.out) hb); have n1_ := As (hbox); have n2_ := As ((gz hg (be HB.out) : w.heap.size ≤ gb101)); have n3_ := As ((gz hg (be HB.out) : w.heap.size ≤ gb101)); clear HB; have HB := n0_; have BK101 := n1_; have GW101 := n2_; have GE101 := n3_; clear n0_ n1_ n2_ n3_; clear hb hbox hg) | (go_at_call 23; (with_reducible refine (clock_away.calls a1 _ _ A9.out).mono ?_); rintro e w' ⟨rfl, ⟨nd, rfl⟩⟩; (try (rw [drewN_self w13]; generalize hq_ : World.drewN w13 _ = w13; have n0_ : Aside0 (w13.heap[gb101]? = some (.cells #[.int .i64 0, .int .i64 0] 24 (0, 0))) := ⟨by rw [← hq_]; exact (bk BK101.out)⟩; have n1_ : Aside0 (Below w.heap.size w w13) := ⟨by rw [← hq_]; exact (be HB.out)⟩; clear BK101 HB hq_; have BK101 := n0_; have HB := n1_; clear n0_ n1_)); obtain ⟨hcz14_0, hcz14_1, hfz14_0, hfz14_1⟩ := cz2 BK101.out))
 all_goals try
  first | (clear m3_; have m3_ := trivial) | (clear m4_; have m4_ := trivial)
  go_wp2_with (first | ((with_reducible refine gate_dst (N := 4) rfl ?_); refine box_event ?hg (N := 4) ?hd (cs := #[.int .i64 0, .int .i64 0]) (t := 24) ?hr ?_; (case hd => rfl); (case hg => rfl); (case hr => first | (go_simp; done) | (go_simp; rfl)); intro gb101 hg w7 hbox hb; have n0_ := As (XT (be HB.out) hb); have n1_ := As (hbox); have n2_ := As ((gz hg (be HB.out) : w.heap.size ≤ gb101)); have n3_ := As ((gz hg (be HB.out) : w.heap.size ≤ gb101)); clear HB; have HB := n0_; have BK101 := n1_; have GW101 := n2_; have GE101 := n3_; clear n0_ n1_ n2_ n3_; clear hb hbox hg; obtain ⟨hcz8_0, hcz8_1, hfz8_0, hfz8_1⟩ := cz2 BK101.out))
  refine bodyPost_ret (results_ct rfl _ _ gb101 24 #[.int .i64 0, .int .i64 0] (0, 0) _ rfl (by apply blk_to; (iterate 2 ((with_reducible repeat (first | refine YN ?_ _ | refine YD ?_ | refine YA ?_ _)); apply blk_set)); (with_reducible repeat (first | refine YN ?_ _ | refine YD ?_ | refine YA ?_ _)); exact BK101.out; simp only [z0,z1,z2]) Tryd.underlying24 rfl kr) rfl ?_;exact ⟨by first | rfl | (simp [errW_none, errW_some] <;> rfl) | (simp [*, errW_none, errW_some] <;> rfl), by repeat (first | (with_reducible first | exact HB.out | apply XA | apply XN | apply XD | refine XS ?_ GE101.out) | exact HB.out)⟩
 ·refine bodyPost_ret (results_ct rfl _ _ gb101 24 #[.int .i64 (wrap64 (Int.tdiv (wrap64 ((wrap64 (a0 + a1)) - (Int.tmod (wrap64 ((Int.tmod (wrap64 (a0 + a1)) 86400) + 86400)) 86400))) 86400)), .int .i64 (Int.tmod (wrap64 ((Int.tmod (wrap64 (a0 + a1)) 86400) + 86400)) 86400)] (0, 0) _ rfl (by apply blk_to; (iterate 2 ((with_reducible repeat (first | refine YN ?_ _ | refine YD ?_ | refine YA ?_ _)); apply blk_set)); (with_reducible repeat (first | refine YN ?_ _ | refine YD ?_ | refine YA ?_ _)); exact BK101.out; simp only [z0,z1,z2]) Tryd.underlying24 rfl kr) rfl ?_;exact ⟨by first | rfl | (simp [errW_none, errW_some] <;> rfl) | (simp [*, errW_none, errW_some] <;> rfl), by repeat (first | (with_reducible first | exact HB.out | apply XA | apply XN | apply XD | refine XS ?_ GE101.out) | exact HB.out)⟩
 ·refine bodyPost_ret (results_ct rfl _ _ gb101 24 #[.int .i64 0, .int .i64 0] (0, 0) _ rfl (by apply blk_to; (iterate 2 ((with_reducible repeat (first | refine YN ?_ _ | refine YD ?_ | refine YA ?_ _)); apply blk_set)); (with_reducible repeat (first | refine YN ?_ _ | refine YD ?_ | refine YA ?_ _)); exact BK101.out; simp only [z0,z1,z2]) Tryd.underlying24 rfl kr) rfl ?_;exact ⟨by first | rfl | (simp [errW_none, errW_some] <;> rfl) | (simp [*, errW_none, errW_some] <;> rfl), by repeat (first | (with_reducible first | exact HB.out | apply XA | apply XN | apply XD | refine XS ?_ GE101.out) | exact HB.out)⟩

end Go.Proofs.YtegiikkbeknodaaDoor.P
-- SHRUNK
-- PACKED
-- PACKED2
