/- The contract of civil.Of: the printed walk, its great terms told by letters. -/
import Derived.Test.YtegiikkbeknodaaDoorPx0
import Derived.Test.YtegiikkbeknodaaDoorWLast
namespace Go.Proofs.YtegiikkbeknodaaDoor.P
open Go.RowKit Go.Proofs.YtegiikkbeknodaaDoorW.PrintWords Go.Proofs.YtegiikkbeknodaaDoorW.PrintLast Go.Proofs.YtegiikkbeknodaaDoorW.PrintMore
attribute [local go_sem] max2_int min2_int max_two min_two max_three min_three max_four min_four
set_option linter.unusedVariables false
set_option linter.unusedSimpArgs false
def of_mod.f (a0 : Int) (a1 : Int) : Option (Int) := if a1 = 0 then (none) else (some (Int.tmod (wrap64 ((Int.tmod a0 a1) + a1)) a1))
set_option maxHeartbeats 8000000 in
set_option maxRecDepth 100000 in
theorem of_mod.calls (a0 : Int) (a1 : Int) (r : Int) (w : World) (h : of_mod.f a0 a1 = some r) :
    Calls Tryd.prog 35 #[.int .i64 a0, .int .i64 a1] w fun e w' => e = .returned (.int .i64 r) ∧ Drawn0 w w' := by
  have H : (if a1 = 0 then (none) else (some (Int.tmod (wrap64 ((Int.tmod a0 a1) + a1)) a1))) = some r := h
  clear h
  by_cases c3 : a1 = 0
  · rw [if_pos c3] at H
    exact absurd H (by simp)
  · rw [if_neg c3] at H
    have c3b0 : (a1 == 0) = false := beq_eq_false_iff_ne.mpr c3
    have c3b1 : (a1 != 0) = true := bne_iff_ne.mpr c3
    obtain rfl := Option.some.inj H
    go_enter Tryd.func35, Tryd.ntmps35
    go_wp2
    go_ret
    exact ⟨by first | rfl | (simp; done) | (simp [*]; done) | (simp; unfold wrap64; omega), by repeat (first | exact Drawn0.refl _ | apply Drawn0.step)⟩
set_option maxHeartbeats 8000000 in
set_option maxRecDepth 100000 in
theorem of_pos (a0 t104 q1 q2 q3 q4 q5 q6 yy q7 q8 q9 qa qb dd qc qd mm m3 nn z1 z2 z3 ya z4 z5 z6 z7 da yb mb : Int) (w : World) (d0 : decide (a0 < (-70368744177664)) = false) (d1 : decide (a0 > 70368744177664) = false) (hm : of_mod.f nn 146097 = some t104) (hq1 : wrap64 (Int.tdiv t104 1460) = q1) (hq2 : wrap64 (t104 - q1) = q2) (hq3 : wrap64 (Int.tdiv t104 36524) = q3) (hq4 : wrap64 (q2 + q3) = q4) (hq5 : wrap64 (Int.tdiv t104 146096) = q5) (hq6 : wrap64 (q4 - q5) = q6) (hyy : wrap64 (Int.tdiv q6 365) = yy) (hq7 : wrap64 (365 * yy) = q7) (hq8 : wrap64 (Int.tdiv yy 4) = q8) (hq9 : wrap64 (q7 + q8) = q9) (hqa : wrap64 (Int.tdiv yy 100) = qa) (hqb : wrap64 (q9 - qa) = qb) (hdd : wrap64 (t104 - qb) = dd) (hqc : wrap64 (5 * dd) = qc) (hqd : wrap64 (qc + 2) = qd) (hmm : wrap64 (Int.tdiv qd 153) = mm) (hm3 : wrap64 (mm + 3) = m3) (hnn : wrap64 (a0 + 719468) = nn) (hz1 : wrap64 (nn - t104) = z1) (hz2 : wrap64 (Int.tdiv z1 146097) = z2) (hz3 : wrap64 (z2 * 400) = z3) (hya : wrap64 (z3 + yy) = ya) (hz4 : wrap64 (153 * mm) = z4) (hz5 : wrap64 (z4 + 2) = z5) (hz6 : wrap64 (Int.tdiv z5 5) = z6) (hz7 : wrap64 (dd - z6) = z7) (hda : wrap64 (z7 + 1) = da) (hyb : wrap64 (ya + 1) = yb) (hmb : wrap64 (m3 - 12) = mb) (c8 : decide (12 < m3) = true) :
    Calls Tryd.prog 24 #[.int .i64 a0] w fun e w' => e = .returned (.tuple #[.agg #[.int .i64 yb, .int .i64 mb, .int .i64 da], errW none]) ∧ Below w.heap.size w w' := by
  have hu54 := Tryd.underlying54
  have hu26 := Tryd.underlying26
  have hu52 := Tryd.underlying52
  have d2 : decide (70368744177664 < a0) = false := d1
  have c9 : decide (m3 > 12) = true := c8
  have hm2 : of_mod.f (wrap64 (a0 + 719468)) 146097 = some t104 := by rw [hnn]; exact hm
  have HM := Aside0.mk hm2
  have HB := Aside0.mk (Below.refl w.heap.size w)
  have HNN := Aside0.mk hnn
  clear hm hm2 hnn
  have Kq1 := Aside0.mk hq1
  have Kq2 := Aside0.mk hq2
  have Kq3 := Aside0.mk hq3
  have Kq4 := Aside0.mk hq4
  have Kq5 := Aside0.mk hq5
  have Kq6 := Aside0.mk hq6
  have Kyy := Aside0.mk hyy
  have Kq7 := Aside0.mk hq7
  have Kq8 := Aside0.mk hq8
  have Kq9 := Aside0.mk hq9
  have Kqa := Aside0.mk hqa
  have Kqb := Aside0.mk hqb
  have Kdd := Aside0.mk hdd
  have Kqc := Aside0.mk hqc
  have Kqd := Aside0.mk hqd
  have Kmm := Aside0.mk hmm
  have Km3 := Aside0.mk hm3
  have Kz1 := Aside0.mk hz1
  have Kz2 := Aside0.mk hz2
  have Kz3 := Aside0.mk hz3
  have Kya := Aside0.mk hya
  have Kz4 := Aside0.mk hz4
  have Kz5 := Aside0.mk hz5
  have Kz6 := Aside0.mk hz6
  have Kz7 := Aside0.mk hz7
  have Kda := Aside0.mk hda
  have Kyb := Aside0.mk hyb
  have Kmb := Aside0.mk hmb
  clear hq1 hq2 hq3 hq4 hq5 hq6 hyy hq7 hq8 hq9 hqa hqb hdd hqc hqd hmm hm3 hz1 hz2 hz3 hya hz4 hz5 hz6 hz7 hda hyb hmb
  go_enter Tryd.func24, Tryd.ntmps24
  go_upto_region 4 with (first | ((with_reducible refine gate_dst (N := 2) rfl ?_); refine box_event ?hg (N := 2) ?hd (cs := #[.int .i64 0, .int .i64 0, .int .i64 0]) (t := 54) ?hr ?_; (case hd => rfl); (case hg => rfl); (case hr => first | (go_simp; done) | (go_simp; rfl)); intro gb103 hg w3 hbox hb; have n0_ := Aside0.mk (below_step (by repeat (first | (with_reducible first | exact HB.out | apply below_alloc | apply pw_below_drewN | apply below_drew1) | exact HB.out)) hb); have n1_ := Aside0.mk (hbox); have n2_ := Aside0.mk ((by rw [hg]; exact (below_size (by repeat (first | (with_reducible first | exact HB.out | apply below_alloc | apply pw_below_drewN | apply below_drew1) | exact HB.out))) : w.heap.size ≤ gb103)); have n3_ := Aside0.mk ((by rw [hg]; exact (below_size (by repeat (first | (with_reducible first | exact HB.out | apply below_alloc | apply pw_below_drewN | apply below_drew1) | exact HB.out))) : w.heap.size ≤ gb103)); clear HB; have HB := n0_; have BK103 := n1_; have GW103 := n2_; have GE103 := n3_; clear n0_ n1_ n2_ n3_; clear hb hbox hg))
  go_cut [0, 4] (fun v0 v4 wc => v0 = .int .i64 nn ∧ v4 = .int .i64 t104 ∧ Aside0 (wc.heap[gb103]? = some (.cells #[.int .i64 0, .int .i64 0, .int .i64 0] 54 (0, 0))) ∧ Aside0 (Below w.heap.size w wc))
  case first =>
    go_wp2_with (first | ((with_reducible refine gate_callee (f := 35) rfl ?_); refine goesL_ (some 20) rfl rfl Tryd.func35 (by kernel_rfl) rfl #[.int .i64 (wrap64 (a0 + 719468)), .int .i64 146097] rfl (by (try simp only [List.map_toArray, List.map_cons, List.map_nil]); first | done | rfl | (simp only [List.length_drop, List.length_take]; rfl)) ?_; (with_reducible refine (of_mod.calls (wrap64 (a0 + 719468)) 146097 t104 _ HM.out).mono ?_); rintro e w' ⟨rfl, ⟨nd, rfl⟩⟩; refine ⟨_, rfl, ?_⟩; (try (rw [drewN_self wc]; generalize hq_ : World.drewN wc _ = wc; have n0_ : Aside0 (wc.heap[gb103]? = some (.cells #[.int .i64 0, .int .i64 0, .int .i64 0] 54 (0, 0))) := ⟨by rw [← hq_]; exact (by (with_reducible repeat (first | refine blk_drewN ?_ _ | refine blk_drew ?_ | refine blk_alloc ?_ _)); exact BK103.out)⟩; have n1_ : Aside0 (Below w.heap.size w wc) := ⟨by rw [← hq_]; exact (by repeat (first | (with_reducible first | exact HB.out | apply below_alloc | apply pw_below_drewN | apply below_drew1 | refine below_set ?_ GE103.out) | exact HB.out))⟩; clear BK103 HB hq_; have BK103 := n0_; have HB := n1_; clear n0_ n1_))))
    go_meet
    case rel => exact ⟨by rw [HNN.out], rfl, ⟨by (with_reducible repeat (first | refine blk_drewN ?_ _ | refine blk_drew ?_ | refine blk_alloc ?_ _)); exact BK103.out⟩, ⟨by repeat (first | (with_reducible first | exact HB.out | apply below_alloc | apply pw_below_drewN | apply below_drew1 | refine below_set ?_ GE103.out) | exact HB.out)⟩⟩
  clear BK103 HB
  obtain ⟨rfl, rfl, BK103, HB⟩ := hcut
  go_upto_region 5 with (fail)
  go_cut [5] (fun v5 wc => v5 = .int .i64 yy ∧ Aside0 (wc.heap[gb103]? = some (.cells #[.int .i64 0, .int .i64 0, .int .i64 0] 54 (0, 0))) ∧ Aside0 (Below w.heap.size w wc))
  case first =>
    go_wp2
    go_meet
    case rel => exact ⟨by simp only [Kq1.out, Kq2.out, Kq3.out, Kq4.out, Kq5.out, Kq6.out, Kyy.out], ⟨by (with_reducible repeat (first | refine blk_drewN ?_ _ | refine blk_drew ?_ | refine blk_alloc ?_ _)); exact BK103.out⟩, ⟨by repeat (first | (with_reducible first | exact HB.out | apply below_alloc | apply pw_below_drewN | apply below_drew1 | refine below_set ?_ GE103.out) | exact HB.out)⟩⟩
  clear BK103 HB
  obtain ⟨rfl, BK103, HB⟩ := hcut
  go_upto_region 6 with (fail)
  go_cut [6] (fun v6 wc => v6 = .int .i64 dd ∧ Aside0 (wc.heap[gb103]? = some (.cells #[.int .i64 0, .int .i64 0, .int .i64 0] 54 (0, 0))) ∧ Aside0 (Below w.heap.size w wc))
  case first =>
    go_wp2
    go_meet
    case rel => exact ⟨by simp only [Kq7.out, Kq8.out, Kq9.out, Kqa.out, Kqb.out, Kdd.out], ⟨by (with_reducible repeat (first | refine blk_drewN ?_ _ | refine blk_drew ?_ | refine blk_alloc ?_ _)); exact BK103.out⟩, ⟨by repeat (first | (with_reducible first | exact HB.out | apply below_alloc | apply pw_below_drewN | apply below_drew1 | refine below_set ?_ GE103.out) | exact HB.out)⟩⟩
  clear BK103 HB
  obtain ⟨rfl, BK103, HB⟩ := hcut
  go_upto_region 7 with (fail)
  go_cut [7] (fun v7 wc => v7 = .int .i64 mm ∧ Aside0 (wc.heap[gb103]? = some (.cells #[.int .i64 0, .int .i64 0, .int .i64 0] 54 (0, 0))) ∧ Aside0 (Below w.heap.size w wc))
  case first =>
    go_wp2
    go_meet
    case rel => exact ⟨by simp only [Kqc.out, Kqd.out, Kmm.out], ⟨by (with_reducible repeat (first | refine blk_drewN ?_ _ | refine blk_drew ?_ | refine blk_alloc ?_ _)); exact BK103.out⟩, ⟨by repeat (first | (with_reducible first | exact HB.out | apply below_alloc | apply pw_below_drewN | apply below_drew1 | refine below_set ?_ GE103.out) | exact HB.out)⟩⟩
  clear BK103 HB
  obtain ⟨rfl, BK103, HB⟩ := hcut
  go_upto_region 8 with (fail)
  go_cut [8] (fun v8 wc => ∃ g8 : Nat, v8 = .pointer (some ⟨g8, 0, none⟩) ∧ Aside0 (wc.heap[g8]? = some (.cells #[.int .i64 ya, .int .i64 m3, .int .i64 da] 54 (0, 0))) ∧ gb103 ≠ g8 ∧ w.heap.size ≤ g8 ∧ Aside0 (wc.heap[gb103]? = some (.cells #[.int .i64 0, .int .i64 0, .int .i64 0] 54 (0, 0))) ∧ Aside0 (Below w.heap.size w wc))
  case first =>
    go_wp2_with (first | ((with_reducible refine gate_dst (N := 8) rfl ?_); refine box_event ?hg (N := 8) ?hd (cs := #[.int .i64 0, .int .i64 0, .int .i64 0]) (t := 54) ?hr ?_; (case hd => rfl); (case hg => rfl); (case hr => first | (go_simp; done) | (go_simp; rfl)); intro gb105 hg w9 hbox hb; have n0_ := Aside0.mk (blk_below (g := gb103) (o := .cells #[.int .i64 0, .int .i64 0, .int .i64 0] 54 (0, 0)) (by (with_reducible repeat (first | refine blk_drewN ?_ _ | refine blk_drew ?_ | refine blk_alloc ?_ _)); exact BK103.out) hb); have n1_ := Aside0.mk (below_step (by repeat (first | (with_reducible first | exact HB.out | apply below_alloc | apply pw_below_drewN | apply below_drew1 | refine below_set ?_ GE103.out) | exact HB.out)) hb); have n2_ := Aside0.mk (hbox); have n3_ := Aside0.mk ((by rw [hg]; exact (below_size (by repeat (first | (with_reducible first | exact HB.out | apply below_alloc | apply pw_below_drewN | apply below_drew1 | refine below_set ?_ GE103.out) | exact HB.out))) : w.heap.size ≤ gb105)); have n4_ := Aside0.mk ((by rw [hg]; exact (below_size (by repeat (first | (with_reducible first | exact HB.out | apply below_alloc | apply pw_below_drewN | apply below_drew1 | refine below_set ?_ GE103.out) | exact HB.out))) : w.heap.size ≤ gb105)); have n5_ := Aside0.mk ((by rw [hg]; exact Nat.ne_of_lt (blk_lt (g := gb103) (o := .cells #[.int .i64 0, .int .i64 0, .int .i64 0] 54 (0, 0)) (by (with_reducible repeat (first | refine blk_drewN ?_ _ | refine blk_drew ?_ | refine blk_alloc ?_ _)); exact BK103.out)) : gb103 ≠ gb105)); have n6_ := Aside0.mk ((by rw [hg]; exact Nat.ne_of_gt (blk_lt (g := gb103) (o := .cells #[.int .i64 0, .int .i64 0, .int .i64 0] 54 (0, 0)) (by (with_reducible repeat (first | refine blk_drewN ?_ _ | refine blk_drew ?_ | refine blk_alloc ?_ _)); exact BK103.out)) : gb105 ≠ gb103)); clear BK103; clear HB; have BK103 := n0_; have HB := n1_; have BK105 := n2_; have GW105 := n3_; have GE105 := n4_; have NB103_105 := n5_; have NB105_103 := n6_; clear n0_ n1_ n2_ n3_ n4_ n5_ n6_; clear hb hbox hg; have hnb10 := NB105_103.out; have hnc10 := NB103_105.out; have hcz11_0 : w9.cell? ⟨gb105, 0, none⟩ = some (.int .i64 0) := (blk_cell BK105.out 0).trans rfl; have hcz11_1 : w9.cell? ⟨gb105, 1, none⟩ = some (.int .i64 0) := (blk_cell BK105.out 1).trans rfl; have hcz11_2 : w9.cell? ⟨gb105, 2, none⟩ = some (.int .i64 0) := (blk_cell BK105.out 2).trans rfl; have hfz11_0 := blk_frozen BK105.out 0; have hfz11_1 := blk_frozen BK105.out 1; have hfz11_2 := blk_frozen BK105.out 2; have hcz12_0 : w9.cell? ⟨gb103, 0, none⟩ = some (.int .i64 0) := (blk_cell BK103.out 0).trans rfl; have hcz12_1 : w9.cell? ⟨gb103, 1, none⟩ = some (.int .i64 0) := (blk_cell BK103.out 1).trans rfl; have hcz12_2 : w9.cell? ⟨gb103, 2, none⟩ = some (.int .i64 0) := (blk_cell BK103.out 2).trans rfl; have hfz12_0 := blk_frozen BK103.out 0; have hfz12_1 := blk_frozen BK103.out 1; have hfz12_2 := blk_frozen BK103.out 2))
    simp only [Km3.out, Kz1.out, Kz2.out, Kz3.out, Kya.out, Kz4.out, Kz5.out, Kz6.out, Kz7.out, Kda.out]
    go_meet
    case rel => exact ⟨_, rfl, ⟨by (with_reducible repeat (first | refine blk_drewN ?_ _ | refine blk_drew ?_ | refine blk_alloc ?_ _)); refine blk_put (cs := #[.int .i64 ya, .int .i64 m3, .int .i64 0]) ?_ 2 _ rfl; (with_reducible repeat (first | refine blk_drewN ?_ _ | refine blk_drew ?_ | refine blk_alloc ?_ _)); refine blk_put (cs := #[.int .i64 ya, .int .i64 0, .int .i64 0]) ?_ 1 _ rfl; (with_reducible repeat (first | refine blk_drewN ?_ _ | refine blk_drew ?_ | refine blk_alloc ?_ _)); refine blk_put (cs := #[.int .i64 0, .int .i64 0, .int .i64 0]) ?_ 0 _ rfl; (with_reducible repeat (first | refine blk_drewN ?_ _ | refine blk_drew ?_ | refine blk_alloc ?_ _)); exact BK105.out⟩, NB103_105.out, GW105.out, ⟨by (with_reducible repeat (first | refine blk_drewN ?_ _ | refine blk_drew ?_ | refine blk_alloc ?_ _)); refine blk_far ?_ NB103_105.out _; (with_reducible repeat (first | refine blk_drewN ?_ _ | refine blk_drew ?_ | refine blk_alloc ?_ _)); refine blk_far ?_ NB103_105.out _; (with_reducible repeat (first | refine blk_drewN ?_ _ | refine blk_drew ?_ | refine blk_alloc ?_ _)); refine blk_far ?_ NB103_105.out _; (with_reducible repeat (first | refine blk_drewN ?_ _ | refine blk_drew ?_ | refine blk_alloc ?_ _)); exact BK103.out⟩, ⟨by repeat (first | (with_reducible first | exact HB.out | apply below_alloc | apply pw_below_drewN | apply below_drew1 | refine below_set ?_ GE103.out | refine below_set ?_ GE105.out) | exact HB.out)⟩⟩
  clear BK103 HB
  obtain ⟨g8, rfl, BK8, hne, GE105_, BK103, HB⟩ := hcut
  have GE105 := Aside0.mk GE105_
  have NB := Aside0.mk hne
  have hne2 : g8 ≠ gb103 := fun e => hne e.symm
  have c80 := (blk_cell BK8.out 0).trans rfl
  have c81 := (blk_cell BK8.out 1).trans rfl
  have c82 := (blk_cell BK8.out 2).trans rfl
  have f80 := blk_frozen BK8.out 0
  have f81 := blk_frozen BK8.out 1
  have f82 := blk_frozen BK8.out 2
  have c30 := (blk_cell BK103.out 0).trans rfl
  have c31 := (blk_cell BK103.out 1).trans rfl
  have c32 := (blk_cell BK103.out 2).trans rfl
  have f30 := blk_frozen BK103.out 0
  have f31 := blk_frozen BK103.out 1
  have f32 := blk_frozen BK103.out 2
  clear GE105_
  go_wp2
  simp only [Kyb.out, Kmb.out]
  refine bodyPost_ret (results_ct rfl _ _ gb103 54 #[.int .i64 yb, .int .i64 mb, .int .i64 da] (0, 0) _ rfl (by (with_reducible repeat (first | refine blk_drewN ?_ _ | refine blk_drew ?_ | refine blk_alloc ?_ _)); refine blk_put (cs := #[.int .i64 yb, .int .i64 mb, .int .i64 0]) ?_ 2 _ rfl; (with_reducible repeat (first | refine blk_drewN ?_ _ | refine blk_drew ?_ | refine blk_alloc ?_ _)); refine blk_put (cs := #[.int .i64 yb, .int .i64 0, .int .i64 0]) ?_ 1 _ rfl; (with_reducible repeat (first | refine blk_drewN ?_ _ | refine blk_drew ?_ | refine blk_alloc ?_ _)); refine blk_put (cs := #[.int .i64 0, .int .i64 0, .int .i64 0]) ?_ 0 _ rfl; (with_reducible repeat (first | refine blk_drewN ?_ _ | refine blk_drew ?_ | refine blk_alloc ?_ _)); refine blk_far ?_ NB.out _; (with_reducible repeat (first | refine blk_drewN ?_ _ | refine blk_drew ?_ | refine blk_alloc ?_ _)); refine blk_far ?_ NB.out _; (with_reducible repeat (first | refine blk_drewN ?_ _ | refine blk_drew ?_ | refine blk_alloc ?_ _)); exact BK103.out) Tryd.underlying54 rfl (by kernel_rfl)) rfl ?_
  exact ⟨by first | rfl | (simp [errW_none, errW_some] <;> rfl) | (simp [*, errW_none, errW_some] <;> rfl), by repeat (first | (with_reducible first | exact HB.out | apply below_alloc | apply pw_below_drewN | apply below_drew1 | refine below_set ?_ GE103.out | refine below_set ?_ GE105.out) | exact HB.out)⟩
set_option maxHeartbeats 8000000 in
set_option maxRecDepth 100000 in
theorem of_neg (a0 t104 q1 q2 q3 q4 q5 q6 yy q7 q8 q9 qa qb dd qc qd mm m3 nn z1 z2 z3 ya z4 z5 z6 z7 da : Int) (w : World) (d0 : decide (a0 < (-70368744177664)) = false) (d1 : decide (a0 > 70368744177664) = false) (hm : of_mod.f nn 146097 = some t104) (hq1 : wrap64 (Int.tdiv t104 1460) = q1) (hq2 : wrap64 (t104 - q1) = q2) (hq3 : wrap64 (Int.tdiv t104 36524) = q3) (hq4 : wrap64 (q2 + q3) = q4) (hq5 : wrap64 (Int.tdiv t104 146096) = q5) (hq6 : wrap64 (q4 - q5) = q6) (hyy : wrap64 (Int.tdiv q6 365) = yy) (hq7 : wrap64 (365 * yy) = q7) (hq8 : wrap64 (Int.tdiv yy 4) = q8) (hq9 : wrap64 (q7 + q8) = q9) (hqa : wrap64 (Int.tdiv yy 100) = qa) (hqb : wrap64 (q9 - qa) = qb) (hdd : wrap64 (t104 - qb) = dd) (hqc : wrap64 (5 * dd) = qc) (hqd : wrap64 (qc + 2) = qd) (hmm : wrap64 (Int.tdiv qd 153) = mm) (hm3 : wrap64 (mm + 3) = m3) (hnn : wrap64 (a0 + 719468) = nn) (hz1 : wrap64 (nn - t104) = z1) (hz2 : wrap64 (Int.tdiv z1 146097) = z2) (hz3 : wrap64 (z2 * 400) = z3) (hya : wrap64 (z3 + yy) = ya) (hz4 : wrap64 (153 * mm) = z4) (hz5 : wrap64 (z4 + 2) = z5) (hz6 : wrap64 (Int.tdiv z5 5) = z6) (hz7 : wrap64 (dd - z6) = z7) (hda : wrap64 (z7 + 1) = da) (c8 : decide (12 < m3) = false) :
    Calls Tryd.prog 24 #[.int .i64 a0] w fun e w' => e = .returned (.tuple #[.agg #[.int .i64 ya, .int .i64 m3, .int .i64 da], errW none]) ∧ Below w.heap.size w w' := by
  have hu54 := Tryd.underlying54
  have hu26 := Tryd.underlying26
  have hu52 := Tryd.underlying52
  have d2 : decide (70368744177664 < a0) = false := d1
  have c9 : decide (m3 > 12) = false := c8
  have hm2 : of_mod.f (wrap64 (a0 + 719468)) 146097 = some t104 := by rw [hnn]; exact hm
  have HM := Aside0.mk hm2
  have HB := Aside0.mk (Below.refl w.heap.size w)
  have HNN := Aside0.mk hnn
  clear hm hm2 hnn
  have Kq1 := Aside0.mk hq1
  have Kq2 := Aside0.mk hq2
  have Kq3 := Aside0.mk hq3
  have Kq4 := Aside0.mk hq4
  have Kq5 := Aside0.mk hq5
  have Kq6 := Aside0.mk hq6
  have Kyy := Aside0.mk hyy
  have Kq7 := Aside0.mk hq7
  have Kq8 := Aside0.mk hq8
  have Kq9 := Aside0.mk hq9
  have Kqa := Aside0.mk hqa
  have Kqb := Aside0.mk hqb
  have Kdd := Aside0.mk hdd
  have Kqc := Aside0.mk hqc
  have Kqd := Aside0.mk hqd
  have Kmm := Aside0.mk hmm
  have Km3 := Aside0.mk hm3
  have Kz1 := Aside0.mk hz1
  have Kz2 := Aside0.mk hz2
  have Kz3 := Aside0.mk hz3
  have Kya := Aside0.mk hya
  have Kz4 := Aside0.mk hz4
  have Kz5 := Aside0.mk hz5
  have Kz6 := Aside0.mk hz6
  have Kz7 := Aside0.mk hz7
  have Kda := Aside0.mk hda
  clear hq1 hq2 hq3 hq4 hq5 hq6 hyy hq7 hq8 hq9 hqa hqb hdd hqc hqd hmm hm3 hz1 hz2 hz3 hya hz4 hz5 hz6 hz7 hda
  go_enter Tryd.func24, Tryd.ntmps24
  go_upto_region 4 with (first | ((with_reducible refine gate_dst (N := 2) rfl ?_); refine box_event ?hg (N := 2) ?hd (cs := #[.int .i64 0, .int .i64 0, .int .i64 0]) (t := 54) ?hr ?_; (case hd => rfl); (case hg => rfl); (case hr => first | (go_simp; done) | (go_simp; rfl)); intro gb103 hg w3 hbox hb; have n0_ := Aside0.mk (below_step (by repeat (first | (with_reducible first | exact HB.out | apply below_alloc | apply pw_below_drewN | apply below_drew1) | exact HB.out)) hb); have n1_ := Aside0.mk (hbox); have n2_ := Aside0.mk ((by rw [hg]; exact (below_size (by repeat (first | (with_reducible first | exact HB.out | apply below_alloc | apply pw_below_drewN | apply below_drew1) | exact HB.out))) : w.heap.size ≤ gb103)); have n3_ := Aside0.mk ((by rw [hg]; exact (below_size (by repeat (first | (with_reducible first | exact HB.out | apply below_alloc | apply pw_below_drewN | apply below_drew1) | exact HB.out))) : w.heap.size ≤ gb103)); clear HB; have HB := n0_; have BK103 := n1_; have GW103 := n2_; have GE103 := n3_; clear n0_ n1_ n2_ n3_; clear hb hbox hg))
  go_cut [0, 4] (fun v0 v4 wc => v0 = .int .i64 nn ∧ v4 = .int .i64 t104 ∧ Aside0 (wc.heap[gb103]? = some (.cells #[.int .i64 0, .int .i64 0, .int .i64 0] 54 (0, 0))) ∧ Aside0 (Below w.heap.size w wc))
  case first =>
    go_wp2_with (first | ((with_reducible refine gate_callee (f := 35) rfl ?_); refine goesL_ (some 20) rfl rfl Tryd.func35 (by kernel_rfl) rfl #[.int .i64 (wrap64 (a0 + 719468)), .int .i64 146097] rfl (by (try simp only [List.map_toArray, List.map_cons, List.map_nil]); first | done | rfl | (simp only [List.length_drop, List.length_take]; rfl)) ?_; (with_reducible refine (of_mod.calls (wrap64 (a0 + 719468)) 146097 t104 _ HM.out).mono ?_); rintro e w' ⟨rfl, ⟨nd, rfl⟩⟩; refine ⟨_, rfl, ?_⟩; (try (rw [drewN_self wc]; generalize hq_ : World.drewN wc _ = wc; have n0_ : Aside0 (wc.heap[gb103]? = some (.cells #[.int .i64 0, .int .i64 0, .int .i64 0] 54 (0, 0))) := ⟨by rw [← hq_]; exact (by (with_reducible repeat (first | refine blk_drewN ?_ _ | refine blk_drew ?_ | refine blk_alloc ?_ _)); exact BK103.out)⟩; have n1_ : Aside0 (Below w.heap.size w wc) := ⟨by rw [← hq_]; exact (by repeat (first | (with_reducible first | exact HB.out | apply below_alloc | apply pw_below_drewN | apply below_drew1 | refine below_set ?_ GE103.out) | exact HB.out))⟩; clear BK103 HB hq_; have BK103 := n0_; have HB := n1_; clear n0_ n1_))))
    go_meet
    case rel => exact ⟨by rw [HNN.out], rfl, ⟨by (with_reducible repeat (first | refine blk_drewN ?_ _ | refine blk_drew ?_ | refine blk_alloc ?_ _)); exact BK103.out⟩, ⟨by repeat (first | (with_reducible first | exact HB.out | apply below_alloc | apply pw_below_drewN | apply below_drew1 | refine below_set ?_ GE103.out) | exact HB.out)⟩⟩
  clear BK103 HB
  obtain ⟨rfl, rfl, BK103, HB⟩ := hcut
  go_upto_region 5 with (fail)
  go_cut [5] (fun v5 wc => v5 = .int .i64 yy ∧ Aside0 (wc.heap[gb103]? = some (.cells #[.int .i64 0, .int .i64 0, .int .i64 0] 54 (0, 0))) ∧ Aside0 (Below w.heap.size w wc))
  case first =>
    go_wp2
    go_meet
    case rel => exact ⟨by simp only [Kq1.out, Kq2.out, Kq3.out, Kq4.out, Kq5.out, Kq6.out, Kyy.out], ⟨by (with_reducible repeat (first | refine blk_drewN ?_ _ | refine blk_drew ?_ | refine blk_alloc ?_ _)); exact BK103.out⟩, ⟨by repeat (first | (with_reducible first | exact HB.out | apply below_alloc | apply pw_below_drewN | apply below_drew1 | refine below_set ?_ GE103.out) | exact HB.out)⟩⟩
  clear BK103 HB
  obtain ⟨rfl, BK103, HB⟩ := hcut
  go_upto_region 6 with (fail)
  go_cut [6] (fun v6 wc => v6 = .int .i64 dd ∧ Aside0 (wc.heap[gb103]? = some (.cells #[.int .i64 0, .int .i64 0, .int .i64 0] 54 (0, 0))) ∧ Aside0 (Below w.heap.size w wc))
  case first =>
    go_wp2
    go_meet
    case rel => exact ⟨by simp only [Kq7.out, Kq8.out, Kq9.out, Kqa.out, Kqb.out, Kdd.out], ⟨by (with_reducible repeat (first | refine blk_drewN ?_ _ | refine blk_drew ?_ | refine blk_alloc ?_ _)); exact BK103.out⟩, ⟨by repeat (first | (with_reducible first | exact HB.out | apply below_alloc | apply pw_below_drewN | apply below_drew1 | refine below_set ?_ GE103.out) | exact HB.out)⟩⟩
  clear BK103 HB
  obtain ⟨rfl, BK103, HB⟩ := hcut
  go_upto_region 7 with (fail)
  go_cut [7] (fun v7 wc => v7 = .int .i64 mm ∧ Aside0 (wc.heap[gb103]? = some (.cells #[.int .i64 0, .int .i64 0, .int .i64 0] 54 (0, 0))) ∧ Aside0 (Below w.heap.size w wc))
  case first =>
    go_wp2
    go_meet
    case rel => exact ⟨by simp only [Kqc.out, Kqd.out, Kmm.out], ⟨by (with_reducible repeat (first | refine blk_drewN ?_ _ | refine blk_drew ?_ | refine blk_alloc ?_ _)); exact BK103.out⟩, ⟨by repeat (first | (with_reducible first | exact HB.out | apply below_alloc | apply pw_below_drewN | apply below_drew1 | refine below_set ?_ GE103.out) | exact HB.out)⟩⟩
  clear BK103 HB
  obtain ⟨rfl, BK103, HB⟩ := hcut
  go_upto_region 8 with (fail)
  go_cut [8] (fun v8 wc => ∃ g8 : Nat, v8 = .pointer (some ⟨g8, 0, none⟩) ∧ Aside0 (wc.heap[g8]? = some (.cells #[.int .i64 ya, .int .i64 m3, .int .i64 da] 54 (0, 0))) ∧ gb103 ≠ g8 ∧ w.heap.size ≤ g8 ∧ Aside0 (wc.heap[gb103]? = some (.cells #[.int .i64 0, .int .i64 0, .int .i64 0] 54 (0, 0))) ∧ Aside0 (Below w.heap.size w wc))
  case first =>
    go_wp2_with (first | ((with_reducible refine gate_dst (N := 8) rfl ?_); refine box_event ?hg (N := 8) ?hd (cs := #[.int .i64 0, .int .i64 0, .int .i64 0]) (t := 54) ?hr ?_; (case hd => rfl); (case hg => rfl); (case hr => first | (go_simp; done) | (go_simp; rfl)); intro gb105 hg w13 hbox hb; have n0_ := Aside0.mk (blk_below (g := gb103) (o := .cells #[.int .i64 0, .int .i64 0, .int .i64 0] 54 (0, 0)) (by (with_reducible repeat (first | refine blk_drewN ?_ _ | refine blk_drew ?_ | refine blk_alloc ?_ _)); exact BK103.out) hb); have n1_ := Aside0.mk (below_step (by repeat (first | (with_reducible first | exact HB.out | apply below_alloc | apply pw_below_drewN | apply below_drew1 | refine below_set ?_ GE103.out) | exact HB.out)) hb); have n2_ := Aside0.mk (hbox); have n3_ := Aside0.mk ((by rw [hg]; exact (below_size (by repeat (first | (with_reducible first | exact HB.out | apply below_alloc | apply pw_below_drewN | apply below_drew1 | refine below_set ?_ GE103.out) | exact HB.out))) : w.heap.size ≤ gb105)); have n4_ := Aside0.mk ((by rw [hg]; exact (below_size (by repeat (first | (with_reducible first | exact HB.out | apply below_alloc | apply pw_below_drewN | apply below_drew1 | refine below_set ?_ GE103.out) | exact HB.out))) : w.heap.size ≤ gb105)); have n5_ := Aside0.mk ((by rw [hg]; exact Nat.ne_of_lt (blk_lt (g := gb103) (o := .cells #[.int .i64 0, .int .i64 0, .int .i64 0] 54 (0, 0)) (by (with_reducible repeat (first | refine blk_drewN ?_ _ | refine blk_drew ?_ | refine blk_alloc ?_ _)); exact BK103.out)) : gb103 ≠ gb105)); have n6_ := Aside0.mk ((by rw [hg]; exact Nat.ne_of_gt (blk_lt (g := gb103) (o := .cells #[.int .i64 0, .int .i64 0, .int .i64 0] 54 (0, 0)) (by (with_reducible repeat (first | refine blk_drewN ?_ _ | refine blk_drew ?_ | refine blk_alloc ?_ _)); exact BK103.out)) : gb105 ≠ gb103)); clear BK103; clear HB; have BK103 := n0_; have HB := n1_; have BK105 := n2_; have GW105 := n3_; have GE105 := n4_; have NB103_105 := n5_; have NB105_103 := n6_; clear n0_ n1_ n2_ n3_ n4_ n5_ n6_; clear hb hbox hg; have hnb14 := NB105_103.out; have hnc14 := NB103_105.out; have hcz15_0 : w13.cell? ⟨gb105, 0, none⟩ = some (.int .i64 0) := (blk_cell BK105.out 0).trans rfl; have hcz15_1 : w13.cell? ⟨gb105, 1, none⟩ = some (.int .i64 0) := (blk_cell BK105.out 1).trans rfl; have hcz15_2 : w13.cell? ⟨gb105, 2, none⟩ = some (.int .i64 0) := (blk_cell BK105.out 2).trans rfl; have hfz15_0 := blk_frozen BK105.out 0; have hfz15_1 := blk_frozen BK105.out 1; have hfz15_2 := blk_frozen BK105.out 2; have hcz16_0 : w13.cell? ⟨gb103, 0, none⟩ = some (.int .i64 0) := (blk_cell BK103.out 0).trans rfl; have hcz16_1 : w13.cell? ⟨gb103, 1, none⟩ = some (.int .i64 0) := (blk_cell BK103.out 1).trans rfl; have hcz16_2 : w13.cell? ⟨gb103, 2, none⟩ = some (.int .i64 0) := (blk_cell BK103.out 2).trans rfl; have hfz16_0 := blk_frozen BK103.out 0; have hfz16_1 := blk_frozen BK103.out 1; have hfz16_2 := blk_frozen BK103.out 2))
    simp only [Km3.out, Kz1.out, Kz2.out, Kz3.out, Kya.out, Kz4.out, Kz5.out, Kz6.out, Kz7.out, Kda.out]
    go_meet
    case rel => exact ⟨_, rfl, ⟨by (with_reducible repeat (first | refine blk_drewN ?_ _ | refine blk_drew ?_ | refine blk_alloc ?_ _)); refine blk_put (cs := #[.int .i64 ya, .int .i64 m3, .int .i64 0]) ?_ 2 _ rfl; (with_reducible repeat (first | refine blk_drewN ?_ _ | refine blk_drew ?_ | refine blk_alloc ?_ _)); refine blk_put (cs := #[.int .i64 ya, .int .i64 0, .int .i64 0]) ?_ 1 _ rfl; (with_reducible repeat (first | refine blk_drewN ?_ _ | refine blk_drew ?_ | refine blk_alloc ?_ _)); refine blk_put (cs := #[.int .i64 0, .int .i64 0, .int .i64 0]) ?_ 0 _ rfl; (with_reducible repeat (first | refine blk_drewN ?_ _ | refine blk_drew ?_ | refine blk_alloc ?_ _)); exact BK105.out⟩, NB103_105.out, GW105.out, ⟨by (with_reducible repeat (first | refine blk_drewN ?_ _ | refine blk_drew ?_ | refine blk_alloc ?_ _)); refine blk_far ?_ NB103_105.out _; (with_reducible repeat (first | refine blk_drewN ?_ _ | refine blk_drew ?_ | refine blk_alloc ?_ _)); refine blk_far ?_ NB103_105.out _; (with_reducible repeat (first | refine blk_drewN ?_ _ | refine blk_drew ?_ | refine blk_alloc ?_ _)); refine blk_far ?_ NB103_105.out _; (with_reducible repeat (first | refine blk_drewN ?_ _ | refine blk_drew ?_ | refine blk_alloc ?_ _)); exact BK103.out⟩, ⟨by repeat (first | (with_reducible first | exact HB.out | apply below_alloc | apply pw_below_drewN | apply below_drew1 | refine below_set ?_ GE103.out | refine below_set ?_ GE105.out) | exact HB.out)⟩⟩
  clear BK103 HB
  obtain ⟨g8, rfl, BK8, hne, GE105_, BK103, HB⟩ := hcut
  have GE105 := Aside0.mk GE105_
  have NB := Aside0.mk hne
  have hne2 : g8 ≠ gb103 := fun e => hne e.symm
  have c80 := (blk_cell BK8.out 0).trans rfl
  have c81 := (blk_cell BK8.out 1).trans rfl
  have c82 := (blk_cell BK8.out 2).trans rfl
  have f80 := blk_frozen BK8.out 0
  have f81 := blk_frozen BK8.out 1
  have f82 := blk_frozen BK8.out 2
  have c30 := (blk_cell BK103.out 0).trans rfl
  have c31 := (blk_cell BK103.out 1).trans rfl
  have c32 := (blk_cell BK103.out 2).trans rfl
  have f30 := blk_frozen BK103.out 0
  have f31 := blk_frozen BK103.out 1
  have f32 := blk_frozen BK103.out 2
  clear GE105_
  go_wp2
  skip
  refine bodyPost_ret (results_ct rfl _ _ gb103 54 #[.int .i64 ya, .int .i64 m3, .int .i64 da] (0, 0) _ rfl (by (with_reducible repeat (first | refine blk_drewN ?_ _ | refine blk_drew ?_ | refine blk_alloc ?_ _)); refine blk_put (cs := #[.int .i64 ya, .int .i64 m3, .int .i64 0]) ?_ 2 _ rfl; (with_reducible repeat (first | refine blk_drewN ?_ _ | refine blk_drew ?_ | refine blk_alloc ?_ _)); refine blk_put (cs := #[.int .i64 ya, .int .i64 0, .int .i64 0]) ?_ 1 _ rfl; (with_reducible repeat (first | refine blk_drewN ?_ _ | refine blk_drew ?_ | refine blk_alloc ?_ _)); refine blk_put (cs := #[.int .i64 0, .int .i64 0, .int .i64 0]) ?_ 0 _ rfl; (with_reducible repeat (first | refine blk_drewN ?_ _ | refine blk_drew ?_ | refine blk_alloc ?_ _)); exact BK103.out) Tryd.underlying54 rfl (by kernel_rfl)) rfl ?_
  exact ⟨by first | rfl | (simp [errW_none, errW_some] <;> rfl) | (simp [*, errW_none, errW_some] <;> rfl), by repeat (first | (with_reducible first | exact HB.out | apply below_alloc | apply pw_below_drewN | apply below_drew1 | refine below_set ?_ GE103.out | refine below_set ?_ GE105.out) | exact HB.out)⟩
set_option maxHeartbeats 8000000 in
set_option maxRecDepth 100000 in
theorem of_bad (a0 : Int) (w : World) (hd : (decide (a0 < (-70368744177664)) = true) ∨ (decide (a0 < (-70368744177664)) = false ∧ decide (a0 > 70368744177664) = true)) :
    Calls Tryd.prog 24 #[.int .i64 a0] w fun e w' => e = .returned (.tuple #[.agg #[.int .i64 0, .int .i64 0, .int .i64 0], errW (some 1)]) ∧ Below w.heap.size w w' := by
  have hu54 := Tryd.underlying54
  have hu26 := Tryd.underlying26
  have hu52 := Tryd.underlying52
  have HB := Aside0.mk (Below.refl w.heap.size w)
  rcases hd with d0 | ⟨d0, d1⟩
  · skip
    go_enter Tryd.func24, Tryd.ntmps24
    go_wp2_with (first | ((with_reducible refine gate_dst (N := 2) rfl ?_); refine box_event ?hg (N := 2) ?hd (cs := #[.int .i64 0, .int .i64 0, .int .i64 0]) (t := 54) ?hr ?_; (case hd => rfl); (case hg => rfl); (case hr => first | (go_simp; done) | (go_simp; rfl)); intro gb103 hg w3 hbox hb; have n0_ := Aside0.mk (below_step (by repeat (first | (with_reducible first | exact HB.out | apply below_alloc | apply pw_below_drewN | apply below_drew1) | exact HB.out)) hb); have n1_ := Aside0.mk (hbox); have n2_ := Aside0.mk ((by rw [hg]; exact (below_size (by repeat (first | (with_reducible first | exact HB.out | apply below_alloc | apply pw_below_drewN | apply below_drew1) | exact HB.out))) : w.heap.size ≤ gb103)); have n3_ := Aside0.mk ((by rw [hg]; exact (below_size (by repeat (first | (with_reducible first | exact HB.out | apply below_alloc | apply pw_below_drewN | apply below_drew1) | exact HB.out))) : w.heap.size ≤ gb103)); clear HB; have HB := n0_; have BK103 := n1_; have GW103 := n2_; have GE103 := n3_; clear n0_ n1_ n2_ n3_; clear hb hbox hg); have hcz6_0 : w3.cell? ⟨gb103, 0, none⟩ = some (.int .i64 0) := (blk_cell BK103.out 0).trans rfl; have hcz6_1 : w3.cell? ⟨gb103, 1, none⟩ = some (.int .i64 0) := (blk_cell BK103.out 1).trans rfl; have hcz6_2 : w3.cell? ⟨gb103, 2, none⟩ = some (.int .i64 0) := (blk_cell BK103.out 2).trans rfl; have hfz6_0 := blk_frozen BK103.out 0; have hfz6_1 := blk_frozen BK103.out 1; have hfz6_2 := blk_frozen BK103.out 2)
    refine bodyPost_ret (results_ct rfl _ _ gb103 54 #[.int .i64 0, .int .i64 0, .int .i64 0] (0, 0) _ rfl (by (with_reducible repeat (first | refine blk_drewN ?_ _ | refine blk_drew ?_ | refine blk_alloc ?_ _)); refine blk_put (cs := #[.int .i64 0, .int .i64 0, .int .i64 0]) ?_ 2 _ rfl; (with_reducible repeat (first | refine blk_drewN ?_ _ | refine blk_drew ?_ | refine blk_alloc ?_ _)); refine blk_put (cs := #[.int .i64 0, .int .i64 0, .int .i64 0]) ?_ 1 _ rfl; (with_reducible repeat (first | refine blk_drewN ?_ _ | refine blk_drew ?_ | refine blk_alloc ?_ _)); refine blk_put (cs := #[.int .i64 0, .int .i64 0, .int .i64 0]) ?_ 0 _ rfl; (with_reducible repeat (first | refine blk_drewN ?_ _ | refine blk_drew ?_ | refine blk_alloc ?_ _)); exact BK103.out) Tryd.underlying54 rfl (by kernel_rfl)) rfl ?_
    exact ⟨by first | rfl | (simp [errW_none, errW_some] <;> rfl) | (simp [*, errW_none, errW_some] <;> rfl), by repeat (first | (with_reducible first | exact HB.out | apply below_alloc | apply pw_below_drewN | apply below_drew1 | refine below_set ?_ GE103.out) | exact HB.out)⟩
  · have d2 : decide (70368744177664 < a0) = true := d1
    go_enter Tryd.func24, Tryd.ntmps24
    go_wp2_with (first | ((with_reducible refine gate_dst (N := 2) rfl ?_); refine box_event ?hg (N := 2) ?hd (cs := #[.int .i64 0, .int .i64 0, .int .i64 0]) (t := 54) ?hr ?_; (case hd => rfl); (case hg => rfl); (case hr => first | (go_simp; done) | (go_simp; rfl)); intro gb103 hg w3 hbox hb; have n0_ := Aside0.mk (below_step (by repeat (first | (with_reducible first | exact HB.out | apply below_alloc | apply pw_below_drewN | apply below_drew1) | exact HB.out)) hb); have n1_ := Aside0.mk (hbox); have n2_ := Aside0.mk ((by rw [hg]; exact (below_size (by repeat (first | (with_reducible first | exact HB.out | apply below_alloc | apply pw_below_drewN | apply below_drew1) | exact HB.out))) : w.heap.size ≤ gb103)); have n3_ := Aside0.mk ((by rw [hg]; exact (below_size (by repeat (first | (with_reducible first | exact HB.out | apply below_alloc | apply pw_below_drewN | apply below_drew1) | exact HB.out))) : w.heap.size ≤ gb103)); clear HB; have HB := n0_; have BK103 := n1_; have GW103 := n2_; have GE103 := n3_; clear n0_ n1_ n2_ n3_; clear hb hbox hg); have hcz6_0 : w3.cell? ⟨gb103, 0, none⟩ = some (.int .i64 0) := (blk_cell BK103.out 0).trans rfl; have hcz6_1 : w3.cell? ⟨gb103, 1, none⟩ = some (.int .i64 0) := (blk_cell BK103.out 1).trans rfl; have hcz6_2 : w3.cell? ⟨gb103, 2, none⟩ = some (.int .i64 0) := (blk_cell BK103.out 2).trans rfl; have hfz6_0 := blk_frozen BK103.out 0; have hfz6_1 := blk_frozen BK103.out 1; have hfz6_2 := blk_frozen BK103.out 2)
    refine bodyPost_ret (results_ct rfl _ _ gb103 54 #[.int .i64 0, .int .i64 0, .int .i64 0] (0, 0) _ rfl (by (with_reducible repeat (first | refine blk_drewN ?_ _ | refine blk_drew ?_ | refine blk_alloc ?_ _)); refine blk_put (cs := #[.int .i64 0, .int .i64 0, .int .i64 0]) ?_ 2 _ rfl; (with_reducible repeat (first | refine blk_drewN ?_ _ | refine blk_drew ?_ | refine blk_alloc ?_ _)); refine blk_put (cs := #[.int .i64 0, .int .i64 0, .int .i64 0]) ?_ 1 _ rfl; (with_reducible repeat (first | refine blk_drewN ?_ _ | refine blk_drew ?_ | refine blk_alloc ?_ _)); refine blk_put (cs := #[.int .i64 0, .int .i64 0, .int .i64 0]) ?_ 0 _ rfl; (with_reducible repeat (first | refine blk_drewN ?_ _ | refine blk_drew ?_ | refine blk_alloc ?_ _)); exact BK103.out) Tryd.underlying54 rfl (by kernel_rfl)) rfl ?_
    exact ⟨by first | rfl | (simp [errW_none, errW_some] <;> rfl) | (simp [*, errW_none, errW_some] <;> rfl), by repeat (first | (with_reducible first | exact HB.out | apply below_alloc | apply pw_below_drewN | apply below_drew1 | refine below_set ?_ GE103.out) | exact HB.out)⟩

theorem wo {x : Int} (h0 : -9223372036854775808 ≤ x) (h1 : x ≤ 9223372036854775807) : wrap64 x = x := by unfold wrap64; omega
theorem of_mod_eq (n : Int) (h0 : -80000000000000 ≤ n) (h1 : n ≤ 80000000000000) : of_mod.f n 146097 = some (n % 146097) := by
  unfold of_mod.f
  rw [if_neg (by decide)]
  by_cases hn : 0 ≤ n
  · rw [Int.tmod_eq_emod_of_nonneg hn, wo (by omega) (by omega), Int.tmod_eq_emod_of_nonneg (by omega)]
    congr 1; omega
  · obtain ⟨k, rfl⟩ : ∃ k : Nat, n = -(k : Int) := ⟨n.natAbs, by omega⟩
    rw [Int.neg_tmod, Int.tmod_eq_emod_of_nonneg (Int.natCast_nonneg k), wo (by omega) (by omega), Int.tmod_eq_emod_of_nonneg (by omega)]
    congr 1; omega
theorem tdiv_le (a : Int) (b : Int) (hb : 0 < b) : -(a.natAbs : Int) ≤ Int.tdiv a b ∧ Int.tdiv a b ≤ (a.natAbs : Int) := by
  have h := Int.natAbs_tdiv_le_natAbs a b
  omega
theorem tdiv_cyc (n : Int) : Int.tdiv (n - n % 146097) 146097 = n / 146097 := by
  have e : n - n % 146097 = 146097 * (n / 146097) := by omega
  rw [e, Int.mul_tdiv_cancel_left _ (by decide)]
/-- The year of the cycle, from March on; the day of that year; its month, from March on. -/
def ofY (p : Int) : Int := Int.tdiv (p - Int.tdiv p 1460 + Int.tdiv p 36524 - Int.tdiv p 146096) 365
def ofD (p : Int) : Int := p - (365 * ofY p + Int.tdiv (ofY p) 4 - Int.tdiv (ofY p) 100)
def ofM (p : Int) : Int := Int.tdiv (5 * ofD p + 2) 153
def ofE (p : Int) : Int := ofD p - Int.tdiv (153 * ofM p + 2) 5 + 1
def civil_Of.f (a0 : Int) : Option (Int × Int × Int × Option Int) :=
  if a0 < (-70368744177664) then some (0, 0, 0, some 1) else (if a0 > 70368744177664 then some (0, 0, 0, some 1) else
    (if 12 < ofM ((a0 + 719468) % 146097) + 3 then some ((a0 + 719468) / 146097 * 400 + ofY ((a0 + 719468) % 146097) + 1, ofM ((a0 + 719468) % 146097) + 3 - 12, ofE ((a0 + 719468) % 146097), none)
      else some ((a0 + 719468) / 146097 * 400 + ofY ((a0 + 719468) % 146097), ofM ((a0 + 719468) % 146097) + 3, ofE ((a0 + 719468) % 146097), none)))
set_option maxHeartbeats 8000000 in
theorem civil_Of.calls (a0 : Int) (r1 : Int) (r2 : Int) (r3 : Int) (r4 : Option Int) (w : World) (h : civil_Of.f a0 = some (r1, r2, r3, r4)) :
    Calls Tryd.prog 24 #[.int .i64 a0] w fun e w' => e = .returned (.tuple #[.agg #[.int .i64 r1, .int .i64 r2, .int .i64 r3], errW r4]) ∧ Below w.heap.size w w' := by
  unfold civil_Of.f at h
  by_cases c0 : a0 < (-70368744177664)
  · rw [if_pos c0] at h
    simp only [Option.some.injEq, Prod.mk.injEq] at h
    obtain ⟨rfl, rfl, rfl, rfl⟩ := h
    exact of_bad a0 w (.inl (decide_eq_true c0))
  · rw [if_neg c0] at h
    by_cases c1 : a0 > 70368744177664
    · rw [if_pos c1] at h
      simp only [Option.some.injEq, Prod.mk.injEq] at h
      obtain ⟨rfl, rfl, rfl, rfl⟩ := h
      exact of_bad a0 w (.inr ⟨decide_eq_false c0, decide_eq_true c1⟩)
    · rw [if_neg c1] at h
      have d0 := decide_eq_false c0
      have d1 := decide_eq_false c1
      obtain ⟨n, hn⟩ : ∃ n, a0 + 719468 = n := ⟨_, rfl⟩
      rw [hn] at h
      have n0 : -80000000000000 ≤ n := by omega
      have n1 : n ≤ 80000000000000 := by omega
      have hm := of_mod_eq n n0 n1
      have hnn : wrap64 (a0 + 719468) = n := by rw [hn, wo (by omega) (by omega)]
      have hz1 : wrap64 (n - n % 146097) = n - n % 146097 := wo (by omega) (by omega)
      have hz2 : wrap64 (Int.tdiv (n - n % 146097) 146097) = n / 146097 := by rw [tdiv_cyc, wo (by omega) (by omega)]
      have hz3 : wrap64 (n / 146097 * 400) = n / 146097 * 400 := wo (by omega) (by omega)
      obtain ⟨cy, hcy⟩ : ∃ c, n / 146097 = c := ⟨_, rfl⟩
      have y0 : -1000000000 ≤ cy ∧ cy ≤ 1000000000 := by omega
      rw [hcy] at hz2 hz3 h
      obtain ⟨p, hp⟩ : ∃ p, n % 146097 = p := ⟨_, rfl⟩
      rw [hp] at hm h hz1 hz2
      have p0 : 0 ≤ p := by omega
      have p1 : p < 146097 := by omega
      clear hp hcy hn
      have b1 := tdiv_le p 1460 (by decide)
      have b2 := tdiv_le p 36524 (by decide)
      have b3 := tdiv_le p 146096 (by decide)
      obtain ⟨t1, ht1⟩ : ∃ t, Int.tdiv p 1460 = t := ⟨_, rfl⟩
      obtain ⟨t2, ht2⟩ : ∃ t, Int.tdiv p 36524 = t := ⟨_, rfl⟩
      obtain ⟨t3, ht3⟩ : ∃ t, Int.tdiv p 146096 = t := ⟨_, rfl⟩
      rw [ht1] at b1
      rw [ht2] at b2
      rw [ht3] at b3
      have b4 := tdiv_le (p - t1 + t2 - t3) 365 (by decide)
      have ey : ofY p = Int.tdiv (p - t1 + t2 - t3) 365 := by unfold ofY; rw [ht1, ht2, ht3]
      rw [← ey] at b4
      have b5 := tdiv_le (ofY p) 4 (by decide)
      have b6 := tdiv_le (ofY p) 100 (by decide)
      have ed : ofD p = p - (365 * ofY p + Int.tdiv (ofY p) 4 - Int.tdiv (ofY p) 100) := rfl
      obtain ⟨y, hy⟩ : ∃ y, ofY p = y := ⟨_, rfl⟩
      rw [hy] at ey b4 b5 b6 ed h
      obtain ⟨t4, ht4⟩ : ∃ t, Int.tdiv y 4 = t := ⟨_, rfl⟩
      obtain ⟨t5, ht5⟩ : ∃ t, Int.tdiv y 100 = t := ⟨_, rfl⟩
      rw [ht4] at b5 ed
      rw [ht5] at b6 ed
      have em : ofM p = Int.tdiv (5 * ofD p + 2) 153 := rfl
      have ee : ofE p = ofD p - Int.tdiv (153 * ofM p + 2) 5 + 1 := rfl
      obtain ⟨d, hd⟩ : ∃ d, ofD p = d := ⟨_, rfl⟩
      rw [hd] at em ee ed
      have b7 := tdiv_le (5 * d + 2) 153 (by decide)
      rw [← em] at b7
      obtain ⟨m, hm'⟩ : ∃ m, ofM p = m := ⟨_, rfl⟩
      rw [hm'] at em ee b7 h
      have b8 := tdiv_le (153 * m + 2) 5 (by decide)
      obtain ⟨t6, ht6⟩ : ∃ t, Int.tdiv (153 * m + 2) 5 = t := ⟨_, rfl⟩
      rw [ht6] at b8 ee
      have D0 : -1000000000 ≤ d ∧ d ≤ 1000000000 := by omega
      have M0 : -10000000000 ≤ m ∧ m ≤ 10000000000 := by omega
      have T6 : -10000000000000 ≤ t6 ∧ t6 ≤ 10000000000000 := by omega
      have Y0 : -10000000 ≤ y ∧ y ≤ 10000000 := by omega
      have w1 : wrap64 (Int.tdiv p 1460) = t1 := by rw [ht1, wo (by omega) (by omega)]
      have w2 : wrap64 (p - t1) = p - t1 := wo (by omega) (by omega)
      have w3 : wrap64 (Int.tdiv p 36524) = t2 := by rw [ht2, wo (by omega) (by omega)]
      have w4 : wrap64 (p - t1 + t2) = p - t1 + t2 := wo (by omega) (by omega)
      have w5 : wrap64 (Int.tdiv p 146096) = t3 := by rw [ht3, wo (by omega) (by omega)]
      have w6 : wrap64 (p - t1 + t2 - t3) = p - t1 + t2 - t3 := wo (by omega) (by omega)
      have w7 : wrap64 (Int.tdiv (p - t1 + t2 - t3) 365) = y := by rw [← ey, wo (by omega) (by omega)]
      have w8 : wrap64 (365 * y) = 365 * y := wo (by omega) (by omega)
      have w9 : wrap64 (Int.tdiv y 4) = t4 := by rw [ht4, wo (by omega) (by omega)]
      have wa : wrap64 (365 * y + t4) = 365 * y + t4 := wo (by omega) (by omega)
      have wb : wrap64 (Int.tdiv y 100) = t5 := by rw [ht5, wo (by omega) (by omega)]
      have wc : wrap64 (365 * y + t4 - t5) = 365 * y + t4 - t5 := wo (by omega) (by omega)
      have wd : wrap64 (p - (365 * y + t4 - t5)) = d := by rw [← ed, wo (by omega) (by omega)]
      have we : wrap64 (5 * d) = 5 * d := wo (by omega) (by omega)
      have wf : wrap64 (5 * d + 2) = 5 * d + 2 := wo (by omega) (by omega)
      have wg : wrap64 (Int.tdiv (5 * d + 2) 153) = m := by rw [← em, wo (by omega) (by omega)]
      have wh : wrap64 (m + 3) = m + 3 := wo (by omega) (by omega)
      have wi : wrap64 (cy * 400 + y) = cy * 400 + y := wo (by omega) (by omega)
      have wj : wrap64 (153 * m) = 153 * m := wo (by omega) (by omega)
      have wk : wrap64 (153 * m + 2) = 153 * m + 2 := wo (by omega) (by omega)
      have wl : wrap64 (Int.tdiv (153 * m + 2) 5) = t6 := by rw [ht6, wo (by omega) (by omega)]
      have wm : wrap64 (d - t6) = d - t6 := wo (by omega) (by omega)
      have wn : wrap64 (d - t6 + 1) = ofE p := by rw [← ee, wo (by omega) (by omega)]
      have wp : wrap64 (cy * 400 + y + 1) = cy * 400 + y + 1 := wo (by omega) (by omega)
      have wq : wrap64 (m + 3 - 12) = m + 3 - 12 := wo (by omega) (by omega)
      by_cases c8 : 12 < m + 3
      · rw [if_pos c8] at h
        simp only [Option.some.injEq, Prod.mk.injEq] at h
        obtain ⟨rfl, rfl, rfl, rfl⟩ := h
        exact of_pos (a0 := a0) (w := w) (d0 := d0) (d1 := d1) (hm := hm) (hq1 := w1) (hq2 := w2) (hq3 := w3) (hq4 := w4) (hq5 := w5) (hq6 := w6) (hyy := w7) (hq7 := w8) (hq8 := w9) (hq9 := wa) (hqa := wb) (hqb := wc) (hdd := wd) (hqc := we) (hqd := wf) (hmm := wg) (hm3 := wh) (hnn := hnn) (hz1 := hz1) (hz2 := hz2) (hz3 := hz3) (hya := wi) (hz4 := wj) (hz5 := wk) (hz6 := wl) (hz7 := wm) (hda := wn) (hyb := wp) (hmb := wq) (c8 := decide_eq_true c8)
      · rw [if_neg c8] at h
        simp only [Option.some.injEq, Prod.mk.injEq] at h
        obtain ⟨rfl, rfl, rfl, rfl⟩ := h
        exact of_neg (a0 := a0) (w := w) (d0 := d0) (d1 := d1) (hm := hm) (hq1 := w1) (hq2 := w2) (hq3 := w3) (hq4 := w4) (hq5 := w5) (hq6 := w6) (hyy := w7) (hq7 := w8) (hq8 := w9) (hq9 := wa) (hqa := wb) (hqb := wc) (hdd := wd) (hqc := we) (hqd := wf) (hmm := wg) (hm3 := wh) (hnn := hnn) (hz1 := hz1) (hz2 := hz2) (hz3 := hz3) (hya := wi) (hz4 := wj) (hz5 := wk) (hz6 := wl) (hz7 := wm) (hda := wn) (c8 := decide_eq_false c8)
end Go.Proofs.YtegiikkbeknodaaDoor.P
