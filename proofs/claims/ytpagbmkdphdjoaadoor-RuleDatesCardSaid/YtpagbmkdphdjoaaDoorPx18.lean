-- written by myprint.py (this claim's own program, after the kit's print)
import Derived.Test.YtpagbmkdphdjoaaDoorPx0
import Derived.Test.YtpagbmkdphdjoaaDoorPx6
import Derived.Test.YtpagbmkdphdjoaaDoorPx16
import Derived.Test.YtpagbmkdphdjoaaDoorPClOf
namespace Go.Proofs.YtpagbmkdphdjoaaDoor.P
open Go.RowKit Go.Proofs.YtpagbmkdphdjoaaDoorW.PrintWords Go.Proofs.YtpagbmkdphdjoaaDoorW.PrintLast Go.Proofs.YtpagbmkdphdjoaaDoorW.PrintMore
attribute [local go_sem] max2_int min2_int max_two min_two max_three min_three max_four min_four   -- for this text's walks alone
set_option linter.unusedVariables false
set_option linter.unusedSimpArgs false

/-! ### belvederelaw06_RuleDates: function 4 -/
mutual
def belvederelaw06_RuleDates.l0 : Nat → Int → Int → Int → Int → Int → Int → Int → Int → Int → Int → Int → Int → Int → Int → Int → Option (Bool)
  | 0, _, _, _, _, _, _, _, _, _, _, _, _, _, _, _ => none
  | k + 1, x5, x6, x12, x13, x14, x277000, x277001, x277002, x277003, x277004, x277005, x277006, x277007, x277008, x277009 => if x14 ≤ (wrap64 (x6 + 3)) then ((rule_Match.f k x277000 x277001 x277002 x277003 x277004 x277005 x277006 x277007 x277008 x277009 (wrap64 (x5 + x14))).bind fun bt277 => (if bt277.2.isNone = true then (if x14 ≥ 0 then (if (bt277.1 != (decide (x14 ≤ x6))) = true then (none) else (if bt277.1 = true then (belvederelaw06_RuleDates.l0 k x5 x6 (wrap64 (x12 + 1)) x13 (wrap64 (x14 + 1)) x277000 x277001 x277002 x277003 x277004 x277005 x277006 x277007 x277008 x277009) else (belvederelaw06_RuleDates.l0 k x5 x6 x12 x13 (wrap64 (x14 + 1)) x277000 x277001 x277002 x277003 x277004 x277005 x277006 x277007 x277008 x277009))) else (if (bt277.1 != false) = true then (none) else (if bt277.1 = true then (belvederelaw06_RuleDates.l0 k x5 x6 (wrap64 (x12 + 1)) x13 (wrap64 (x14 + 1)) x277000 x277001 x277002 x277003 x277004 x277005 x277006 x277007 x277008 x277009) else (belvederelaw06_RuleDates.l0 k x5 x6 x12 x13 (wrap64 (x14 + 1)) x277000 x277001 x277002 x277003 x277004 x277005 x277006 x277007 x277008 x277009)))) else (none))) else (belvederelaw06_RuleDates.l1 k x5 x6 x12 x13 0)
def belvederelaw06_RuleDates.l1 : Nat → Int → Int → Int → Int → Int → Option (Bool)
  | 0, _, _, _, _, _ => none
  | k + 1, x5, x6, x12, x13, x17 => if x17 < 7 then (belvederelaw06_RuleDates.l2 k x5 x6 x12 x13 x17 0) else (if x12 = (wrap64 (x6 + 1)) then (if x13 = 7 then ((belvederelaw06_sure.f k).bind fun t280 => (some t280)) else (none)) else (none))
def belvederelaw06_RuleDates.l2 : Nat → Int → Int → Int → Int → Int → Int → Option (Bool)
  | 0, _, _, _, _, _, _ => none
  | k + 1, x5, x6, x12, x13, x17, x18 => if x18 < 7 then ((rule_Match.f k 0 0 0 x17 0 0 0 0 0 0 (wrap64 (x5 + x18))).bind fun bt281 => (if bt281.2.isNone = true then (if bt281.1 = true then (belvederelaw06_RuleDates.l2 k x5 x6 x12 (wrap64 (x13 + 1)) x17 (wrap64 (x18 + 1))) else (belvederelaw06_RuleDates.l2 k x5 x6 x12 x13 x17 (wrap64 (x18 + 1)))) else (none))) else (belvederelaw06_RuleDates.l1 k x5 x6 x12 x13 (wrap64 (x17 + 1)))
end
def belvederelaw06_RuleDates.f (k : Nat) (a0 : Int) (a1 : Int) : Option (Bool) := (civil_Of.f (wrap64 (Int.tmod (IntKind.u64.wrap (a0)) 2900000))).bind fun bt264 => ((civil_Of.f (wrap64 ((wrap64 (Int.tmod (IntKind.u64.wrap (a0)) 2900000)) + (wrap64 (Int.tmod (IntKind.u64.wrap (a1)) 60))))).bind fun bt269 => (if bt264.2.2.2.isNone = true then (if bt269.2.2.2.isNone = true then (belvederelaw06_RuleDates.l0 k (wrap64 (Int.tmod (IntKind.u64.wrap (a0)) 2900000)) (wrap64 (Int.tmod (IntKind.u64.wrap (a1)) 60)) 0 0 (-3) 3 0 0 0 bt264.1 bt264.2.1 bt264.2.2.1 bt269.1 bt269.2.1 bt269.2.2.1) else (none)) else (none)))
theorem belvederelaw06_RuleDates.mono_l : ∀ k, (∀ y0 y1 y2 y3 y4 y5 y6 y7 y8 y9 y10 y11 y12 y13 y14, LeO (belvederelaw06_RuleDates.l0 k y0 y1 y2 y3 y4 y5 y6 y7 y8 y9 y10 y11 y12 y13 y14) (belvederelaw06_RuleDates.l0 (k + 1) y0 y1 y2 y3 y4 y5 y6 y7 y8 y9 y10 y11 y12 y13 y14)) ∧ (∀ y0 y1 y2 y3 y4, LeO (belvederelaw06_RuleDates.l1 k y0 y1 y2 y3 y4) (belvederelaw06_RuleDates.l1 (k + 1) y0 y1 y2 y3 y4)) ∧ (∀ y0 y1 y2 y3 y4 y5, LeO (belvederelaw06_RuleDates.l2 k y0 y1 y2 y3 y4 y5) (belvederelaw06_RuleDates.l2 (k + 1) y0 y1 y2 y3 y4 y5))
  | 0 => ⟨fun _ _ _ _ _ _ _ _ _ _ _ _ _ _ _ r h => by simp [belvederelaw06_RuleDates.l0] at h, fun _ _ _ _ _ r h => by simp [belvederelaw06_RuleDates.l1] at h, fun _ _ _ _ _ _ r h => by simp [belvederelaw06_RuleDates.l2] at h⟩
  | k + 1 => by
    obtain ⟨ih0, ih1, ih2⟩ := belvederelaw06_RuleDates.mono_l k
    refine ⟨?_, ?_, ?_⟩
    · intro y0 y1 y2 y3 y4 y5 y6 y7 y8 y9 y10 y11 y12 y13 y14
      unfold belvederelaw06_RuleDates.l0
      repeat' first
      | (with_reducible exact ih0 _ _ _ _ _ _ _ _ _ _ _ _ _ _ _)
      | (with_reducible exact ih1 _ _ _ _ _)
      | (with_reducible exact ih2 _ _ _ _ _ _)
      | (with_reducible exact belvederelaw06_sure.mono _)
      | (with_reducible exact rule_Match.mono _ _ _ _ _ _ _ _ _ _ _ _)
      | (with_reducible exact LeO.refl _)
      | (with_reducible exact LeO.none _)
      | (with_reducible refine LeO.ite ?_ ?_)
      | (with_reducible refine LeO.bind ?_ (fun _ => ?_))
      | exact ih0 _ _ _ _ _ _ _ _ _ _ _ _ _ _ _
      | exact ih1 _ _ _ _ _
      | exact ih2 _ _ _ _ _ _
      | exact belvederelaw06_sure.mono _
      | exact rule_Match.mono _ _ _ _ _ _ _ _ _ _ _ _
      | exact LeO.none _
      | refine LeO.ite ?_ ?_
      | refine LeO.bind ?_ (fun _ => ?_)
    · intro y0 y1 y2 y3 y4
      unfold belvederelaw06_RuleDates.l1
      repeat' first
      | (with_reducible exact ih0 _ _ _ _ _ _ _ _ _ _ _ _ _ _ _)
      | (with_reducible exact ih1 _ _ _ _ _)
      | (with_reducible exact ih2 _ _ _ _ _ _)
      | (with_reducible exact belvederelaw06_sure.mono _)
      | (with_reducible exact rule_Match.mono _ _ _ _ _ _ _ _ _ _ _ _)
      | (with_reducible exact LeO.refl _)
      | (with_reducible exact LeO.none _)
      | (with_reducible refine LeO.ite ?_ ?_)
      | (with_reducible refine LeO.bind ?_ (fun _ => ?_))
      | exact ih0 _ _ _ _ _ _ _ _ _ _ _ _ _ _ _
      | exact ih1 _ _ _ _ _
      | exact ih2 _ _ _ _ _ _
      | exact belvederelaw06_sure.mono _
      | exact rule_Match.mono _ _ _ _ _ _ _ _ _ _ _ _
      | exact LeO.none _
      | refine LeO.ite ?_ ?_
      | refine LeO.bind ?_ (fun _ => ?_)
    · intro y0 y1 y2 y3 y4 y5
      unfold belvederelaw06_RuleDates.l2
      repeat' first
      | (with_reducible exact ih0 _ _ _ _ _ _ _ _ _ _ _ _ _ _ _)
      | (with_reducible exact ih1 _ _ _ _ _)
      | (with_reducible exact ih2 _ _ _ _ _ _)
      | (with_reducible exact belvederelaw06_sure.mono _)
      | (with_reducible exact rule_Match.mono _ _ _ _ _ _ _ _ _ _ _ _)
      | (with_reducible exact LeO.refl _)
      | (with_reducible exact LeO.none _)
      | (with_reducible refine LeO.ite ?_ ?_)
      | (with_reducible refine LeO.bind ?_ (fun _ => ?_))
      | exact ih0 _ _ _ _ _ _ _ _ _ _ _ _ _ _ _
      | exact ih1 _ _ _ _ _
      | exact ih2 _ _ _ _ _ _
      | exact belvederelaw06_sure.mono _
      | exact rule_Match.mono _ _ _ _ _ _ _ _ _ _ _ _
      | exact LeO.none _
      | refine LeO.ite ?_ ?_
      | refine LeO.bind ?_ (fun _ => ?_)
theorem belvederelaw06_RuleDates.mono : ∀ a0 a1 k, LeO (belvederelaw06_RuleDates.f k a0 a1) (belvederelaw06_RuleDates.f (k + 1) a0 a1) := by
  intro a0 a1 k
  obtain ⟨ih0, ih1, ih2⟩ := belvederelaw06_RuleDates.mono_l k
  unfold belvederelaw06_RuleDates.f
  repeat' first
      | (with_reducible exact ih0 _ _ _ _ _ _ _ _ _ _ _ _ _ _ _)
      | (with_reducible exact ih1 _ _ _ _ _)
      | (with_reducible exact ih2 _ _ _ _ _ _)
      | (with_reducible exact belvederelaw06_sure.mono _)
      | (with_reducible exact rule_Match.mono _ _ _ _ _ _ _ _ _ _ _ _)
      | (with_reducible exact LeO.refl _)
      | (with_reducible exact LeO.none _)
      | (with_reducible refine LeO.ite ?_ ?_)
      | (with_reducible refine LeO.bind ?_ (fun _ => ?_))
      | exact ih0 _ _ _ _ _ _ _ _ _ _ _ _ _ _ _
      | exact ih1 _ _ _ _ _
      | exact ih2 _ _ _ _ _ _
      | exact belvederelaw06_sure.mono _
      | exact rule_Match.mono _ _ _ _ _ _ _ _ _ _ _ _
      | exact LeO.none _
      | refine LeO.ite ?_ ?_
      | refine LeO.bind ?_ (fun _ => ?_)
set_option maxHeartbeats 8000000 in
set_option maxRecDepth 100000 in
theorem belvederelaw06_RuleDates.calls (k : Nat) (a0 : Int) (a1 : Int) (r : Bool) (w : World) (h : belvederelaw06_RuleDates.f k a0 a1 = some r) (hG : GR w) :
    Calls Tryd.prog 4 #[.int .i64 a0, .int .i64 a1] w fun e w' => e = .returned (.bool r) ∧ Below w.heap.size w w' := by
  have hu24 := Tryd.underlying24
  have hu34 := Tryd.underlying34
  have hu26 := Tryd.underlying26
  have hu38 := Tryd.underlying38
  have HB := Aside0.mk (Below.refl w.heap.size w)
  have H : ((civil_Of.f (wrap64 (Int.tmod (IntKind.u64.wrap (a0)) 2900000))).bind fun bt264 => ((civil_Of.f (wrap64 ((wrap64 (Int.tmod (IntKind.u64.wrap (a0)) 2900000)) + (wrap64 (Int.tmod (IntKind.u64.wrap (a1)) 60))))).bind fun bt269 => (if bt264.2.2.2.isNone = true then (if bt269.2.2.2.isNone = true then (belvederelaw06_RuleDates.l0 k (wrap64 (Int.tmod (IntKind.u64.wrap (a0)) 2900000)) (wrap64 (Int.tmod (IntKind.u64.wrap (a1)) 60)) 0 0 (-3) 3 0 0 0 bt264.1 bt264.2.1 bt264.2.2.1 bt269.1 bt269.2.1 bt269.2.2.1) else (none)) else (none)))) = some r := h
  clear h
  replace H := Option.bind_eq_some_iff.mp H
  obtain ⟨⟨t264, t265, t266, t267⟩, A30, H⟩ := H
  replace H : ((civil_Of.f (wrap64 ((wrap64 (Int.tmod (IntKind.u64.wrap (a0)) 2900000)) + (wrap64 (Int.tmod (IntKind.u64.wrap (a1)) 60))))).bind fun bt269 => (if t267.isNone = true then (if bt269.2.2.2.isNone = true then (belvederelaw06_RuleDates.l0 k (wrap64 (Int.tmod (IntKind.u64.wrap (a0)) 2900000)) (wrap64 (Int.tmod (IntKind.u64.wrap (a1)) 60)) 0 0 (-3) 3 0 0 0 t264 t265 t266 bt269.1 bt269.2.1 bt269.2.2.1) else (none)) else (none))) = some r := H
  have A3 := Aside0.mk A30
  clear A30
  replace H := Option.bind_eq_some_iff.mp H
  obtain ⟨⟨t269, t270, t271, t272⟩, A40, H⟩ := H
  replace H : (if t267.isNone = true then (if t272.isNone = true then (belvederelaw06_RuleDates.l0 k (wrap64 (Int.tmod (IntKind.u64.wrap (a0)) 2900000)) (wrap64 (Int.tmod (IntKind.u64.wrap (a1)) 60)) 0 0 (-3) 3 0 0 0 t264 t265 t266 t269 t270 t271) else (none)) else (none)) = some r := H
  have A4 := Aside0.mk A40
  clear A40
  rcases t267 with _ | q274
  · have H1 : (if t272.isNone = true then (belvederelaw06_RuleDates.l0 k (wrap64 (Int.tmod (IntKind.u64.wrap (a0)) 2900000)) (wrap64 (Int.tmod (IntKind.u64.wrap (a1)) 60)) 0 0 (-3) 3 0 0 0 t264 t265 t266 t269 t270 t271) else (none)) = some r := by rw [if_pos (show (none : Option Int).isNone = true by rfl)] at H; exact H
    clear H
    have H := H1
    clear H1
    try simp only [errW_none, errW_some]
    rcases t272 with _ | q275
    · have H1 : (belvederelaw06_RuleDates.l0 k (wrap64 (Int.tmod (IntKind.u64.wrap (a0)) 2900000)) (wrap64 (Int.tmod (IntKind.u64.wrap (a1)) 60)) 0 0 (-3) 3 0 0 0 t264 t265 t266 t269 t270 t271) = some r := by rw [if_pos (show (none : Option Int).isNone = true by rfl)] at H; exact H
      clear H
      have H := H1
      clear H1
      try simp only [errW_none, errW_some]
      have H' := Aside0.mk H
      clear H
      go_enter Tryd.func4, Tryd.ntmps4
      go_wp2_with (first | ((with_reducible refine gate_callee (f := 5) rfl ?_); refine goesL_ (some 31) rfl rfl Tryd.func5 (by kernel_rfl) rfl #[.int .i64 (wrap64 (Int.tmod (IntKind.u64.wrap (a0)) 2900000))] rfl (by (try simp only [List.map_toArray, List.map_cons, List.map_nil]); first | done | rfl | (simp only [List.length_drop, List.length_take]; rfl)) ?_; (with_reducible refine (civil_Of.calls (wrap64 (Int.tmod (IntKind.u64.wrap (a0)) 2900000)) t264 t265 t266 none _ A3.out).mono ?_); rintro e w5 ⟨rfl, hb⟩; refine ⟨_, rfl, ?_⟩; have n0_ := Aside0.mk (below_step (by repeat (first | (with_reducible first | exact HB.out | apply below_alloc | apply pw_below_drewN | apply below_drew1) | exact HB.out)) hb); clear HB; have HB := n0_; clear n0_; (try clear hb); (try clear hb2); (try clear hk); (try clear hi); (try simp only [errW_none, errW_some])) | ((with_reducible refine gate_dst (N := 7) rfl ?_); refine box_event ?hg (N := 7) ?hd (cs := #[.int .i64 0, .int .i64 0, .int .i64 0]) (t := 24) ?hr ?_; (case hd => rfl); (case hg => rfl); (case hr => first | (go_simp; done) | (go_simp; rfl)); intro gb268 hg w6 hbox hb; have n0_ := Aside0.mk (below_step (by repeat (first | (with_reducible first | exact HB.out | apply below_alloc | apply pw_below_drewN | apply below_drew1) | exact HB.out)) hb); have n1_ := Aside0.mk (hbox); have n2_ := Aside0.mk ((by rw [hg]; exact (below_size (by repeat (first | (with_reducible first | exact HB.out | apply below_alloc | apply pw_below_drewN | apply below_drew1) | exact HB.out))) : w.heap.size ≤ gb268)); have n3_ := Aside0.mk ((by rw [hg]; exact (below_size (by repeat (first | (with_reducible first | exact HB.out | apply below_alloc | apply pw_below_drewN | apply below_drew1) | exact HB.out))) : w.heap.size ≤ gb268)); clear HB; have HB := n0_; have BK268 := n1_; have GW268 := n2_; have GE268 := n3_; clear n0_ n1_ n2_ n3_; clear hb hbox hg; have hcz7_0 : w6.cell? ⟨gb268, 0, none⟩ = some (.int .i64 0) := (blk_cell BK268.out 0).trans rfl; have hcz7_1 : w6.cell? ⟨gb268, 1, none⟩ = some (.int .i64 0) := (blk_cell BK268.out 1).trans rfl; have hcz7_2 : w6.cell? ⟨gb268, 2, none⟩ = some (.int .i64 0) := (blk_cell BK268.out 2).trans rfl; have hfz7_0 := blk_frozen BK268.out 0; have hfz7_1 := blk_frozen BK268.out 1; have hfz7_2 := blk_frozen BK268.out 2) | ((with_reducible refine gate_callee (f := 5) rfl ?_); refine goesL_ (some 38) rfl rfl Tryd.func5 (by kernel_rfl) rfl #[.int .i64 (wrap64 ((wrap64 (Int.tmod (IntKind.u64.wrap (a0)) 2900000)) + (wrap64 (Int.tmod (IntKind.u64.wrap (a1)) 60))))] rfl (by (try simp only [List.map_toArray, List.map_cons, List.map_nil]); first | done | rfl | (simp only [List.length_drop, List.length_take]; rfl)) ?_; (with_reducible refine (civil_Of.calls (wrap64 ((wrap64 (Int.tmod (IntKind.u64.wrap (a0)) 2900000)) + (wrap64 (Int.tmod (IntKind.u64.wrap (a1)) 60)))) t269 t270 t271 none _ A4.out).mono ?_); rintro e w8 ⟨rfl, hb⟩; refine ⟨_, rfl, ?_⟩; have n0_ := Aside0.mk (blk_below (g := gb268) (o := .cells #[.int .i64 t264, .int .i64 t265, .int .i64 t266] 24 (0, 0)) (by (with_reducible repeat (first | refine blk_drewN ?_ _ | refine blk_drew ?_ | refine blk_alloc ?_ _)); refine blk_put (cs := #[.int .i64 t264, .int .i64 t265, .int .i64 0]) ?_ 2 _ rfl; (with_reducible repeat (first | refine blk_drewN ?_ _ | refine blk_drew ?_ | refine blk_alloc ?_ _)); refine blk_put (cs := #[.int .i64 t264, .int .i64 0, .int .i64 0]) ?_ 1 _ rfl; (with_reducible repeat (first | refine blk_drewN ?_ _ | refine blk_drew ?_ | refine blk_alloc ?_ _)); refine blk_put (cs := #[.int .i64 0, .int .i64 0, .int .i64 0]) ?_ 0 _ rfl; (with_reducible repeat (first | refine blk_drewN ?_ _ | refine blk_drew ?_ | refine blk_alloc ?_ _)); exact BK268.out) hb); have n1_ := Aside0.mk (below_step (by repeat (first | (with_reducible first | exact HB.out | apply below_alloc | apply pw_below_drewN | apply below_drew1 | refine below_set ?_ GE268.out) | exact HB.out)) hb); clear BK268; clear HB; have BK268 := n0_; have HB := n1_; clear n0_ n1_; (try clear hb); (try clear hb2); (try clear hk); (try clear hi); (try simp only [errW_none, errW_some])) | ((with_reducible refine gate_dst (N := 9) rfl ?_); refine box_event ?hg (N := 9) ?hd (cs := #[.int .i64 0, .int .i64 0, .int .i64 0]) (t := 24) ?hr ?_; (case hd => rfl); (case hg => rfl); (case hr => first | (go_simp; done) | (go_simp; rfl)); intro gb273 hg w9 hbox hb; have n0_ := Aside0.mk (blk_below (g := gb268) (o := .cells #[.int .i64 t264, .int .i64 t265, .int .i64 t266] 24 (0, 0)) (by (with_reducible repeat (first | refine blk_drewN ?_ _ | refine blk_drew ?_ | refine blk_alloc ?_ _)); exact BK268.out) hb); have n1_ := Aside0.mk (below_step (by repeat (first | (with_reducible first | exact HB.out | apply below_alloc | apply pw_below_drewN | apply below_drew1 | refine below_set ?_ GE268.out) | exact HB.out)) hb); have n2_ := Aside0.mk (hbox); have n3_ := Aside0.mk ((by rw [hg]; exact (below_size (by repeat (first | (with_reducible first | exact HB.out | apply below_alloc | apply pw_below_drewN | apply below_drew1 | refine below_set ?_ GE268.out) | exact HB.out))) : w.heap.size ≤ gb273)); have n4_ := Aside0.mk ((by rw [hg]; exact (below_size (by repeat (first | (with_reducible first | exact HB.out | apply below_alloc | apply pw_below_drewN | apply below_drew1 | refine below_set ?_ GE268.out) | exact HB.out))) : w.heap.size ≤ gb273)); have n5_ := Aside0.mk ((by rw [hg]; exact Nat.ne_of_lt (blk_lt (g := gb268) (o := .cells #[.int .i64 t264, .int .i64 t265, .int .i64 t266] 24 (0, 0)) (by (with_reducible repeat (first | refine blk_drewN ?_ _ | refine blk_drew ?_ | refine blk_alloc ?_ _)); exact BK268.out)) : gb268 ≠ gb273)); have n6_ := Aside0.mk ((by rw [hg]; exact Nat.ne_of_gt (blk_lt (g := gb268) (o := .cells #[.int .i64 t264, .int .i64 t265, .int .i64 t266] 24 (0, 0)) (by (with_reducible repeat (first | refine blk_drewN ?_ _ | refine blk_drew ?_ | refine blk_alloc ?_ _)); exact BK268.out)) : gb273 ≠ gb268)); clear BK268; clear HB; have BK268 := n0_; have HB := n1_; have BK273 := n2_; have GW273 := n3_; have GE273 := n4_; have NB268_273 := n5_; have NB273_268 := n6_; clear n0_ n1_ n2_ n3_ n4_ n5_ n6_; clear hb hbox hg; have hnb10 := NB273_268.out; have hnc10 := NB268_273.out; have hcz11_0 : w9.cell? ⟨gb273, 0, none⟩ = some (.int .i64 0) := (blk_cell BK273.out 0).trans rfl; have hcz11_1 : w9.cell? ⟨gb273, 1, none⟩ = some (.int .i64 0) := (blk_cell BK273.out 1).trans rfl; have hcz11_2 : w9.cell? ⟨gb273, 2, none⟩ = some (.int .i64 0) := (blk_cell BK273.out 2).trans rfl; have hfz11_0 := blk_frozen BK273.out 0; have hfz11_1 := blk_frozen BK273.out 1; have hfz11_2 := blk_frozen BK273.out 2; have hcz12_0 : w9.cell? ⟨gb268, 0, none⟩ = some (.int .i64 t264) := (blk_cell BK268.out 0).trans rfl; have hcz12_1 : w9.cell? ⟨gb268, 1, none⟩ = some (.int .i64 t265) := (blk_cell BK268.out 1).trans rfl; have hcz12_2 : w9.cell? ⟨gb268, 2, none⟩ = some (.int .i64 t266) := (blk_cell BK268.out 2).trans rfl; have hfz12_0 := blk_frozen BK268.out 0; have hfz12_1 := blk_frozen BK268.out 1; have hfz12_2 := blk_frozen BK268.out 2) | ((with_reducible refine gate_dst (N := 11) rfl ?_); refine box_event ?hg (N := 11) ?hd (cs := #[.int .i64 0, .int .i64 0, .int .i64 0, .int .i64 0, .int .i64 0, .int .i64 0, .int .i64 0, .int .i64 0, .int .i64 0, .int .i64 0]) (t := 34) ?hr ?_; (case hd => rfl); (case hg => rfl); (case hr => first | (go_simp; done) | (go_simp; rfl)); intro gb276 hg w13 hbox hb; have n0_ := Aside0.mk (blk_below (g := gb268) (o := .cells #[.int .i64 t264, .int .i64 t265, .int .i64 t266] 24 (0, 0)) (by (with_reducible repeat (first | refine blk_drewN ?_ _ | refine blk_drew ?_ | refine blk_alloc ?_ _)); refine blk_far ?_ NB268_273.out _; (with_reducible repeat (first | refine blk_drewN ?_ _ | refine blk_drew ?_ | refine blk_alloc ?_ _)); refine blk_far ?_ NB268_273.out _; (with_reducible repeat (first | refine blk_drewN ?_ _ | refine blk_drew ?_ | refine blk_alloc ?_ _)); refine blk_far ?_ NB268_273.out _; (with_reducible repeat (first | refine blk_drewN ?_ _ | refine blk_drew ?_ | refine blk_alloc ?_ _)); exact BK268.out) hb); have n1_ := Aside0.mk (blk_below (g := gb273) (o := .cells #[.int .i64 t269, .int .i64 t270, .int .i64 t271] 24 (0, 0)) (by (with_reducible repeat (first | refine blk_drewN ?_ _ | refine blk_drew ?_ | refine blk_alloc ?_ _)); refine blk_put (cs := #[.int .i64 t269, .int .i64 t270, .int .i64 0]) ?_ 2 _ rfl; (with_reducible repeat (first | refine blk_drewN ?_ _ | refine blk_drew ?_ | refine blk_alloc ?_ _)); refine blk_put (cs := #[.int .i64 t269, .int .i64 0, .int .i64 0]) ?_ 1 _ rfl; (with_reducible repeat (first | refine blk_drewN ?_ _ | refine blk_drew ?_ | refine blk_alloc ?_ _)); refine blk_put (cs := #[.int .i64 0, .int .i64 0, .int .i64 0]) ?_ 0 _ rfl; (with_reducible repeat (first | refine blk_drewN ?_ _ | refine blk_drew ?_ | refine blk_alloc ?_ _)); exact BK273.out) hb); have n2_ := Aside0.mk (below_step (by repeat (first | (with_reducible first | exact HB.out | apply below_alloc | apply pw_below_drewN | apply below_drew1 | refine below_set ?_ GE268.out | refine below_set ?_ GE273.out) | exact HB.out)) hb); have n3_ := Aside0.mk (hbox); have n4_ := Aside0.mk ((by rw [hg]; exact (below_size (by repeat (first | (with_reducible first | exact HB.out | apply below_alloc | apply pw_below_drewN | apply below_drew1 | refine below_set ?_ GE268.out | refine below_set ?_ GE273.out) | exact HB.out))) : w.heap.size ≤ gb276)); have n5_ := Aside0.mk ((by rw [hg]; exact (below_size (by repeat (first | (with_reducible first | exact HB.out | apply below_alloc | apply pw_below_drewN | apply below_drew1 | refine below_set ?_ GE268.out | refine below_set ?_ GE273.out) | exact HB.out))) : w.heap.size ≤ gb276)); have n6_ := Aside0.mk ((by rw [hg]; exact Nat.ne_of_lt (blk_lt (g := gb268) (o := .cells #[.int .i64 t264, .int .i64 t265, .int .i64 t266] 24 (0, 0)) (by (with_reducible repeat (first | refine blk_drewN ?_ _ | refine blk_drew ?_ | refine blk_alloc ?_ _)); refine blk_far ?_ NB268_273.out _; (with_reducible repeat (first | refine blk_drewN ?_ _ | refine blk_drew ?_ | refine blk_alloc ?_ _)); refine blk_far ?_ NB268_273.out _; (with_reducible repeat (first | refine blk_drewN ?_ _ | refine blk_drew ?_ | refine blk_alloc ?_ _)); refine blk_far ?_ NB268_273.out _; (with_reducible repeat (first | refine blk_drewN ?_ _ | refine blk_drew ?_ | refine blk_alloc ?_ _)); exact BK268.out)) : gb268 ≠ gb276)); have n7_ := Aside0.mk ((by rw [hg]; exact Nat.ne_of_gt (blk_lt (g := gb268) (o := .cells #[.int .i64 t264, .int .i64 t265, .int .i64 t266] 24 (0, 0)) (by (with_reducible repeat (first | refine blk_drewN ?_ _ | refine blk_drew ?_ | refine blk_alloc ?_ _)); refine blk_far ?_ NB268_273.out _; (with_reducible repeat (first | refine blk_drewN ?_ _ | refine blk_drew ?_ | refine blk_alloc ?_ _)); refine blk_far ?_ NB268_273.out _; (with_reducible repeat (first | refine blk_drewN ?_ _ | refine blk_drew ?_ | refine blk_alloc ?_ _)); refine blk_far ?_ NB268_273.out _; (with_reducible repeat (first | refine blk_drewN ?_ _ | refine blk_drew ?_ | refine blk_alloc ?_ _)); exact BK268.out)) : gb276 ≠ gb268)); have n8_ := Aside0.mk ((by rw [hg]; exact Nat.ne_of_lt (blk_lt (g := gb273) (o := .cells #[.int .i64 t269, .int .i64 t270, .int .i64 t271] 24 (0, 0)) (by (with_reducible repeat (first | refine blk_drewN ?_ _ | refine blk_drew ?_ | refine blk_alloc ?_ _)); refine blk_put (cs := #[.int .i64 t269, .int .i64 t270, .int .i64 0]) ?_ 2 _ rfl; (with_reducible repeat (first | refine blk_drewN ?_ _ | refine blk_drew ?_ | refine blk_alloc ?_ _)); refine blk_put (cs := #[.int .i64 t269, .int .i64 0, .int .i64 0]) ?_ 1 _ rfl; (with_reducible repeat (first | refine blk_drewN ?_ _ | refine blk_drew ?_ | refine blk_alloc ?_ _)); refine blk_put (cs := #[.int .i64 0, .int .i64 0, .int .i64 0]) ?_ 0 _ rfl; (with_reducible repeat (first | refine blk_drewN ?_ _ | refine blk_drew ?_ | refine blk_alloc ?_ _)); exact BK273.out)) : gb273 ≠ gb276)); have n9_ := Aside0.mk ((by rw [hg]; exact Nat.ne_of_gt (blk_lt (g := gb273) (o := .cells #[.int .i64 t269, .int .i64 t270, .int .i64 t271] 24 (0, 0)) (by (with_reducible repeat (first | refine blk_drewN ?_ _ | refine blk_drew ?_ | refine blk_alloc ?_ _)); refine blk_put (cs := #[.int .i64 t269, .int .i64 t270, .int .i64 0]) ?_ 2 _ rfl; (with_reducible repeat (first | refine blk_drewN ?_ _ | refine blk_drew ?_ | refine blk_alloc ?_ _)); refine blk_put (cs := #[.int .i64 t269, .int .i64 0, .int .i64 0]) ?_ 1 _ rfl; (with_reducible repeat (first | refine blk_drewN ?_ _ | refine blk_drew ?_ | refine blk_alloc ?_ _)); refine blk_put (cs := #[.int .i64 0, .int .i64 0, .int .i64 0]) ?_ 0 _ rfl; (with_reducible repeat (first | refine blk_drewN ?_ _ | refine blk_drew ?_ | refine blk_alloc ?_ _)); exact BK273.out)) : gb276 ≠ gb273)); clear BK268; clear BK273; clear HB; have BK268 := n0_; have BK273 := n1_; have HB := n2_; have BK276 := n3_; have GW276 := n4_; have GE276 := n5_; have NB268_276 := n6_; have NB276_268 := n7_; have NB273_276 := n8_; have NB276_273 := n9_; clear n0_ n1_ n2_ n3_ n4_ n5_ n6_ n7_ n8_ n9_; clear hb hbox hg; have hnb14 := NB276_268.out; have hnc14 := NB268_276.out; have hnb15 := NB276_273.out; have hnc15 := NB273_276.out; have hcz16_0 : w13.cell? ⟨gb276, 0, none⟩ = some (.int .i64 0) := (blk_cell BK276.out 0).trans rfl; have hcz16_1 : w13.cell? ⟨gb276, 1, none⟩ = some (.int .i64 0) := (blk_cell BK276.out 1).trans rfl; have hcz16_2 : w13.cell? ⟨gb276, 2, none⟩ = some (.int .i64 0) := (blk_cell BK276.out 2).trans rfl; have hcz16_3 : w13.cell? ⟨gb276, 3, none⟩ = some (.int .i64 0) := (blk_cell BK276.out 3).trans rfl; have hcz16_4 : w13.cell? ⟨gb276, 4, none⟩ = some (.int .i64 0) := (blk_cell BK276.out 4).trans rfl; have hcz16_5 : w13.cell? ⟨gb276, 5, none⟩ = some (.int .i64 0) := (blk_cell BK276.out 5).trans rfl; have hcz16_6 : w13.cell? ⟨gb276, 6, none⟩ = some (.int .i64 0) := (blk_cell BK276.out 6).trans rfl; have hcz16_7 : w13.cell? ⟨gb276, 7, none⟩ = some (.int .i64 0) := (blk_cell BK276.out 7).trans rfl; have hcz16_8 : w13.cell? ⟨gb276, 8, none⟩ = some (.int .i64 0) := (blk_cell BK276.out 8).trans rfl; have hcz16_9 : w13.cell? ⟨gb276, 9, none⟩ = some (.int .i64 0) := (blk_cell BK276.out 9).trans rfl; have hfz16_0 := blk_frozen BK276.out 0; have hfz16_1 := blk_frozen BK276.out 1; have hfz16_2 := blk_frozen BK276.out 2; have hfz16_3 := blk_frozen BK276.out 3; have hfz16_4 := blk_frozen BK276.out 4; have hfz16_5 := blk_frozen BK276.out 5; have hfz16_6 := blk_frozen BK276.out 6; have hfz16_7 := blk_frozen BK276.out 7; have hfz16_8 := blk_frozen BK276.out 8; have hfz16_9 := blk_frozen BK276.out 9))
      go_loopg [12, 14] k (fun kq v12 v14 w' => ∃ (x12_1 : Int) (x14_1 : Int), v12 = .int .i64 x12_1 ∧ v14 = .int .i64 x14_1 ∧ Aside0 (belvederelaw06_RuleDates.l0 kq (wrap64 (Int.tmod (IntKind.u64.wrap (a0)) 2900000)) (wrap64 (Int.tmod (IntKind.u64.wrap (a1)) 60)) x12_1 0 x14_1 3 0 0 0 t264 t265 t266 t269 t270 t271 = some r) ∧ Aside0 (kq ≤ k) ∧ Aside0 (w'.heap[gb268]? = some (.cells #[.int .i64 t264, .int .i64 t265, .int .i64 t266] 24 (0, 0))) ∧ Aside0 (w'.heap[gb273]? = some (.cells #[.int .i64 t269, .int .i64 t270, .int .i64 t271] 24 (0, 0))) ∧ Aside0 (w'.heap[gb276]? = some (.cells #[.int .i64 3, .int .i64 0, .int .i64 0, .int .i64 0, .int .i64 t264, .int .i64 t265, .int .i64 t266, .int .i64 t269, .int .i64 t270, .int .i64 t271] 34 (0, 0))) ∧ Aside0 (Below w.heap.size w w'))
      case atStart => exact ⟨(0), ((-3)), (by first | rfl | (simp; done) | (simp [*]; done) | (simp; unfold wrap64; omega)), (by first | rfl | (simp; done) | (simp [*]; done) | (simp; unfold wrap64; omega)), H', ⟨Nat.le_refl _⟩, ⟨by (with_reducible repeat (first | refine blk_drewN ?_ _ | refine blk_drew ?_ | refine blk_alloc ?_ _)); refine blk_far ?_ NB268_276.out _; (with_reducible repeat (first | refine blk_drewN ?_ _ | refine blk_drew ?_ | refine blk_alloc ?_ _)); refine blk_far ?_ NB268_276.out _; (with_reducible repeat (first | refine blk_drewN ?_ _ | refine blk_drew ?_ | refine blk_alloc ?_ _)); refine blk_far ?_ NB268_276.out _; (with_reducible repeat (first | refine blk_drewN ?_ _ | refine blk_drew ?_ | refine blk_alloc ?_ _)); refine blk_far ?_ NB268_276.out _; (with_reducible repeat (first | refine blk_drewN ?_ _ | refine blk_drew ?_ | refine blk_alloc ?_ _)); refine blk_far ?_ NB268_276.out _; (with_reducible repeat (first | refine blk_drewN ?_ _ | refine blk_drew ?_ | refine blk_alloc ?_ _)); refine blk_far ?_ NB268_276.out _; (with_reducible repeat (first | refine blk_drewN ?_ _ | refine blk_drew ?_ | refine blk_alloc ?_ _)); refine blk_far ?_ NB268_276.out _; (with_reducible repeat (first | refine blk_drewN ?_ _ | refine blk_drew ?_ | refine blk_alloc ?_ _)); refine blk_far ?_ NB268_276.out _; (with_reducible repeat (first | refine blk_drewN ?_ _ | refine blk_drew ?_ | refine blk_alloc ?_ _)); refine blk_far ?_ NB268_276.out _; (with_reducible repeat (first | refine blk_drewN ?_ _ | refine blk_drew ?_ | refine blk_alloc ?_ _)); refine blk_far ?_ NB268_276.out _; (with_reducible repeat (first | refine blk_drewN ?_ _ | refine blk_drew ?_ | refine blk_alloc ?_ _)); exact BK268.out⟩, ⟨by (with_reducible repeat (first | refine blk_drewN ?_ _ | refine blk_drew ?_ | refine blk_alloc ?_ _)); refine blk_far ?_ NB273_276.out _; (with_reducible repeat (first | refine blk_drewN ?_ _ | refine blk_drew ?_ | refine blk_alloc ?_ _)); refine blk_far ?_ NB273_276.out _; (with_reducible repeat (first | refine blk_drewN ?_ _ | refine blk_drew ?_ | refine blk_alloc ?_ _)); refine blk_far ?_ NB273_276.out _; (with_reducible repeat (first | refine blk_drewN ?_ _ | refine blk_drew ?_ | refine blk_alloc ?_ _)); refine blk_far ?_ NB273_276.out _; (with_reducible repeat (first | refine blk_drewN ?_ _ | refine blk_drew ?_ | refine blk_alloc ?_ _)); refine blk_far ?_ NB273_276.out _; (with_reducible repeat (first | refine blk_drewN ?_ _ | refine blk_drew ?_ | refine blk_alloc ?_ _)); refine blk_far ?_ NB273_276.out _; (with_reducible repeat (first | refine blk_drewN ?_ _ | refine blk_drew ?_ | refine blk_alloc ?_ _)); refine blk_far ?_ NB273_276.out _; (with_reducible repeat (first | refine blk_drewN ?_ _ | refine blk_drew ?_ | refine blk_alloc ?_ _)); refine blk_far ?_ NB273_276.out _; (with_reducible repeat (first | refine blk_drewN ?_ _ | refine blk_drew ?_ | refine blk_alloc ?_ _)); refine blk_far ?_ NB273_276.out _; (with_reducible repeat (first | refine blk_drewN ?_ _ | refine blk_drew ?_ | refine blk_alloc ?_ _)); refine blk_far ?_ NB273_276.out _; (with_reducible repeat (first | refine blk_drewN ?_ _ | refine blk_drew ?_ | refine blk_alloc ?_ _)); exact BK273.out⟩, ⟨by (with_reducible repeat (first | refine blk_drewN ?_ _ | refine blk_drew ?_ | refine blk_alloc ?_ _)); refine blk_put (cs := #[.int .i64 3, .int .i64 0, .int .i64 0, .int .i64 0, .int .i64 t264, .int .i64 t265, .int .i64 t266, .int .i64 t269, .int .i64 t270, .int .i64 0]) ?_ 9 _ rfl; (with_reducible repeat (first | refine blk_drewN ?_ _ | refine blk_drew ?_ | refine blk_alloc ?_ _)); refine blk_put (cs := #[.int .i64 3, .int .i64 0, .int .i64 0, .int .i64 0, .int .i64 t264, .int .i64 t265, .int .i64 t266, .int .i64 t269, .int .i64 0, .int .i64 0]) ?_ 8 _ rfl; (with_reducible repeat (first | refine blk_drewN ?_ _ | refine blk_drew ?_ | refine blk_alloc ?_ _)); refine blk_put (cs := #[.int .i64 3, .int .i64 0, .int .i64 0, .int .i64 0, .int .i64 t264, .int .i64 t265, .int .i64 t266, .int .i64 0, .int .i64 0, .int .i64 0]) ?_ 7 _ rfl; (with_reducible repeat (first | refine blk_drewN ?_ _ | refine blk_drew ?_ | refine blk_alloc ?_ _)); refine blk_put (cs := #[.int .i64 3, .int .i64 0, .int .i64 0, .int .i64 0, .int .i64 t264, .int .i64 t265, .int .i64 0, .int .i64 0, .int .i64 0, .int .i64 0]) ?_ 6 _ rfl; (with_reducible repeat (first | refine blk_drewN ?_ _ | refine blk_drew ?_ | refine blk_alloc ?_ _)); refine blk_put (cs := #[.int .i64 3, .int .i64 0, .int .i64 0, .int .i64 0, .int .i64 t264, .int .i64 0, .int .i64 0, .int .i64 0, .int .i64 0, .int .i64 0]) ?_ 5 _ rfl; (with_reducible repeat (first | refine blk_drewN ?_ _ | refine blk_drew ?_ | refine blk_alloc ?_ _)); refine blk_put (cs := #[.int .i64 3, .int .i64 0, .int .i64 0, .int .i64 0, .int .i64 0, .int .i64 0, .int .i64 0, .int .i64 0, .int .i64 0, .int .i64 0]) ?_ 4 _ rfl; (with_reducible repeat (first | refine blk_drewN ?_ _ | refine blk_drew ?_ | refine blk_alloc ?_ _)); refine blk_put (cs := #[.int .i64 3, .int .i64 0, .int .i64 0, .int .i64 0, .int .i64 0, .int .i64 0, .int .i64 0, .int .i64 0, .int .i64 0, .int .i64 0]) ?_ 3 _ rfl; (with_reducible repeat (first | refine blk_drewN ?_ _ | refine blk_drew ?_ | refine blk_alloc ?_ _)); refine blk_put (cs := #[.int .i64 3, .int .i64 0, .int .i64 0, .int .i64 0, .int .i64 0, .int .i64 0, .int .i64 0, .int .i64 0, .int .i64 0, .int .i64 0]) ?_ 2 _ rfl; (with_reducible repeat (first | refine blk_drewN ?_ _ | refine blk_drew ?_ | refine blk_alloc ?_ _)); refine blk_put (cs := #[.int .i64 3, .int .i64 0, .int .i64 0, .int .i64 0, .int .i64 0, .int .i64 0, .int .i64 0, .int .i64 0, .int .i64 0, .int .i64 0]) ?_ 1 _ rfl; (with_reducible repeat (first | refine blk_drewN ?_ _ | refine blk_drew ?_ | refine blk_alloc ?_ _)); refine blk_put (cs := #[.int .i64 0, .int .i64 0, .int .i64 0, .int .i64 0, .int .i64 0, .int .i64 0, .int .i64 0, .int .i64 0, .int .i64 0, .int .i64 0]) ?_ 0 _ rfl; (with_reducible repeat (first | refine blk_drewN ?_ _ | refine blk_drew ?_ | refine blk_alloc ?_ _)); exact BK276.out⟩, ⟨by repeat (first | (with_reducible first | exact HB.out | apply below_alloc | apply pw_below_drewN | apply below_drew1 | refine below_set ?_ GE268.out | refine below_set ?_ GE273.out | refine below_set ?_ GE276.out) | exact HB.out)⟩⟩
      case round =>
        clear H'
        try clear c1
        try clear p2
        try clear q2
        try clear c4
        try clear c5
        try clear p6
        try clear c10
        try clear c14
        try clear c15
        try clear hcz11_0
        try clear hcz11_1
        try clear hcz11_2
        try clear hcz12_0
        try clear hcz12_1
        try clear hcz12_2
        try clear hcz16_0
        try clear hcz16_1
        try clear hcz16_2
        try clear hcz16_3
        try clear hcz16_4
        try clear hcz16_5
        try clear hcz16_6
        try clear hcz16_7
        try clear hcz16_8
        try clear hcz16_9
        try clear hcz7_0
        try clear hcz7_1
        try clear hcz7_2
        try clear hfz11_0
        try clear hfz11_1
        try clear hfz11_2
        try clear hfz12_0
        try clear hfz12_1
        try clear hfz12_2
        try clear hfz16_0
        try clear hfz16_1
        try clear hfz16_2
        try clear hfz16_3
        try clear hfz16_4
        try clear hfz16_5
        try clear hfz16_6
        try clear hfz16_7
        try clear hfz16_8
        try clear hfz16_9
        try clear hfz7_0
        try clear hfz7_1
        try clear hfz7_2
        try clear q274
        try clear q275
        obtain ⟨x12_1, x14_1, rfl, rfl, HA, HK1, BK268, BK273, BK276, HB⟩ := hrel
        cases gk with
        | zero => exact absurd HA.out (by simp [belvederelaw06_RuleDates.l0])
        | succ k1 =>
          have H := HA.out
          clear HA
          simp only [belvederelaw06_RuleDates.l0] at H
          by_cases c17 : x14_1 ≤ (wrap64 ((wrap64 (Int.tmod (IntKind.u64.wrap (a1)) 60)) + 3))
          · rw [if_pos c17] at H
            have c17b0 : decide (x14_1 ≤ (wrap64 ((wrap64 (Int.tmod (IntKind.u64.wrap (a1)) 60)) + 3))) = true := decide_eq_true c17
            clear c17
            replace H := Option.bind_eq_some_iff.mp H
            obtain ⟨⟨t277, t278⟩, A180, H⟩ := H
            replace H : (if t278.isNone = true then (if x14_1 ≥ 0 then (if (t277 != (decide (x14_1 ≤ (wrap64 (Int.tmod (IntKind.u64.wrap (a1)) 60))))) = true then (none) else (if t277 = true then (belvederelaw06_RuleDates.l0 k1 (wrap64 (Int.tmod (IntKind.u64.wrap (a0)) 2900000)) (wrap64 (Int.tmod (IntKind.u64.wrap (a1)) 60)) (wrap64 (x12_1 + 1)) 0 (wrap64 (x14_1 + 1)) 3 0 0 0 t264 t265 t266 t269 t270 t271) else (belvederelaw06_RuleDates.l0 k1 (wrap64 (Int.tmod (IntKind.u64.wrap (a0)) 2900000)) (wrap64 (Int.tmod (IntKind.u64.wrap (a1)) 60)) x12_1 0 (wrap64 (x14_1 + 1)) 3 0 0 0 t264 t265 t266 t269 t270 t271))) else (if (t277 != false) = true then (none) else (if t277 = true then (belvederelaw06_RuleDates.l0 k1 (wrap64 (Int.tmod (IntKind.u64.wrap (a0)) 2900000)) (wrap64 (Int.tmod (IntKind.u64.wrap (a1)) 60)) (wrap64 (x12_1 + 1)) 0 (wrap64 (x14_1 + 1)) 3 0 0 0 t264 t265 t266 t269 t270 t271) else (belvederelaw06_RuleDates.l0 k1 (wrap64 (Int.tmod (IntKind.u64.wrap (a0)) 2900000)) (wrap64 (Int.tmod (IntKind.u64.wrap (a1)) 60)) x12_1 0 (wrap64 (x14_1 + 1)) 3 0 0 0 t264 t265 t266 t269 t270 t271)))) else (none)) = some r := H
            have A18 := Aside0.mk A180
            clear A180
            rcases t278 with _ | q279
            · have H1 : (if x14_1 ≥ 0 then (if (t277 != (decide (x14_1 ≤ (wrap64 (Int.tmod (IntKind.u64.wrap (a1)) 60))))) = true then (none) else (if t277 = true then (belvederelaw06_RuleDates.l0 k1 (wrap64 (Int.tmod (IntKind.u64.wrap (a0)) 2900000)) (wrap64 (Int.tmod (IntKind.u64.wrap (a1)) 60)) (wrap64 (x12_1 + 1)) 0 (wrap64 (x14_1 + 1)) 3 0 0 0 t264 t265 t266 t269 t270 t271) else (belvederelaw06_RuleDates.l0 k1 (wrap64 (Int.tmod (IntKind.u64.wrap (a0)) 2900000)) (wrap64 (Int.tmod (IntKind.u64.wrap (a1)) 60)) x12_1 0 (wrap64 (x14_1 + 1)) 3 0 0 0 t264 t265 t266 t269 t270 t271))) else (if (t277 != false) = true then (none) else (if t277 = true then (belvederelaw06_RuleDates.l0 k1 (wrap64 (Int.tmod (IntKind.u64.wrap (a0)) 2900000)) (wrap64 (Int.tmod (IntKind.u64.wrap (a1)) 60)) (wrap64 (x12_1 + 1)) 0 (wrap64 (x14_1 + 1)) 3 0 0 0 t264 t265 t266 t269 t270 t271) else (belvederelaw06_RuleDates.l0 k1 (wrap64 (Int.tmod (IntKind.u64.wrap (a0)) 2900000)) (wrap64 (Int.tmod (IntKind.u64.wrap (a1)) 60)) x12_1 0 (wrap64 (x14_1 + 1)) 3 0 0 0 t264 t265 t266 t269 t270 t271)))) = some r := by rw [if_pos (show (none : Option Int).isNone = true by rfl)] at H; exact H
              clear H
              have H := H1
              clear H1
              try simp only [errW_none, errW_some]
              by_cases c19 : x14_1 ≥ 0
              · rw [if_pos c19] at H
                have c19b0 : decide (0 ≤ x14_1) = true := decide_eq_true c19
                clear c19
                by_cases c20 : (t277 != (decide (x14_1 ≤ (wrap64 (Int.tmod (IntKind.u64.wrap (a1)) 60))))) = true
                · rw [if_pos c20] at H
                  exact absurd H (by simp)
                · rw [if_neg c20] at H
                  have c20b0 : (t277 != (decide (x14_1 ≤ (wrap64 (Int.tmod (IntKind.u64.wrap (a1)) 60))))) = false := by simpa using c20
                  (try (have c20b1 : decide (t277 = (decide (x14_1 ≤ (wrap64 (Int.tmod (IntKind.u64.wrap (a1)) 60))))) = true := by simpa using c20))
                  (try (have c20b2 : (t277 == (decide (x14_1 ≤ (wrap64 (Int.tmod (IntKind.u64.wrap (a1)) 60))))) = true := by simpa using c20))
                  clear c20
                  by_cases c21 : t277 = true
                  · subst c21
                    have H1 : (belvederelaw06_RuleDates.l0 k1 (wrap64 (Int.tmod (IntKind.u64.wrap (a0)) 2900000)) (wrap64 (Int.tmod (IntKind.u64.wrap (a1)) 60)) (wrap64 (x12_1 + 1)) 0 (wrap64 (x14_1 + 1)) 3 0 0 0 t264 t265 t266 t269 t270 t271) = some r := by rw [if_pos rfl] at H; exact H
                    clear H
                    have H := H1
                    clear H1
                    have H' := Aside0.mk H
                    clear H
                    have hnb22 := NB276_268.out
                    have hnc22 := NB268_276.out
                    have hnb23 := NB276_273.out
                    have hnc23 := NB273_276.out
                    have hcz24_0 : wr.cell? ⟨gb276, 0, none⟩ = some (.int .i64 3) := (blk_cell BK276.out 0).trans rfl
                    have hcz24_1 : wr.cell? ⟨gb276, 1, none⟩ = some (.int .i64 0) := (blk_cell BK276.out 1).trans rfl
                    have hcz24_2 : wr.cell? ⟨gb276, 2, none⟩ = some (.int .i64 0) := (blk_cell BK276.out 2).trans rfl
                    have hcz24_3 : wr.cell? ⟨gb276, 3, none⟩ = some (.int .i64 0) := (blk_cell BK276.out 3).trans rfl
                    have hcz24_4 : wr.cell? ⟨gb276, 4, none⟩ = some (.int .i64 t264) := (blk_cell BK276.out 4).trans rfl
                    have hcz24_5 : wr.cell? ⟨gb276, 5, none⟩ = some (.int .i64 t265) := (blk_cell BK276.out 5).trans rfl
                    have hcz24_6 : wr.cell? ⟨gb276, 6, none⟩ = some (.int .i64 t266) := (blk_cell BK276.out 6).trans rfl
                    have hcz24_7 : wr.cell? ⟨gb276, 7, none⟩ = some (.int .i64 t269) := (blk_cell BK276.out 7).trans rfl
                    have hcz24_8 : wr.cell? ⟨gb276, 8, none⟩ = some (.int .i64 t270) := (blk_cell BK276.out 8).trans rfl
                    have hcz24_9 : wr.cell? ⟨gb276, 9, none⟩ = some (.int .i64 t271) := (blk_cell BK276.out 9).trans rfl
                    have hfz24_0 := blk_frozen BK276.out 0
                    have hfz24_1 := blk_frozen BK276.out 1
                    have hfz24_2 := blk_frozen BK276.out 2
                    have hfz24_3 := blk_frozen BK276.out 3
                    have hfz24_4 := blk_frozen BK276.out 4
                    have hfz24_5 := blk_frozen BK276.out 5
                    have hfz24_6 := blk_frozen BK276.out 6
                    have hfz24_7 := blk_frozen BK276.out 7
                    have hfz24_8 := blk_frozen BK276.out 8
                    have hfz24_9 := blk_frozen BK276.out 9
                    go_wp2_with (first | ((with_reducible refine gate_callee (f := 7) rfl ?_); refine goesL_ (some 61) rfl rfl Tryd.func7 (by kernel_rfl) rfl #[.agg #[.int .i64 3, .int .i64 0, .int .i64 0, .int .i64 0, .int .i64 t264, .int .i64 t265, .int .i64 t266, .int .i64 t269, .int .i64 t270, .int .i64 t271], .int .i64 (wrap64 ((wrap64 (Int.tmod (IntKind.u64.wrap (a0)) 2900000)) + x14_1))] rfl (by (try simp only [List.map_toArray, List.map_cons, List.map_nil]); first | done | rfl | (simp only [List.length_drop, List.length_take]; rfl)) ?_; (with_reducible refine (rule_Match.calls k1 3 0 0 0 t264 t265 t266 t269 t270 t271 (wrap64 ((wrap64 (Int.tmod (IntKind.u64.wrap (a0)) 2900000)) + x14_1)) true none _ A18.out).mono ?_); rintro e w25 ⟨rfl, hb⟩; refine ⟨_, rfl, ?_⟩; have n0_ := Aside0.mk (blk_below (g := gb268) (o := .cells #[.int .i64 t264, .int .i64 t265, .int .i64 t266] 24 (0, 0)) (by (with_reducible repeat (first | refine blk_drewN ?_ _ | refine blk_drew ?_ | refine blk_alloc ?_ _)); exact BK268.out) hb); have n1_ := Aside0.mk (blk_below (g := gb273) (o := .cells #[.int .i64 t269, .int .i64 t270, .int .i64 t271] 24 (0, 0)) (by (with_reducible repeat (first | refine blk_drewN ?_ _ | refine blk_drew ?_ | refine blk_alloc ?_ _)); exact BK273.out) hb); have n2_ := Aside0.mk (blk_below (g := gb276) (o := .cells #[.int .i64 3, .int .i64 0, .int .i64 0, .int .i64 0, .int .i64 t264, .int .i64 t265, .int .i64 t266, .int .i64 t269, .int .i64 t270, .int .i64 t271] 34 (0, 0)) (by (with_reducible repeat (first | refine blk_drewN ?_ _ | refine blk_drew ?_ | refine blk_alloc ?_ _)); exact BK276.out) hb); have n3_ := Aside0.mk (below_step (by repeat (first | (with_reducible first | exact HB.out | apply below_alloc | apply pw_below_drewN | apply below_drew1 | refine below_set ?_ GE268.out | refine below_set ?_ GE273.out | refine below_set ?_ GE276.out) | exact HB.out)) hb); clear BK268; clear BK273; clear BK276; clear HB; have BK268 := n0_; have BK273 := n1_; have BK276 := n2_; have HB := n3_; clear n0_ n1_ n2_ n3_; (try clear hb); (try clear hb2); (try clear hk); (try clear hi); (try simp only [errW_none, errW_some])))
                    go_roundg k1
                    case measure => have := HK1.out; omega
                    case rel => exact ⟨(wrap64 (x12_1 + 1)), (wrap64 (x14_1 + 1)), (by first | rfl | (simp; done) | (simp [*]; done) | (simp; unfold wrap64; omega)), (by first | rfl | (simp; done) | (simp [*]; done) | (simp; unfold wrap64; omega)), H', ⟨by have := HK1.out; omega⟩, ⟨by (with_reducible repeat (first | refine blk_drewN ?_ _ | refine blk_drew ?_ | refine blk_alloc ?_ _)); exact BK268.out⟩, ⟨by (with_reducible repeat (first | refine blk_drewN ?_ _ | refine blk_drew ?_ | refine blk_alloc ?_ _)); exact BK273.out⟩, ⟨by (with_reducible repeat (first | refine blk_drewN ?_ _ | refine blk_drew ?_ | refine blk_alloc ?_ _)); exact BK276.out⟩, ⟨by repeat (first | (with_reducible first | exact HB.out | apply below_alloc | apply pw_below_drewN | apply below_drew1 | refine below_set ?_ GE268.out | refine below_set ?_ GE273.out | refine below_set ?_ GE276.out) | exact HB.out)⟩⟩
                  · replace c21 := Bool.eq_false_iff.mpr c21
                    subst c21
                    have H1 : (belvederelaw06_RuleDates.l0 k1 (wrap64 (Int.tmod (IntKind.u64.wrap (a0)) 2900000)) (wrap64 (Int.tmod (IntKind.u64.wrap (a1)) 60)) x12_1 0 (wrap64 (x14_1 + 1)) 3 0 0 0 t264 t265 t266 t269 t270 t271) = some r := by rw [if_neg (show ¬ (false = true) by decide)] at H; exact H
                    clear H
                    have H := H1
                    clear H1
                    have H' := Aside0.mk H
                    clear H
                    have hnb26 := NB276_268.out
                    have hnc26 := NB268_276.out
                    have hnb27 := NB276_273.out
                    have hnc27 := NB273_276.out
                    have hcz28_0 : wr.cell? ⟨gb276, 0, none⟩ = some (.int .i64 3) := (blk_cell BK276.out 0).trans rfl
                    have hcz28_1 : wr.cell? ⟨gb276, 1, none⟩ = some (.int .i64 0) := (blk_cell BK276.out 1).trans rfl
                    have hcz28_2 : wr.cell? ⟨gb276, 2, none⟩ = some (.int .i64 0) := (blk_cell BK276.out 2).trans rfl
                    have hcz28_3 : wr.cell? ⟨gb276, 3, none⟩ = some (.int .i64 0) := (blk_cell BK276.out 3).trans rfl
                    have hcz28_4 : wr.cell? ⟨gb276, 4, none⟩ = some (.int .i64 t264) := (blk_cell BK276.out 4).trans rfl
                    have hcz28_5 : wr.cell? ⟨gb276, 5, none⟩ = some (.int .i64 t265) := (blk_cell BK276.out 5).trans rfl
                    have hcz28_6 : wr.cell? ⟨gb276, 6, none⟩ = some (.int .i64 t266) := (blk_cell BK276.out 6).trans rfl
                    have hcz28_7 : wr.cell? ⟨gb276, 7, none⟩ = some (.int .i64 t269) := (blk_cell BK276.out 7).trans rfl
                    have hcz28_8 : wr.cell? ⟨gb276, 8, none⟩ = some (.int .i64 t270) := (blk_cell BK276.out 8).trans rfl
                    have hcz28_9 : wr.cell? ⟨gb276, 9, none⟩ = some (.int .i64 t271) := (blk_cell BK276.out 9).trans rfl
                    have hfz28_0 := blk_frozen BK276.out 0
                    have hfz28_1 := blk_frozen BK276.out 1
                    have hfz28_2 := blk_frozen BK276.out 2
                    have hfz28_3 := blk_frozen BK276.out 3
                    have hfz28_4 := blk_frozen BK276.out 4
                    have hfz28_5 := blk_frozen BK276.out 5
                    have hfz28_6 := blk_frozen BK276.out 6
                    have hfz28_7 := blk_frozen BK276.out 7
                    have hfz28_8 := blk_frozen BK276.out 8
                    have hfz28_9 := blk_frozen BK276.out 9
                    go_wp2_with (first | ((with_reducible refine gate_callee (f := 7) rfl ?_); refine goesL_ (some 61) rfl rfl Tryd.func7 (by kernel_rfl) rfl #[.agg #[.int .i64 3, .int .i64 0, .int .i64 0, .int .i64 0, .int .i64 t264, .int .i64 t265, .int .i64 t266, .int .i64 t269, .int .i64 t270, .int .i64 t271], .int .i64 (wrap64 ((wrap64 (Int.tmod (IntKind.u64.wrap (a0)) 2900000)) + x14_1))] rfl (by (try simp only [List.map_toArray, List.map_cons, List.map_nil]); first | done | rfl | (simp only [List.length_drop, List.length_take]; rfl)) ?_; (with_reducible refine (rule_Match.calls k1 3 0 0 0 t264 t265 t266 t269 t270 t271 (wrap64 ((wrap64 (Int.tmod (IntKind.u64.wrap (a0)) 2900000)) + x14_1)) false none _ A18.out).mono ?_); rintro e w29 ⟨rfl, hb⟩; refine ⟨_, rfl, ?_⟩; have n0_ := Aside0.mk (blk_below (g := gb268) (o := .cells #[.int .i64 t264, .int .i64 t265, .int .i64 t266] 24 (0, 0)) (by (with_reducible repeat (first | refine blk_drewN ?_ _ | refine blk_drew ?_ | refine blk_alloc ?_ _)); exact BK268.out) hb); have n1_ := Aside0.mk (blk_below (g := gb273) (o := .cells #[.int .i64 t269, .int .i64 t270, .int .i64 t271] 24 (0, 0)) (by (with_reducible repeat (first | refine blk_drewN ?_ _ | refine blk_drew ?_ | refine blk_alloc ?_ _)); exact BK273.out) hb); have n2_ := Aside0.mk (blk_below (g := gb276) (o := .cells #[.int .i64 3, .int .i64 0, .int .i64 0, .int .i64 0, .int .i64 t264, .int .i64 t265, .int .i64 t266, .int .i64 t269, .int .i64 t270, .int .i64 t271] 34 (0, 0)) (by (with_reducible repeat (first | refine blk_drewN ?_ _ | refine blk_drew ?_ | refine blk_alloc ?_ _)); exact BK276.out) hb); have n3_ := Aside0.mk (below_step (by repeat (first | (with_reducible first | exact HB.out | apply below_alloc | apply pw_below_drewN | apply below_drew1 | refine below_set ?_ GE268.out | refine below_set ?_ GE273.out | refine below_set ?_ GE276.out) | exact HB.out)) hb); clear BK268; clear BK273; clear BK276; clear HB; have BK268 := n0_; have BK273 := n1_; have BK276 := n2_; have HB := n3_; clear n0_ n1_ n2_ n3_; (try clear hb); (try clear hb2); (try clear hk); (try clear hi); (try simp only [errW_none, errW_some])))
                    go_roundg k1
                    case measure => have := HK1.out; omega
                    case rel => exact ⟨(x12_1), (wrap64 (x14_1 + 1)), (by first | rfl | (simp; done) | (simp [*]; done) | (simp; unfold wrap64; omega)), (by first | rfl | (simp; done) | (simp [*]; done) | (simp; unfold wrap64; omega)), H', ⟨by have := HK1.out; omega⟩, ⟨by (with_reducible repeat (first | refine blk_drewN ?_ _ | refine blk_drew ?_ | refine blk_alloc ?_ _)); exact BK268.out⟩, ⟨by (with_reducible repeat (first | refine blk_drewN ?_ _ | refine blk_drew ?_ | refine blk_alloc ?_ _)); exact BK273.out⟩, ⟨by (with_reducible repeat (first | refine blk_drewN ?_ _ | refine blk_drew ?_ | refine blk_alloc ?_ _)); exact BK276.out⟩, ⟨by repeat (first | (with_reducible first | exact HB.out | apply below_alloc | apply pw_below_drewN | apply below_drew1 | refine below_set ?_ GE268.out | refine below_set ?_ GE273.out | refine below_set ?_ GE276.out) | exact HB.out)⟩⟩
              · rw [if_neg c19] at H
                have c19b0 : decide (0 ≤ x14_1) = false := decide_eq_false c19
                clear c19
                by_cases c30 : (t277 != false) = true
                · rw [if_pos c30] at H
                  exact absurd H (by simp)
                · rw [if_neg c30] at H
                  have c30b0 : (t277 != false) = false := by simpa using c30
                  (try (have c30b1 : decide (t277 = false) = true := by simpa using c30))
                  (try (have c30b2 : (t277 == false) = true := by simpa using c30))
                  clear c30
                  by_cases c31 : t277 = true
                  · subst c31
                    have H1 : (belvederelaw06_RuleDates.l0 k1 (wrap64 (Int.tmod (IntKind.u64.wrap (a0)) 2900000)) (wrap64 (Int.tmod (IntKind.u64.wrap (a1)) 60)) (wrap64 (x12_1 + 1)) 0 (wrap64 (x14_1 + 1)) 3 0 0 0 t264 t265 t266 t269 t270 t271) = some r := by rw [if_pos rfl] at H; exact H
                    clear H
                    have H := H1
                    clear H1
                    have H' := Aside0.mk H
                    clear H
                    have hnb32 := NB276_268.out
                    have hnc32 := NB268_276.out
                    have hnb33 := NB276_273.out
                    have hnc33 := NB273_276.out
                    have hcz34_0 : wr.cell? ⟨gb276, 0, none⟩ = some (.int .i64 3) := (blk_cell BK276.out 0).trans rfl
                    have hcz34_1 : wr.cell? ⟨gb276, 1, none⟩ = some (.int .i64 0) := (blk_cell BK276.out 1).trans rfl
                    have hcz34_2 : wr.cell? ⟨gb276, 2, none⟩ = some (.int .i64 0) := (blk_cell BK276.out 2).trans rfl
                    have hcz34_3 : wr.cell? ⟨gb276, 3, none⟩ = some (.int .i64 0) := (blk_cell BK276.out 3).trans rfl
                    have hcz34_4 : wr.cell? ⟨gb276, 4, none⟩ = some (.int .i64 t264) := (blk_cell BK276.out 4).trans rfl
                    have hcz34_5 : wr.cell? ⟨gb276, 5, none⟩ = some (.int .i64 t265) := (blk_cell BK276.out 5).trans rfl
                    have hcz34_6 : wr.cell? ⟨gb276, 6, none⟩ = some (.int .i64 t266) := (blk_cell BK276.out 6).trans rfl
                    have hcz34_7 : wr.cell? ⟨gb276, 7, none⟩ = some (.int .i64 t269) := (blk_cell BK276.out 7).trans rfl
                    have hcz34_8 : wr.cell? ⟨gb276, 8, none⟩ = some (.int .i64 t270) := (blk_cell BK276.out 8).trans rfl
                    have hcz34_9 : wr.cell? ⟨gb276, 9, none⟩ = some (.int .i64 t271) := (blk_cell BK276.out 9).trans rfl
                    have hfz34_0 := blk_frozen BK276.out 0
                    have hfz34_1 := blk_frozen BK276.out 1
                    have hfz34_2 := blk_frozen BK276.out 2
                    have hfz34_3 := blk_frozen BK276.out 3
                    have hfz34_4 := blk_frozen BK276.out 4
                    have hfz34_5 := blk_frozen BK276.out 5
                    have hfz34_6 := blk_frozen BK276.out 6
                    have hfz34_7 := blk_frozen BK276.out 7
                    have hfz34_8 := blk_frozen BK276.out 8
                    have hfz34_9 := blk_frozen BK276.out 9
                    go_wp2_with (first | ((with_reducible refine gate_callee (f := 7) rfl ?_); refine goesL_ (some 61) rfl rfl Tryd.func7 (by kernel_rfl) rfl #[.agg #[.int .i64 3, .int .i64 0, .int .i64 0, .int .i64 0, .int .i64 t264, .int .i64 t265, .int .i64 t266, .int .i64 t269, .int .i64 t270, .int .i64 t271], .int .i64 (wrap64 ((wrap64 (Int.tmod (IntKind.u64.wrap (a0)) 2900000)) + x14_1))] rfl (by (try simp only [List.map_toArray, List.map_cons, List.map_nil]); first | done | rfl | (simp only [List.length_drop, List.length_take]; rfl)) ?_; (with_reducible refine (rule_Match.calls k1 3 0 0 0 t264 t265 t266 t269 t270 t271 (wrap64 ((wrap64 (Int.tmod (IntKind.u64.wrap (a0)) 2900000)) + x14_1)) true none _ A18.out).mono ?_); rintro e w35 ⟨rfl, hb⟩; refine ⟨_, rfl, ?_⟩; have n0_ := Aside0.mk (blk_below (g := gb268) (o := .cells #[.int .i64 t264, .int .i64 t265, .int .i64 t266] 24 (0, 0)) (by (with_reducible repeat (first | refine blk_drewN ?_ _ | refine blk_drew ?_ | refine blk_alloc ?_ _)); exact BK268.out) hb); have n1_ := Aside0.mk (blk_below (g := gb273) (o := .cells #[.int .i64 t269, .int .i64 t270, .int .i64 t271] 24 (0, 0)) (by (with_reducible repeat (first | refine blk_drewN ?_ _ | refine blk_drew ?_ | refine blk_alloc ?_ _)); exact BK273.out) hb); have n2_ := Aside0.mk (blk_below (g := gb276) (o := .cells #[.int .i64 3, .int .i64 0, .int .i64 0, .int .i64 0, .int .i64 t264, .int .i64 t265, .int .i64 t266, .int .i64 t269, .int .i64 t270, .int .i64 t271] 34 (0, 0)) (by (with_reducible repeat (first | refine blk_drewN ?_ _ | refine blk_drew ?_ | refine blk_alloc ?_ _)); exact BK276.out) hb); have n3_ := Aside0.mk (below_step (by repeat (first | (with_reducible first | exact HB.out | apply below_alloc | apply pw_below_drewN | apply below_drew1 | refine below_set ?_ GE268.out | refine below_set ?_ GE273.out | refine below_set ?_ GE276.out) | exact HB.out)) hb); clear BK268; clear BK273; clear BK276; clear HB; have BK268 := n0_; have BK273 := n1_; have BK276 := n2_; have HB := n3_; clear n0_ n1_ n2_ n3_; (try clear hb); (try clear hb2); (try clear hk); (try clear hi); (try simp only [errW_none, errW_some])))
                    go_roundg k1
                    case measure => have := HK1.out; omega
                    case rel => exact ⟨(wrap64 (x12_1 + 1)), (wrap64 (x14_1 + 1)), (by first | rfl | (simp; done) | (simp [*]; done) | (simp; unfold wrap64; omega)), (by first | rfl | (simp; done) | (simp [*]; done) | (simp; unfold wrap64; omega)), H', ⟨by have := HK1.out; omega⟩, ⟨by (with_reducible repeat (first | refine blk_drewN ?_ _ | refine blk_drew ?_ | refine blk_alloc ?_ _)); exact BK268.out⟩, ⟨by (with_reducible repeat (first | refine blk_drewN ?_ _ | refine blk_drew ?_ | refine blk_alloc ?_ _)); exact BK273.out⟩, ⟨by (with_reducible repeat (first | refine blk_drewN ?_ _ | refine blk_drew ?_ | refine blk_alloc ?_ _)); exact BK276.out⟩, ⟨by repeat (first | (with_reducible first | exact HB.out | apply below_alloc | apply pw_below_drewN | apply below_drew1 | refine below_set ?_ GE268.out | refine below_set ?_ GE273.out | refine below_set ?_ GE276.out) | exact HB.out)⟩⟩
                  · replace c31 := Bool.eq_false_iff.mpr c31
                    subst c31
                    have H1 : (belvederelaw06_RuleDates.l0 k1 (wrap64 (Int.tmod (IntKind.u64.wrap (a0)) 2900000)) (wrap64 (Int.tmod (IntKind.u64.wrap (a1)) 60)) x12_1 0 (wrap64 (x14_1 + 1)) 3 0 0 0 t264 t265 t266 t269 t270 t271) = some r := by rw [if_neg (show ¬ (false = true) by decide)] at H; exact H
                    clear H
                    have H := H1
                    clear H1
                    have H' := Aside0.mk H
                    clear H
                    have hnb36 := NB276_268.out
                    have hnc36 := NB268_276.out
                    have hnb37 := NB276_273.out
                    have hnc37 := NB273_276.out
                    have hcz38_0 : wr.cell? ⟨gb276, 0, none⟩ = some (.int .i64 3) := (blk_cell BK276.out 0).trans rfl
                    have hcz38_1 : wr.cell? ⟨gb276, 1, none⟩ = some (.int .i64 0) := (blk_cell BK276.out 1).trans rfl
                    have hcz38_2 : wr.cell? ⟨gb276, 2, none⟩ = some (.int .i64 0) := (blk_cell BK276.out 2).trans rfl
                    have hcz38_3 : wr.cell? ⟨gb276, 3, none⟩ = some (.int .i64 0) := (blk_cell BK276.out 3).trans rfl
                    have hcz38_4 : wr.cell? ⟨gb276, 4, none⟩ = some (.int .i64 t264) := (blk_cell BK276.out 4).trans rfl
                    have hcz38_5 : wr.cell? ⟨gb276, 5, none⟩ = some (.int .i64 t265) := (blk_cell BK276.out 5).trans rfl
                    have hcz38_6 : wr.cell? ⟨gb276, 6, none⟩ = some (.int .i64 t266) := (blk_cell BK276.out 6).trans rfl
                    have hcz38_7 : wr.cell? ⟨gb276, 7, none⟩ = some (.int .i64 t269) := (blk_cell BK276.out 7).trans rfl
                    have hcz38_8 : wr.cell? ⟨gb276, 8, none⟩ = some (.int .i64 t270) := (blk_cell BK276.out 8).trans rfl
                    have hcz38_9 : wr.cell? ⟨gb276, 9, none⟩ = some (.int .i64 t271) := (blk_cell BK276.out 9).trans rfl
                    have hfz38_0 := blk_frozen BK276.out 0
                    have hfz38_1 := blk_frozen BK276.out 1
                    have hfz38_2 := blk_frozen BK276.out 2
                    have hfz38_3 := blk_frozen BK276.out 3
                    have hfz38_4 := blk_frozen BK276.out 4
                    have hfz38_5 := blk_frozen BK276.out 5
                    have hfz38_6 := blk_frozen BK276.out 6
                    have hfz38_7 := blk_frozen BK276.out 7
                    have hfz38_8 := blk_frozen BK276.out 8
                    have hfz38_9 := blk_frozen BK276.out 9
                    go_wp2_with (first | ((with_reducible refine gate_callee (f := 7) rfl ?_); refine goesL_ (some 61) rfl rfl Tryd.func7 (by kernel_rfl) rfl #[.agg #[.int .i64 3, .int .i64 0, .int .i64 0, .int .i64 0, .int .i64 t264, .int .i64 t265, .int .i64 t266, .int .i64 t269, .int .i64 t270, .int .i64 t271], .int .i64 (wrap64 ((wrap64 (Int.tmod (IntKind.u64.wrap (a0)) 2900000)) + x14_1))] rfl (by (try simp only [List.map_toArray, List.map_cons, List.map_nil]); first | done | rfl | (simp only [List.length_drop, List.length_take]; rfl)) ?_; (with_reducible refine (rule_Match.calls k1 3 0 0 0 t264 t265 t266 t269 t270 t271 (wrap64 ((wrap64 (Int.tmod (IntKind.u64.wrap (a0)) 2900000)) + x14_1)) false none _ A18.out).mono ?_); rintro e w39 ⟨rfl, hb⟩; refine ⟨_, rfl, ?_⟩; have n0_ := Aside0.mk (blk_below (g := gb268) (o := .cells #[.int .i64 t264, .int .i64 t265, .int .i64 t266] 24 (0, 0)) (by (with_reducible repeat (first | refine blk_drewN ?_ _ | refine blk_drew ?_ | refine blk_alloc ?_ _)); exact BK268.out) hb); have n1_ := Aside0.mk (blk_below (g := gb273) (o := .cells #[.int .i64 t269, .int .i64 t270, .int .i64 t271] 24 (0, 0)) (by (with_reducible repeat (first | refine blk_drewN ?_ _ | refine blk_drew ?_ | refine blk_alloc ?_ _)); exact BK273.out) hb); have n2_ := Aside0.mk (blk_below (g := gb276) (o := .cells #[.int .i64 3, .int .i64 0, .int .i64 0, .int .i64 0, .int .i64 t264, .int .i64 t265, .int .i64 t266, .int .i64 t269, .int .i64 t270, .int .i64 t271] 34 (0, 0)) (by (with_reducible repeat (first | refine blk_drewN ?_ _ | refine blk_drew ?_ | refine blk_alloc ?_ _)); exact BK276.out) hb); have n3_ := Aside0.mk (below_step (by repeat (first | (with_reducible first | exact HB.out | apply below_alloc | apply pw_below_drewN | apply below_drew1 | refine below_set ?_ GE268.out | refine below_set ?_ GE273.out | refine below_set ?_ GE276.out) | exact HB.out)) hb); clear BK268; clear BK273; clear BK276; clear HB; have BK268 := n0_; have BK273 := n1_; have BK276 := n2_; have HB := n3_; clear n0_ n1_ n2_ n3_; (try clear hb); (try clear hb2); (try clear hk); (try clear hi); (try simp only [errW_none, errW_some])))
                    go_roundg k1
                    case measure => have := HK1.out; omega
                    case rel => exact ⟨(x12_1), (wrap64 (x14_1 + 1)), (by first | rfl | (simp; done) | (simp [*]; done) | (simp; unfold wrap64; omega)), (by first | rfl | (simp; done) | (simp [*]; done) | (simp; unfold wrap64; omega)), H', ⟨by have := HK1.out; omega⟩, ⟨by (with_reducible repeat (first | refine blk_drewN ?_ _ | refine blk_drew ?_ | refine blk_alloc ?_ _)); exact BK268.out⟩, ⟨by (with_reducible repeat (first | refine blk_drewN ?_ _ | refine blk_drew ?_ | refine blk_alloc ?_ _)); exact BK273.out⟩, ⟨by (with_reducible repeat (first | refine blk_drewN ?_ _ | refine blk_drew ?_ | refine blk_alloc ?_ _)); exact BK276.out⟩, ⟨by repeat (first | (with_reducible first | exact HB.out | apply below_alloc | apply pw_below_drewN | apply below_drew1 | refine below_set ?_ GE268.out | refine below_set ?_ GE273.out | refine below_set ?_ GE276.out) | exact HB.out)⟩⟩
            · have H1 : (none) = some r := by rw [if_neg (show ¬ (some q279).isNone = true by simp)] at H; exact H
              clear H
              have H := H1
              clear H1
              try simp only [errW_none, errW_some]
              exact absurd H (by simp)
          · rw [if_neg c17] at H
            have c17b0 : decide (x14_1 ≤ (wrap64 ((wrap64 (Int.tmod (IntKind.u64.wrap (a1)) 60)) + 3))) = false := decide_eq_false c17
            clear c17
            have H' := Aside0.mk H
            clear H
            go_wp2
            go_loopg [13, 17] k1 (fun kq v13 v17 w' => ∃ (x13_2 : Int) (x17_2 : Int), v13 = .int .i64 x13_2 ∧ v17 = .int .i64 x17_2 ∧ Aside0 (belvederelaw06_RuleDates.l1 kq (wrap64 (Int.tmod (IntKind.u64.wrap (a0)) 2900000)) (wrap64 (Int.tmod (IntKind.u64.wrap (a1)) 60)) x12_1 x13_2 x17_2 = some r) ∧ Aside0 (kq ≤ k1) ∧ Aside0 (w'.heap[gb268]? = some (.cells #[.int .i64 t264, .int .i64 t265, .int .i64 t266] 24 (0, 0))) ∧ Aside0 (w'.heap[gb273]? = some (.cells #[.int .i64 t269, .int .i64 t270, .int .i64 t271] 24 (0, 0))) ∧ Aside0 (w'.heap[gb276]? = some (.cells #[.int .i64 3, .int .i64 0, .int .i64 0, .int .i64 0, .int .i64 t264, .int .i64 t265, .int .i64 t266, .int .i64 t269, .int .i64 t270, .int .i64 t271] 34 (0, 0))) ∧ Aside0 (Below w.heap.size w w'))
            case atStart => exact ⟨(0), (0), (by first | rfl | (simp; done) | (simp [*]; done) | (simp; unfold wrap64; omega)), (by first | rfl | (simp; done) | (simp [*]; done) | (simp; unfold wrap64; omega)), H', ⟨Nat.le_refl _⟩, ⟨by (with_reducible repeat (first | refine blk_drewN ?_ _ | refine blk_drew ?_ | refine blk_alloc ?_ _)); exact BK268.out⟩, ⟨by (with_reducible repeat (first | refine blk_drewN ?_ _ | refine blk_drew ?_ | refine blk_alloc ?_ _)); exact BK273.out⟩, ⟨by (with_reducible repeat (first | refine blk_drewN ?_ _ | refine blk_drew ?_ | refine blk_alloc ?_ _)); exact BK276.out⟩, ⟨by repeat (first | (with_reducible first | exact HB.out | apply below_alloc | apply pw_below_drewN | apply below_drew1 | refine below_set ?_ GE268.out | refine below_set ?_ GE273.out | refine below_set ?_ GE276.out) | exact HB.out)⟩⟩
            case round =>
              clear H'
              try clear c1
              try clear c2
              try clear p2
              try clear q2
              try clear c3
              try clear c4
              try clear c5
              try clear p6
              try clear c7
              try clear c10
              try clear c14
              try clear c15
              try clear c17
              try clear c17b0
              try clear c19
              try clear c19b0
              try clear c20
              try clear c20b0
              try clear c20b1
              try clear c20b2
              try clear c21
              try clear c22
              try clear c23
              try clear c26
              try clear c27
              try clear q27
              try clear c30
              try clear c30b0
              try clear c30b1
              try clear c30b2
              try clear c31
              try clear c32
              try clear c33
              try clear c36
              try clear c37
              try clear hcz11_0
              try clear hcz11_1
              try clear hcz11_2
              try clear hcz12_0
              try clear hcz12_1
              try clear hcz12_2
              try clear hcz16_0
              try clear hcz16_1
              try clear hcz16_2
              try clear hcz16_3
              try clear hcz16_4
              try clear hcz16_5
              try clear hcz16_6
              try clear hcz16_7
              try clear hcz16_8
              try clear hcz16_9
              try clear hcz24_0
              try clear hcz24_1
              try clear hcz24_2
              try clear hcz24_3
              try clear hcz24_4
              try clear hcz24_5
              try clear hcz24_6
              try clear hcz24_7
              try clear hcz24_8
              try clear hcz24_9
              try clear hcz28_0
              try clear hcz28_1
              try clear hcz28_2
              try clear hcz28_3
              try clear hcz28_4
              try clear hcz28_5
              try clear hcz28_6
              try clear hcz28_7
              try clear hcz28_8
              try clear hcz28_9
              try clear hcz34_0
              try clear hcz34_1
              try clear hcz34_2
              try clear hcz34_3
              try clear hcz34_4
              try clear hcz34_5
              try clear hcz34_6
              try clear hcz34_7
              try clear hcz34_8
              try clear hcz34_9
              try clear hcz38_0
              try clear hcz38_1
              try clear hcz38_2
              try clear hcz38_3
              try clear hcz38_4
              try clear hcz38_5
              try clear hcz38_6
              try clear hcz38_7
              try clear hcz38_8
              try clear hcz38_9
              try clear hcz7_0
              try clear hcz7_1
              try clear hcz7_2
              try clear hfz11_0
              try clear hfz11_1
              try clear hfz11_2
              try clear hfz12_0
              try clear hfz12_1
              try clear hfz12_2
              try clear hfz16_0
              try clear hfz16_1
              try clear hfz16_2
              try clear hfz16_3
              try clear hfz16_4
              try clear hfz16_5
              try clear hfz16_6
              try clear hfz16_7
              try clear hfz16_8
              try clear hfz16_9
              try clear hfz24_0
              try clear hfz24_1
              try clear hfz24_2
              try clear hfz24_3
              try clear hfz24_4
              try clear hfz24_5
              try clear hfz24_6
              try clear hfz24_7
              try clear hfz24_8
              try clear hfz24_9
              try clear hfz28_0
              try clear hfz28_1
              try clear hfz28_2
              try clear hfz28_3
              try clear hfz28_4
              try clear hfz28_5
              try clear hfz28_6
              try clear hfz28_7
              try clear hfz28_8
              try clear hfz28_9
              try clear hfz34_0
              try clear hfz34_1
              try clear hfz34_2
              try clear hfz34_3
              try clear hfz34_4
              try clear hfz34_5
              try clear hfz34_6
              try clear hfz34_7
              try clear hfz34_8
              try clear hfz34_9
              try clear hfz38_0
              try clear hfz38_1
              try clear hfz38_2
              try clear hfz38_3
              try clear hfz38_4
              try clear hfz38_5
              try clear hfz38_6
              try clear hfz38_7
              try clear hfz38_8
              try clear hfz38_9
              try clear hfz7_0
              try clear hfz7_1
              try clear hfz7_2
              try clear p2
              try clear p6
              try clear q2
              try clear q274
              try clear q275
              try clear q279
              obtain ⟨x13_2, x17_2, rfl, rfl, HA, HK2, BK268, BK273, BK276, HB⟩ := hrel
              cases gk with
              | zero => exact absurd HA.out (by simp [belvederelaw06_RuleDates.l1])
              | succ k2 =>
                have H := HA.out
                clear HA
                simp only [belvederelaw06_RuleDates.l1] at H
                by_cases c40 : x17_2 < 7
                · rw [if_pos c40] at H
                  have c40b0 : decide (x17_2 < 7) = true := decide_eq_true c40
                  clear c40
                  have H' := Aside0.mk H
                  clear H
                  go_wp2
                  go_loopg [13, 18] k2 (fun kq v13 v18 w' => ∃ (x13_3 : Int) (x18_3 : Int), v13 = .int .i64 x13_3 ∧ v18 = .int .i64 x18_3 ∧ Aside0 (belvederelaw06_RuleDates.l2 kq (wrap64 (Int.tmod (IntKind.u64.wrap (a0)) 2900000)) (wrap64 (Int.tmod (IntKind.u64.wrap (a1)) 60)) x12_1 x13_3 x17_2 x18_3 = some r) ∧ Aside0 (kq ≤ k2) ∧ Aside0 (w'.heap[gb268]? = some (.cells #[.int .i64 t264, .int .i64 t265, .int .i64 t266] 24 (0, 0))) ∧ Aside0 (w'.heap[gb273]? = some (.cells #[.int .i64 t269, .int .i64 t270, .int .i64 t271] 24 (0, 0))) ∧ Aside0 (w'.heap[gb276]? = some (.cells #[.int .i64 3, .int .i64 0, .int .i64 0, .int .i64 0, .int .i64 t264, .int .i64 t265, .int .i64 t266, .int .i64 t269, .int .i64 t270, .int .i64 t271] 34 (0, 0))) ∧ Aside0 (Below w.heap.size w w'))
                  case atStart => exact ⟨(x13_2), (0), (by first | rfl | (simp; done) | (simp [*]; done) | (simp; unfold wrap64; omega)), (by first | rfl | (simp; done) | (simp [*]; done) | (simp; unfold wrap64; omega)), H', ⟨Nat.le_refl _⟩, ⟨by (with_reducible repeat (first | refine blk_drewN ?_ _ | refine blk_drew ?_ | refine blk_alloc ?_ _)); exact BK268.out⟩, ⟨by (with_reducible repeat (first | refine blk_drewN ?_ _ | refine blk_drew ?_ | refine blk_alloc ?_ _)); exact BK273.out⟩, ⟨by (with_reducible repeat (first | refine blk_drewN ?_ _ | refine blk_drew ?_ | refine blk_alloc ?_ _)); exact BK276.out⟩, ⟨by repeat (first | (with_reducible first | exact HB.out | apply below_alloc | apply pw_below_drewN | apply below_drew1 | refine below_set ?_ GE268.out | refine below_set ?_ GE273.out | refine below_set ?_ GE276.out) | exact HB.out)⟩⟩
                  case round =>
                    clear H'
                    try clear c1
                    try clear c2
                    try clear p2
                    try clear q2
                    try clear c3
                    try clear c4
                    try clear c5
                    try clear p6
                    try clear c7
                    try clear c10
                    try clear c14
                    try clear c15
                    try clear c17
                    try clear c17b0
                    try clear c19
                    try clear c19b0
                    try clear c20
                    try clear c20b0
                    try clear c20b1
                    try clear c20b2
                    try clear c21
                    try clear c22
                    try clear c23
                    try clear c26
                    try clear c27
                    try clear q27
                    try clear c30
                    try clear c30b0
                    try clear c30b1
                    try clear c30b2
                    try clear c31
                    try clear c32
                    try clear c33
                    try clear c36
                    try clear c37
                    try clear c40
                    try clear c40b0
                    try clear hcz11_0
                    try clear hcz11_1
                    try clear hcz11_2
                    try clear hcz12_0
                    try clear hcz12_1
                    try clear hcz12_2
                    try clear hcz16_0
                    try clear hcz16_1
                    try clear hcz16_2
                    try clear hcz16_3
                    try clear hcz16_4
                    try clear hcz16_5
                    try clear hcz16_6
                    try clear hcz16_7
                    try clear hcz16_8
                    try clear hcz16_9
                    try clear hcz24_0
                    try clear hcz24_1
                    try clear hcz24_2
                    try clear hcz24_3
                    try clear hcz24_4
                    try clear hcz24_5
                    try clear hcz24_6
                    try clear hcz24_7
                    try clear hcz24_8
                    try clear hcz24_9
                    try clear hcz28_0
                    try clear hcz28_1
                    try clear hcz28_2
                    try clear hcz28_3
                    try clear hcz28_4
                    try clear hcz28_5
                    try clear hcz28_6
                    try clear hcz28_7
                    try clear hcz28_8
                    try clear hcz28_9
                    try clear hcz34_0
                    try clear hcz34_1
                    try clear hcz34_2
                    try clear hcz34_3
                    try clear hcz34_4
                    try clear hcz34_5
                    try clear hcz34_6
                    try clear hcz34_7
                    try clear hcz34_8
                    try clear hcz34_9
                    try clear hcz38_0
                    try clear hcz38_1
                    try clear hcz38_2
                    try clear hcz38_3
                    try clear hcz38_4
                    try clear hcz38_5
                    try clear hcz38_6
                    try clear hcz38_7
                    try clear hcz38_8
                    try clear hcz38_9
                    try clear hcz7_0
                    try clear hcz7_1
                    try clear hcz7_2
                    try clear hfz11_0
                    try clear hfz11_1
                    try clear hfz11_2
                    try clear hfz12_0
                    try clear hfz12_1
                    try clear hfz12_2
                    try clear hfz16_0
                    try clear hfz16_1
                    try clear hfz16_2
                    try clear hfz16_3
                    try clear hfz16_4
                    try clear hfz16_5
                    try clear hfz16_6
                    try clear hfz16_7
                    try clear hfz16_8
                    try clear hfz16_9
                    try clear hfz24_0
                    try clear hfz24_1
                    try clear hfz24_2
                    try clear hfz24_3
                    try clear hfz24_4
                    try clear hfz24_5
                    try clear hfz24_6
                    try clear hfz24_7
                    try clear hfz24_8
                    try clear hfz24_9
                    try clear hfz28_0
                    try clear hfz28_1
                    try clear hfz28_2
                    try clear hfz28_3
                    try clear hfz28_4
                    try clear hfz28_5
                    try clear hfz28_6
                    try clear hfz28_7
                    try clear hfz28_8
                    try clear hfz28_9
                    try clear hfz34_0
                    try clear hfz34_1
                    try clear hfz34_2
                    try clear hfz34_3
                    try clear hfz34_4
                    try clear hfz34_5
                    try clear hfz34_6
                    try clear hfz34_7
                    try clear hfz34_8
                    try clear hfz34_9
                    try clear hfz38_0
                    try clear hfz38_1
                    try clear hfz38_2
                    try clear hfz38_3
                    try clear hfz38_4
                    try clear hfz38_5
                    try clear hfz38_6
                    try clear hfz38_7
                    try clear hfz38_8
                    try clear hfz38_9
                    try clear hfz7_0
                    try clear hfz7_1
                    try clear hfz7_2
                    try clear p2
                    try clear p6
                    try clear q2
                    try clear q27
                    try clear q274
                    try clear q275
                    try clear q279
                    obtain ⟨x13_3, x18_3, rfl, rfl, HA, HK3, BK268, BK273, BK276, HB⟩ := hrel
                    cases gk with
                    | zero => exact absurd HA.out (by simp [belvederelaw06_RuleDates.l2])
                    | succ k3 =>
                      have H := HA.out
                      clear HA
                      simp only [belvederelaw06_RuleDates.l2] at H
                      by_cases c41 : x18_3 < 7
                      · rw [if_pos c41] at H
                        have c41b0 : decide (x18_3 < 7) = true := decide_eq_true c41
                        clear c41
                        replace H := Option.bind_eq_some_iff.mp H
                        obtain ⟨⟨t281, t282⟩, A420, H⟩ := H
                        replace H : (if t282.isNone = true then (if t281 = true then (belvederelaw06_RuleDates.l2 k3 (wrap64 (Int.tmod (IntKind.u64.wrap (a0)) 2900000)) (wrap64 (Int.tmod (IntKind.u64.wrap (a1)) 60)) x12_1 (wrap64 (x13_3 + 1)) x17_2 (wrap64 (x18_3 + 1))) else (belvederelaw06_RuleDates.l2 k3 (wrap64 (Int.tmod (IntKind.u64.wrap (a0)) 2900000)) (wrap64 (Int.tmod (IntKind.u64.wrap (a1)) 60)) x12_1 x13_3 x17_2 (wrap64 (x18_3 + 1)))) else (none)) = some r := H
                        have A42 := Aside0.mk A420
                        clear A420
                        rcases t282 with _ | q283
                        · have H1 : (if t281 = true then (belvederelaw06_RuleDates.l2 k3 (wrap64 (Int.tmod (IntKind.u64.wrap (a0)) 2900000)) (wrap64 (Int.tmod (IntKind.u64.wrap (a1)) 60)) x12_1 (wrap64 (x13_3 + 1)) x17_2 (wrap64 (x18_3 + 1))) else (belvederelaw06_RuleDates.l2 k3 (wrap64 (Int.tmod (IntKind.u64.wrap (a0)) 2900000)) (wrap64 (Int.tmod (IntKind.u64.wrap (a1)) 60)) x12_1 x13_3 x17_2 (wrap64 (x18_3 + 1)))) = some r := by rw [if_pos (show (none : Option Int).isNone = true by rfl)] at H; exact H
                          clear H
                          have H := H1
                          clear H1
                          try simp only [errW_none, errW_some]
                          by_cases c43 : t281 = true
                          · subst c43
                            have H1 : (belvederelaw06_RuleDates.l2 k3 (wrap64 (Int.tmod (IntKind.u64.wrap (a0)) 2900000)) (wrap64 (Int.tmod (IntKind.u64.wrap (a1)) 60)) x12_1 (wrap64 (x13_3 + 1)) x17_2 (wrap64 (x18_3 + 1))) = some r := by rw [if_pos rfl] at H; exact H
                            clear H
                            have H := H1
                            clear H1
                            have H' := Aside0.mk H
                            clear H
                            go_wp2_with (first | ((with_reducible refine gate_callee (f := 7) rfl ?_); refine goesL_ (some 94) rfl rfl Tryd.func7 (by kernel_rfl) rfl #[.agg #[.int .i64 0, .int .i64 0, .int .i64 0, .int .i64 x17_2, .int .i64 0, .int .i64 0, .int .i64 0, .int .i64 0, .int .i64 0, .int .i64 0], .int .i64 (wrap64 ((wrap64 (Int.tmod (IntKind.u64.wrap (a0)) 2900000)) + x18_3))] rfl (by (try simp only [List.map_toArray, List.map_cons, List.map_nil]); first | done | rfl | (simp only [List.length_drop, List.length_take]; rfl)) ?_; (with_reducible refine (rule_Match.calls k3 0 0 0 x17_2 0 0 0 0 0 0 (wrap64 ((wrap64 (Int.tmod (IntKind.u64.wrap (a0)) 2900000)) + x18_3)) true none _ A42.out).mono ?_); rintro e w44 ⟨rfl, hb⟩; refine ⟨_, rfl, ?_⟩; have n0_ := Aside0.mk (blk_below (g := gb268) (o := .cells #[.int .i64 t264, .int .i64 t265, .int .i64 t266] 24 (0, 0)) (by (with_reducible repeat (first | refine blk_drewN ?_ _ | refine blk_drew ?_ | refine blk_alloc ?_ _)); exact BK268.out) hb); have n1_ := Aside0.mk (blk_below (g := gb273) (o := .cells #[.int .i64 t269, .int .i64 t270, .int .i64 t271] 24 (0, 0)) (by (with_reducible repeat (first | refine blk_drewN ?_ _ | refine blk_drew ?_ | refine blk_alloc ?_ _)); exact BK273.out) hb); have n2_ := Aside0.mk (blk_below (g := gb276) (o := .cells #[.int .i64 3, .int .i64 0, .int .i64 0, .int .i64 0, .int .i64 t264, .int .i64 t265, .int .i64 t266, .int .i64 t269, .int .i64 t270, .int .i64 t271] 34 (0, 0)) (by (with_reducible repeat (first | refine blk_drewN ?_ _ | refine blk_drew ?_ | refine blk_alloc ?_ _)); exact BK276.out) hb); have n3_ := Aside0.mk (below_step (by repeat (first | (with_reducible first | exact HB.out | apply below_alloc | apply pw_below_drewN | apply below_drew1 | refine below_set ?_ GE268.out | refine below_set ?_ GE273.out | refine below_set ?_ GE276.out) | exact HB.out)) hb); clear BK268; clear BK273; clear BK276; clear HB; have BK268 := n0_; have BK273 := n1_; have BK276 := n2_; have HB := n3_; clear n0_ n1_ n2_ n3_; (try clear hb); (try clear hb2); (try clear hk); (try clear hi); (try simp only [errW_none, errW_some])))
                            go_roundg k3
                            case measure => have := HK1.out; have := HK2.out; have := HK3.out; omega
                            case rel => exact ⟨(wrap64 (x13_3 + 1)), (wrap64 (x18_3 + 1)), (by first | rfl | (simp; done) | (simp [*]; done) | (simp; unfold wrap64; omega)), (by first | rfl | (simp; done) | (simp [*]; done) | (simp; unfold wrap64; omega)), H', ⟨by have := HK1.out; have := HK2.out; have := HK3.out; omega⟩, ⟨by (with_reducible repeat (first | refine blk_drewN ?_ _ | refine blk_drew ?_ | refine blk_alloc ?_ _)); exact BK268.out⟩, ⟨by (with_reducible repeat (first | refine blk_drewN ?_ _ | refine blk_drew ?_ | refine blk_alloc ?_ _)); exact BK273.out⟩, ⟨by (with_reducible repeat (first | refine blk_drewN ?_ _ | refine blk_drew ?_ | refine blk_alloc ?_ _)); exact BK276.out⟩, ⟨by repeat (first | (with_reducible first | exact HB.out | apply below_alloc | apply pw_below_drewN | apply below_drew1 | refine below_set ?_ GE268.out | refine below_set ?_ GE273.out | refine below_set ?_ GE276.out) | exact HB.out)⟩⟩
                          · replace c43 := Bool.eq_false_iff.mpr c43
                            subst c43
                            have H1 : (belvederelaw06_RuleDates.l2 k3 (wrap64 (Int.tmod (IntKind.u64.wrap (a0)) 2900000)) (wrap64 (Int.tmod (IntKind.u64.wrap (a1)) 60)) x12_1 x13_3 x17_2 (wrap64 (x18_3 + 1))) = some r := by rw [if_neg (show ¬ (false = true) by decide)] at H; exact H
                            clear H
                            have H := H1
                            clear H1
                            have H' := Aside0.mk H
                            clear H
                            go_wp2_with (first | ((with_reducible refine gate_callee (f := 7) rfl ?_); refine goesL_ (some 94) rfl rfl Tryd.func7 (by kernel_rfl) rfl #[.agg #[.int .i64 0, .int .i64 0, .int .i64 0, .int .i64 x17_2, .int .i64 0, .int .i64 0, .int .i64 0, .int .i64 0, .int .i64 0, .int .i64 0], .int .i64 (wrap64 ((wrap64 (Int.tmod (IntKind.u64.wrap (a0)) 2900000)) + x18_3))] rfl (by (try simp only [List.map_toArray, List.map_cons, List.map_nil]); first | done | rfl | (simp only [List.length_drop, List.length_take]; rfl)) ?_; (with_reducible refine (rule_Match.calls k3 0 0 0 x17_2 0 0 0 0 0 0 (wrap64 ((wrap64 (Int.tmod (IntKind.u64.wrap (a0)) 2900000)) + x18_3)) false none _ A42.out).mono ?_); rintro e w45 ⟨rfl, hb⟩; refine ⟨_, rfl, ?_⟩; have n0_ := Aside0.mk (blk_below (g := gb268) (o := .cells #[.int .i64 t264, .int .i64 t265, .int .i64 t266] 24 (0, 0)) (by (with_reducible repeat (first | refine blk_drewN ?_ _ | refine blk_drew ?_ | refine blk_alloc ?_ _)); exact BK268.out) hb); have n1_ := Aside0.mk (blk_below (g := gb273) (o := .cells #[.int .i64 t269, .int .i64 t270, .int .i64 t271] 24 (0, 0)) (by (with_reducible repeat (first | refine blk_drewN ?_ _ | refine blk_drew ?_ | refine blk_alloc ?_ _)); exact BK273.out) hb); have n2_ := Aside0.mk (blk_below (g := gb276) (o := .cells #[.int .i64 3, .int .i64 0, .int .i64 0, .int .i64 0, .int .i64 t264, .int .i64 t265, .int .i64 t266, .int .i64 t269, .int .i64 t270, .int .i64 t271] 34 (0, 0)) (by (with_reducible repeat (first | refine blk_drewN ?_ _ | refine blk_drew ?_ | refine blk_alloc ?_ _)); exact BK276.out) hb); have n3_ := Aside0.mk (below_step (by repeat (first | (with_reducible first | exact HB.out | apply below_alloc | apply pw_below_drewN | apply below_drew1 | refine below_set ?_ GE268.out | refine below_set ?_ GE273.out | refine below_set ?_ GE276.out) | exact HB.out)) hb); clear BK268; clear BK273; clear BK276; clear HB; have BK268 := n0_; have BK273 := n1_; have BK276 := n2_; have HB := n3_; clear n0_ n1_ n2_ n3_; (try clear hb); (try clear hb2); (try clear hk); (try clear hi); (try simp only [errW_none, errW_some])))
                            go_roundg k3
                            case measure => have := HK1.out; have := HK2.out; have := HK3.out; omega
                            case rel => exact ⟨(x13_3), (wrap64 (x18_3 + 1)), (by first | rfl | (simp; done) | (simp [*]; done) | (simp; unfold wrap64; omega)), (by first | rfl | (simp; done) | (simp [*]; done) | (simp; unfold wrap64; omega)), H', ⟨by have := HK1.out; have := HK2.out; have := HK3.out; omega⟩, ⟨by (with_reducible repeat (first | refine blk_drewN ?_ _ | refine blk_drew ?_ | refine blk_alloc ?_ _)); exact BK268.out⟩, ⟨by (with_reducible repeat (first | refine blk_drewN ?_ _ | refine blk_drew ?_ | refine blk_alloc ?_ _)); exact BK273.out⟩, ⟨by (with_reducible repeat (first | refine blk_drewN ?_ _ | refine blk_drew ?_ | refine blk_alloc ?_ _)); exact BK276.out⟩, ⟨by repeat (first | (with_reducible first | exact HB.out | apply below_alloc | apply pw_below_drewN | apply below_drew1 | refine below_set ?_ GE268.out | refine below_set ?_ GE273.out | refine below_set ?_ GE276.out) | exact HB.out)⟩⟩
                        · have H1 : (none) = some r := by rw [if_neg (show ¬ (some q283).isNone = true by simp)] at H; exact H
                          clear H
                          have H := H1
                          clear H1
                          try simp only [errW_none, errW_some]
                          exact absurd H (by simp)
                      · rw [if_neg c41] at H
                        have c41b0 : decide (x18_3 < 7) = false := decide_eq_false c41
                        clear c41
                        have H' := Aside0.mk H
                        clear H
                        go_wp2
                        go_roundg k3
                        case measure => have := HK1.out; have := HK2.out; have := HK3.out; omega
                        case rel => exact ⟨(x13_3), (wrap64 (x17_2 + 1)), (by first | rfl | (simp; done) | (simp [*]; done) | (simp; unfold wrap64; omega)), (by first | rfl | (simp; done) | (simp [*]; done) | (simp; unfold wrap64; omega)), H', ⟨by have := HK1.out; have := HK2.out; have := HK3.out; omega⟩, ⟨by (with_reducible repeat (first | refine blk_drewN ?_ _ | refine blk_drew ?_ | refine blk_alloc ?_ _)); exact BK268.out⟩, ⟨by (with_reducible repeat (first | refine blk_drewN ?_ _ | refine blk_drew ?_ | refine blk_alloc ?_ _)); exact BK273.out⟩, ⟨by (with_reducible repeat (first | refine blk_drewN ?_ _ | refine blk_drew ?_ | refine blk_alloc ?_ _)); exact BK276.out⟩, ⟨by repeat (first | (with_reducible first | exact HB.out | apply below_alloc | apply pw_below_drewN | apply below_drew1 | refine below_set ?_ GE268.out | refine below_set ?_ GE273.out | refine below_set ?_ GE276.out) | exact HB.out)⟩⟩
                · rw [if_neg c40] at H
                  have c40b0 : decide (x17_2 < 7) = false := decide_eq_false c40
                  clear c40
                  by_cases c46 : x12_1 = (wrap64 ((wrap64 (Int.tmod (IntKind.u64.wrap (a1)) 60)) + 1))
                  · rw [if_pos c46] at H
                    have c46b0 : (x12_1 == (wrap64 ((wrap64 (Int.tmod (IntKind.u64.wrap (a1)) 60)) + 1))) = true := beq_iff_eq.mpr c46
                    have c46b1 : (x12_1 != (wrap64 ((wrap64 (Int.tmod (IntKind.u64.wrap (a1)) 60)) + 1))) = false := bne_eq_false_iff_eq.mpr c46
                    clear c46
                    by_cases c47 : x13_2 = 7
                    · rw [if_pos c47] at H
                      have c47b0 : (x13_2 == 7) = true := beq_iff_eq.mpr c47
                      have c47b1 : (x13_2 != 7) = false := bne_eq_false_iff_eq.mpr c47
                      clear c47
                      replace H := Option.bind_eq_some_iff.mp H
                      obtain ⟨t280, A480, H⟩ := H
                      replace H : (some t280) = some r := H
                      have A48 := Aside0.mk A480
                      clear A480
                      obtain rfl := Option.some.inj H
                      go_wp2_with (first | (go_at_call 9; (with_reducible refine (belvederelaw06_sure.calls k2  t280 _ A48.out ?side1).mono ?_); (case side1 => first | (with_reducible exact hG) | exact GR.below hG (by repeat (first | (with_reducible first | exact HB.out | apply below_alloc | apply pw_below_drewN | apply below_drew1 | refine below_set ?_ GE268.out | refine below_set ?_ GE273.out | refine below_set ?_ GE276.out) | exact HB.out)) | (repeat (first | exact hG | apply GR.drewN | apply GR.drew | apply GR.alloc))); rintro e w49 ⟨rfl, hb⟩; have n0_ := Aside0.mk (blk_below (g := gb268) (o := .cells #[.int .i64 t264, .int .i64 t265, .int .i64 t266] 24 (0, 0)) (by (with_reducible repeat (first | refine blk_drewN ?_ _ | refine blk_drew ?_ | refine blk_alloc ?_ _)); exact BK268.out) hb); have n1_ := Aside0.mk (blk_below (g := gb273) (o := .cells #[.int .i64 t269, .int .i64 t270, .int .i64 t271] 24 (0, 0)) (by (with_reducible repeat (first | refine blk_drewN ?_ _ | refine blk_drew ?_ | refine blk_alloc ?_ _)); exact BK273.out) hb); have n2_ := Aside0.mk (blk_below (g := gb276) (o := .cells #[.int .i64 3, .int .i64 0, .int .i64 0, .int .i64 0, .int .i64 t264, .int .i64 t265, .int .i64 t266, .int .i64 t269, .int .i64 t270, .int .i64 t271] 34 (0, 0)) (by (with_reducible repeat (first | refine blk_drewN ?_ _ | refine blk_drew ?_ | refine blk_alloc ?_ _)); exact BK276.out) hb); have n3_ := Aside0.mk (below_step (by repeat (first | (with_reducible first | exact HB.out | apply below_alloc | apply pw_below_drewN | apply below_drew1 | refine below_set ?_ GE268.out | refine below_set ?_ GE273.out | refine below_set ?_ GE276.out) | exact HB.out)) hb); clear BK268; clear BK273; clear BK276; clear HB; have BK268 := n0_; have BK273 := n1_; have BK276 := n2_; have HB := n3_; clear n0_ n1_ n2_ n3_; (try clear hb); (try clear hb2); (try clear hk); (try clear hi)))
                      go_ret
                      exact ⟨by first | rfl | (simp [errW_none, errW_some] <;> rfl) | (simp [*, errW_none, errW_some] <;> rfl), by repeat (first | (with_reducible first | exact HB.out | apply below_alloc | apply pw_below_drewN | apply below_drew1 | refine below_set ?_ GE268.out | refine below_set ?_ GE273.out | refine below_set ?_ GE276.out) | exact HB.out)⟩
                    · rw [if_neg c47] at H
                      exact absurd H (by simp)
                  · rw [if_neg c46] at H
                    exact absurd H (by simp)
    · have H1 : (none) = some r := by rw [if_neg (show ¬ (some q275).isNone = true by simp)] at H; exact H
      clear H
      have H := H1
      clear H1
      try simp only [errW_none, errW_some]
      exact absurd H (by simp)
  · have H1 : (none) = some r := by rw [if_neg (show ¬ (some q274).isNone = true by simp)] at H; exact H
    clear H
    have H := H1
    clear H1
    try simp only [errW_none, errW_some]
    exact absurd H (by simp)

/-- THE ONE PURE STATEMENT of belvederelaw06_RuleDates: yours. -/
def belvederelaw06_RuleDates.Pure : Prop := ∀ (a0 : Int) (a1 : Int), (Lit.int .i64 a0).wf = true → (Lit.int .i64 a1).wf = true → ∃ k, belvederelaw06_RuleDates.f k a0 a1 = some true
theorem belvederelaw06_RuleDates.walk (P : belvederelaw06_RuleDates.Pure) (a0 : Int) (a1 : Int) (w : World) (w0 : (Lit.int .i64 a0).wf = true) (w1 : (Lit.int .i64 a1).wf = true) (hG : GR w) :
    Calls Tryd.prog 4 #[.int .i64 a0, .int .i64 a1] w fun e w' => e = .returned (.bool true) ∧ Below w.heap.size w w' := by
  obtain ⟨k, h⟩ := P a0 a1 w0 w1
  refine (belvederelaw06_RuleDates.calls k a0 a1 true w h hG).mono ?_
  rintro e w' ⟨rfl, hd⟩
  exact ⟨rfl, hd⟩

end Go.Proofs.YtpagbmkdphdjoaaDoor.P
