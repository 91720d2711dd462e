/- The contract of clock.Stamp. -/
import Derived.Test.YtegiikkbeknodaaDoorPClText
import Derived.Test.YtegiikkbeknodaaDoorPx1
import Derived.Test.YtegiikkbeknodaaDoorPClOf
import Derived.Deep.RegionHeld3
namespace Go.Proofs.YtegiikkbeknodaaDoor.P
open Go.RowKit Go.Proofs.YtegiikkbeknodaaDoorW.PrintWords Go.Proofs.YtegiikkbeknodaaDoorW.PrintLast Go.Proofs.YtegiikkbeknodaaDoorW.PrintMore
attribute [local go_sem] max2_int min2_int max_two min_two max_three min_three max_four min_four
set_option linter.unusedVariables false
set_option linter.unusedSimpArgs false
def stampB (Y : ByteArray) (m d s : Nat) : ByteArray := (((((Y ++ (⟨#[45]⟩ : ByteArray)) ++ d2 m) ++ (⟨#[45]⟩ : ByteArray)) ++ d2 d) ++ (⟨#[32]⟩ : ByteArray)) ++ hms (s / 3600) (s / 60 % 60) (s % 60)
set_option maxHeartbeats 4000000 in
theorem stamp_ok (t o D s y m d : Int) (Y : ByteArray) (mn_ dn_ sn_ : Nat) (hS : clock_Split.f t o = some (D, s, none)) (hO : civil_Of.f D = some (y, m, d, none)) (hm : m = (mn_ : Int)) (hm1 : mn_ < 100) (hd : d = (dn_ : Int)) (hd1 : dn_ < 100) (hs : s = (sn_ : Int)) (hs1 : sn_ < 360000)
    (hI : strconv_Itoa_25.f y = some Y) (hY : Y.size ≤ 21) (w : World) (hG : GL w) :
    Calls Tryd.prog 13 #[.int .i64 t, .int .i64 o] w fun e w' => e = .returned (.tuple #[.string (stampB Y mn_ dn_ sn_), errW none]) ∧ Below w.heap.size w w' := by
  have hu24 := Tryd.underlying24
  have hu54 := Tryd.underlying54
  have HB := Aside0.mk (Below.refl w.heap.size w)
  have HS := Aside0.mk hS
  have HO := Aside0.mk hO
  have HI := Aside0.mk (fun W (hb : Below w.heap.size w W) => strconv_Itoa_25.calls y Y W hI (hG.below hb))
  have HM := Aside0.mk (two_walk m mn_ hm hm1)
  have HD := Aside0.mk (two_walk d dn_ hd hd1)
  have HT := Aside0.mk (text_walk s sn_ hs hs1)
  obtain ⟨A, hA⟩ : ∃ x, d2 mn_ = x := ⟨_, rfl⟩
  obtain ⟨B, hB⟩ : ∃ x, d2 dn_ = x := ⟨_, rfl⟩
  obtain ⟨C, hC⟩ : ∃ x, hms (sn_ / 3600) (sn_ / 60 % 60) (sn_ % 60) = x := ⟨_, rfl⟩
  have zA : A.size = 2 := by rw [← hA]; rfl
  have zB : B.size = 2 := by rw [← hB]; rfl
  have zC : C.size = 8 := by rw [← hC]; rfl
  unfold stampB
  rw [hA, hB, hC]
  rw [hA] at HM
  rw [hB] at HD
  rw [hC] at HT
  clear hS hO hm hm1 hd hd1 hs hs1 hI hG hA hB hC
  have k0 : (Y.size + 1 ≤ 9223372036854775807) = True := eq_true (by omega)
  have l0 : (9223372036854775807 < Y.size + 1) = False := eq_false (by omega)
  have k1 : (Y.size + 1 + A.size ≤ 9223372036854775807) = True := eq_true (by omega)
  have l1 : (9223372036854775807 < Y.size + 1 + A.size) = False := eq_false (by omega)
  have k2 : (Y.size + 1 + A.size + 1 ≤ 9223372036854775807) = True := eq_true (by omega)
  have l2 : (9223372036854775807 < Y.size + 1 + A.size + 1) = False := eq_false (by omega)
  have k3 : (Y.size + 1 + A.size + 1 + B.size ≤ 9223372036854775807) = True := eq_true (by omega)
  have l3 : (9223372036854775807 < Y.size + 1 + A.size + 1 + B.size) = False := eq_false (by omega)
  have k4 : (Y.size + 1 + A.size + 1 + B.size + 1 ≤ 9223372036854775807) = True := eq_true (by omega)
  have l4 : (9223372036854775807 < Y.size + 1 + A.size + 1 + B.size + 1) = False := eq_false (by omega)
  have k5 : (Y.size + 1 + A.size + 1 + B.size + 1 + C.size ≤ 9223372036854775807) = True := eq_true (by omega)
  have l5 : (9223372036854775807 < Y.size + 1 + A.size + 1 + B.size + 1 + C.size) = False := eq_false (by omega)
  clear zA zB zC hY
  go_enter Tryd.func13, Tryd.ntmps13
  go_upto_region 1 with (fail)
  go_cut [6, 7] (fun v6 v7 wc => ∃ g6 : Nat, v6 = .pointer (some ⟨g6, 0, none⟩) ∧ v7 = .nilIface ∧ Aside0 (wc.heap[g6]? = some (.cells #[.int .i64 D, .int .i64 s] 24 (0, 0))) ∧ w.heap.size ≤ g6 ∧ Aside0 (Below w.heap.size w wc))
  case first =>
    go_wp2_with (first | ((with_reducible refine gate_callee (f := 9) rfl ?_); refine goesL_ (some 12) rfl rfl Tryd.func9 (by kernel_rfl) rfl #[.int .i64 t, .int .i64 o] rfl (by (try simp only [List.map_toArray, List.map_cons, List.map_nil]); first | done | rfl) ?_; (with_reducible refine (clock_Split.calls t o D s none _ HS.out).mono ?_); rintro e_ w5 ⟨rfl, hb⟩; refine ⟨_, rfl, ?_⟩; have n0_ := Aside0.mk (below_step (by repeat (first | (with_reducible first | exact HB.out | apply below_alloc | apply pw_below_drewN | apply below_drew1) | exact HB.out)) hb); clear HB; have HB := n0_; clear n0_ hb; (try simp only [errW_none, errW_some])) | ((with_reducible refine gate_dst (N := 6) rfl ?_); refine box_event ?hg (N := 6) ?hd (cs := #[.int .i64 0, .int .i64 0]) (t := 24) ?hr ?_; (case hd => rfl); (case hg => rfl); (case hr => first | (go_simp; done) | (go_simp; rfl)); intro gb6 hg w6 hbox hb; have n0_ := Aside0.mk (below_step (by repeat (first | (with_reducible first | exact HB.out | apply below_alloc | apply pw_below_drewN | apply below_drew1) | exact HB.out)) hb); have BKgb6 := Aside0.mk (hbox); have GEgb6 := Aside0.mk ((by rw [hg]; exact (below_size (by repeat (first | (with_reducible first | exact HB.out | apply below_alloc | apply pw_below_drewN | apply below_drew1) | exact HB.out))) : w.heap.size ≤ gb6)); clear HB; have HB := n0_; clear n0_; clear hb hbox hg; have hczgb6_0 : w6.cell? ⟨gb6, 0, none⟩ = some (.int .i64 0) := (blk_cell BKgb6.out 0).trans rfl; have hczgb6_1 : w6.cell? ⟨gb6, 1, none⟩ = some (.int .i64 0) := (blk_cell BKgb6.out 1).trans rfl; have hfzgb6_0 := blk_frozen BKgb6.out 0; have hfzgb6_1 := blk_frozen BKgb6.out 1))
    go_meet
    case rel => exact ⟨_, rfl, rfl, ⟨by (with_reducible repeat (first | refine blk_drewN ?_ _ | refine blk_drew ?_ | refine blk_alloc ?_ _)); refine blk_put (cs := #[.int .i64 D, .int .i64 0]) ?_ 1 _ rfl; (with_reducible repeat (first | refine blk_drewN ?_ _ | refine blk_drew ?_ | refine blk_alloc ?_ _)); refine blk_put (cs := #[.int .i64 0, .int .i64 0]) ?_ 0 _ rfl; (with_reducible repeat (first | refine blk_drewN ?_ _ | refine blk_drew ?_ | refine blk_alloc ?_ _)); exact BKgb6.out⟩, GEgb6.out, ⟨(by repeat (first | (with_reducible first | exact HB.out | apply below_alloc | apply pw_below_drewN | apply below_drew1 | refine below_set ?_ GEgb6.out) | exact HB.out))⟩⟩
  clear HB
  obtain ⟨g6, rfl, rfl, BK6, GE6_, HB⟩ := hcut
  have GE6 := Aside0.mk GE6_
  clear GE6_
  have c60 := (blk_cell BK6.out 0).trans rfl
  have f60 := blk_frozen BK6.out 0
  go_upto_region 4 with (fail)
  go_cut [7, 8] (fun v7 v8 wc => ∃ g8 : Nat, v7 = .nilIface ∧ v8 = .pointer (some ⟨g8, 0, none⟩) ∧ Aside0 (wc.heap[g8]? = some (.cells #[.int .i64 y, .int .i64 m, .int .i64 d] 54 (0, 0))) ∧ Aside0 (wc.heap[g6]? = some (.cells #[.int .i64 D, .int .i64 s] 24 (0, 0))) ∧ Aside0 (Below w.heap.size w wc))
  case first =>
    go_wp2_with (first | ((with_reducible refine gate_callee (f := 24) rfl ?_); refine goesL_ (some 21) rfl rfl Tryd.func24 (by kernel_rfl) rfl #[.int .i64 D] rfl (by (try simp only [List.map_toArray, List.map_cons, List.map_nil]); first | done | rfl) ?_; (with_reducible refine (civil_Of.calls D y m d none _ HO.out).mono ?_); rintro e_ w7 ⟨rfl, hb⟩; refine ⟨_, rfl, ?_⟩; have BK6n := Aside0.mk (blk_below (g := g6) (o := .cells #[.int .i64 D, .int .i64 s] 24 (0, 0)) (by (with_reducible repeat (first | refine blk_drewN ?_ _ | refine blk_drew ?_ | refine blk_alloc ?_ _)); exact BK6.out) hb); clear BK6; have BK6 := BK6n; clear BK6n; have n0_ := Aside0.mk (below_step (by repeat (first | (with_reducible first | exact HB.out | apply below_alloc | apply pw_below_drewN | apply below_drew1) | exact HB.out)) hb); clear HB; have HB := n0_; clear n0_ hb; (try simp only [errW_none, errW_some])) | ((with_reducible refine gate_dst (N := 8) rfl ?_); refine box_event ?hg (N := 8) ?hd (cs := #[.int .i64 0, .int .i64 0, .int .i64 0]) (t := 54) ?hr ?_; (case hd => rfl); (case hg => rfl); (case hr => first | (go_simp; done) | (go_simp; rfl)); intro gb8 hg w8 hbox hb; have BK6n := Aside0.mk (blk_below (g := g6) (o := .cells #[.int .i64 D, .int .i64 s] 24 (0, 0)) (by (with_reducible repeat (first | refine blk_drewN ?_ _ | refine blk_drew ?_ | refine blk_alloc ?_ _)); exact BK6.out) hb); have NE := Aside0.mk ((by rw [hg]; exact Nat.ne_of_lt (blk_lt (g := g6) (o := .cells #[.int .i64 D, .int .i64 s] 24 (0, 0)) (by (with_reducible repeat (first | refine blk_drewN ?_ _ | refine blk_drew ?_ | refine blk_alloc ?_ _)); exact BK6.out)) : g6 ≠ gb8)); clear BK6; have BK6 := BK6n; clear BK6n; have n0_ := Aside0.mk (below_step (by repeat (first | (with_reducible first | exact HB.out | apply below_alloc | apply pw_below_drewN | apply below_drew1) | exact HB.out)) hb); have BKgb8 := Aside0.mk (hbox); have GEgb8 := Aside0.mk ((by rw [hg]; exact (below_size (by repeat (first | (with_reducible first | exact HB.out | apply below_alloc | apply pw_below_drewN | apply below_drew1) | exact HB.out))) : w.heap.size ≤ gb8)); clear HB; have HB := n0_; clear n0_; clear hb hbox hg; have hczgb8_0 : w8.cell? ⟨gb8, 0, none⟩ = some (.int .i64 0) := (blk_cell BKgb8.out 0).trans rfl; have hczgb8_1 : w8.cell? ⟨gb8, 1, none⟩ = some (.int .i64 0) := (blk_cell BKgb8.out 1).trans rfl; have hczgb8_2 : w8.cell? ⟨gb8, 2, none⟩ = some (.int .i64 0) := (blk_cell BKgb8.out 2).trans rfl; have hfzgb8_0 := blk_frozen BKgb8.out 0; have hfzgb8_1 := blk_frozen BKgb8.out 1; have hfzgb8_2 := blk_frozen BKgb8.out 2))
    go_meet
    case rel => exact ⟨_, rfl, rfl, ⟨by (with_reducible repeat (first | refine blk_drewN ?_ _ | refine blk_drew ?_ | refine blk_alloc ?_ _)); refine blk_put (cs := #[.int .i64 y, .int .i64 m, .int .i64 0]) ?_ 2 _ rfl; (with_reducible repeat (first | refine blk_drewN ?_ _ | refine blk_drew ?_ | refine blk_alloc ?_ _)); refine blk_put (cs := #[.int .i64 y, .int .i64 0, .int .i64 0]) ?_ 1 _ rfl; (with_reducible repeat (first | refine blk_drewN ?_ _ | refine blk_drew ?_ | refine blk_alloc ?_ _)); refine blk_put (cs := #[.int .i64 0, .int .i64 0, .int .i64 0]) ?_ 0 _ rfl; (with_reducible repeat (first | refine blk_drewN ?_ _ | refine blk_drew ?_ | refine blk_alloc ?_ _)); exact BKgb8.out⟩, ⟨by (with_reducible repeat (first | refine blk_drewN ?_ _ | refine blk_drew ?_ | refine blk_alloc ?_ _)); refine blk_far ?_ NE.out _; (with_reducible repeat (first | refine blk_drewN ?_ _ | refine blk_drew ?_ | refine blk_alloc ?_ _)); refine blk_far ?_ NE.out _; (with_reducible repeat (first | refine blk_drewN ?_ _ | refine blk_drew ?_ | refine blk_alloc ?_ _)); refine blk_far ?_ NE.out _; (with_reducible repeat (first | refine blk_drewN ?_ _ | refine blk_drew ?_ | refine blk_alloc ?_ _)); exact BK6.out⟩, ⟨(by repeat (first | (with_reducible first | exact HB.out | apply below_alloc | apply pw_below_drewN | apply below_drew1 | refine below_set ?_ GEgb8.out) | exact HB.out))⟩⟩
  clear HB BK6 c60 f60
  obtain ⟨g8, rfl, rfl, BK8, BK6, HB⟩ := hcut
  go_upto_region 7 with (fail)
  have HX := Aside0.mk (fun W (hb : Below wc.heap.size wc W) => (⟨hb, (blk_cell (blk_below BK8.out hb) 0).trans rfl, (blk_cell (blk_below BK8.out hb) 1).trans rfl, (blk_cell (blk_below BK8.out hb) 2).trans rfl, (blk_cell (blk_below BK6.out hb) 1).trans rfl⟩ : Below wc.heap.size wc W ∧ W.cell? ⟨g8, 0, none⟩ = some (.int .i64 y) ∧ W.cell? ⟨g8, 1, none⟩ = some (.int .i64 m) ∧ W.cell? ⟨g8, 2, none⟩ = some (.int .i64 d) ∧ W.cell? ⟨g6, 1, none⟩ = some (.int .i64 s)))
  go_region_held3 (fun W => Below wc.heap.size wc W ∧ W.cell? ⟨g8, 0, none⟩ = some (.int .i64 y) ∧ W.cell? ⟨g8, 1, none⟩ = some (.int .i64 m) ∧ W.cell? ⟨g8, 2, none⟩ = some (.int .i64 d) ∧ W.cell? ⟨g6, 1, none⟩ = some (.int .i64 s)) (exact HX.out _ (by repeat (first | exact Below.refl _ _ | assumption | (exact And.left (by assumption)) | apply below_alloc | apply pw_below_drewN | apply below_drew1 | (refine below_step ?_ (by assumption))))) (first | (go_at_call 25; refine (HI.out _ (below_step HB.out (by first | assumption | exact And.left (by assumption)))).mono ?_; rintro e_ w9 ⟨rfl, hb9⟩) | (go_at_call 26; first | (with_reducible refine (HM.out _).mono ?_; rintro e_ wx ⟨rfl, rfl⟩) | (with_reducible refine (HD.out _).mono ?_; rintro e_ wx ⟨rfl, rfl⟩)) | (go_at_call 27; (with_reducible refine (HT.out _).mono ?_); rintro e_ wx ⟨rfl, rfl⟩))
  all_goals (obtain ⟨HBw, -⟩ := ‹Below wc.heap.size wc _ ∧ _›)
  all_goals go_wp2
  all_goals go_ret2
  all_goals exact ⟨rfl, below_step HB.out HBw⟩
theorem stamp_bad (t o D s n : Int) (hS : clock_Split.f t o = some (D, s, some n)) (w : World) :
    Calls Tryd.prog 13 #[.int .i64 t, .int .i64 o] w fun e w' => e = .returned (.tuple #[.string ⟨#[]⟩, errW (some n)]) ∧ Below w.heap.size w w' := by
  have hu24 := Tryd.underlying24
  have hu54 := Tryd.underlying54
  have HB := Aside0.mk (Below.refl w.heap.size w)
  have HS := Aside0.mk hS
  clear hS
  go_enter Tryd.func13, Tryd.ntmps13
  go_wp2_with (first | ((with_reducible refine gate_callee (f := 9) rfl ?_); refine goesL_ (some 12) rfl rfl Tryd.func9 (by kernel_rfl) rfl #[.int .i64 t, .int .i64 o] rfl (by (try simp only [List.map_toArray, List.map_cons, List.map_nil]); first | done | rfl) ?_; (with_reducible refine (clock_Split.calls t o D s (some n) _ HS.out).mono ?_); rintro e_ w5 ⟨rfl, hb⟩; refine ⟨_, rfl, ?_⟩; have n0_ := Aside0.mk (below_step (by repeat (first | (with_reducible first | exact HB.out | apply below_alloc | apply pw_below_drewN | apply below_drew1) | exact HB.out)) hb); clear HB; have HB := n0_; clear n0_ hb; (try simp only [errW_none, errW_some])) | ((with_reducible refine gate_dst (N := 6) rfl ?_); refine box_event ?hg (N := 6) ?hd (cs := #[.int .i64 0, .int .i64 0]) (t := 24) ?hr ?_; (case hd => rfl); (case hg => rfl); (case hr => first | (go_simp; done) | (go_simp; rfl)); intro gb6 hg w6 hbox hb; have n0_ := Aside0.mk (below_step (by repeat (first | (with_reducible first | exact HB.out | apply below_alloc | apply pw_below_drewN | apply below_drew1) | exact HB.out)) hb); have BKgb6 := Aside0.mk (hbox); have GEgb6 := Aside0.mk ((by rw [hg]; exact (below_size (by repeat (first | (with_reducible first | exact HB.out | apply below_alloc | apply pw_below_drewN | apply below_drew1) | exact HB.out))) : w.heap.size ≤ gb6)); clear HB; have HB := n0_; clear n0_; clear hb hbox hg; have hczgb6_0 : w6.cell? ⟨gb6, 0, none⟩ = some (.int .i64 0) := (blk_cell BKgb6.out 0).trans rfl; have hczgb6_1 : w6.cell? ⟨gb6, 1, none⟩ = some (.int .i64 0) := (blk_cell BKgb6.out 1).trans rfl; have hfzgb6_0 := blk_frozen BKgb6.out 0; have hfzgb6_1 := blk_frozen BKgb6.out 1))
  go_ret2
  exact ⟨rfl, (by repeat (first | (with_reducible first | exact HB.out | apply below_alloc | apply pw_below_drewN | apply below_drew1 | refine below_set ?_ GEgb6.out) | exact HB.out))⟩
theorem itoa_size (n : Int) (Y : ByteArray) (h : strconv_Itoa_25.f n = some Y) : Y.size ≤ 21 := by
  unfold strconv_Itoa_25.f at h
  by_cases h0 : -9223372036854775808 ≤ n
  · by_cases h1 : n ≤ 9223372036854775807
    · rw [if_pos h0, if_pos h1] at h
      obtain rfl := Option.some.inj h
      exact Lib.itoa_length_le n h0 h1
    · rw [if_pos h0, if_neg h1] at h; cases h
  · rw [if_neg h0] at h; cases h
def stampIn (y m d s : Int) : Option (ByteArray × Option Int) := if 0 ≤ m ∧ m < 100 ∧ 0 ≤ d ∧ d < 100 ∧ 0 ≤ s ∧ s < 360000 then (strconv_Itoa_25.f y).bind fun Y => some (stampB Y m.toNat d.toNat s.toNat, none) else none
def clock_Stamp.f (a0 a1 : Int) : Option (ByteArray × Option Int) := (clock_Split.f a0 a1).bind fun b => match b with
  | (_, _, some n) => some ((⟨#[]⟩ : ByteArray), some n)
  | (D, s, none) => (civil_Of.f D).bind fun c => match c with
    | (_, _, _, some _) => none
    | (y, m, d, none) => stampIn y m d s
theorem clock_Stamp.calls (a0 a1 : Int) (r1 : ByteArray) (r2 : Option Int) (w : World) (h : clock_Stamp.f a0 a1 = some (r1, r2)) (hG : GL w) :
    Calls Tryd.prog 13 #[.int .i64 a0, .int .i64 a1] w fun e w' => e = .returned (.tuple #[.string r1, errW r2]) ∧ Below w.heap.size w w' := by
  unfold clock_Stamp.f at h
  obtain ⟨⟨D, s, e⟩, hS, h⟩ := Option.bind_eq_some_iff.mp h
  cases e with
  | some n =>
    have h2 : some ((⟨#[]⟩ : ByteArray), some n) = some (r1, r2) := h
    simp only [Option.some.injEq, Prod.mk.injEq] at h2
    obtain ⟨rfl, rfl⟩ := h2
    exact stamp_bad a0 a1 D s n hS w
  | none =>
    obtain ⟨⟨y, m, d, e2⟩, hO, h⟩ := Option.bind_eq_some_iff.mp h
    cases e2 with
    | some n => cases h
    | none =>
      have h2 : stampIn y m d s = some (r1, r2) := h
      unfold stampIn at h2
      by_cases hc : 0 ≤ m ∧ m < 100 ∧ 0 ≤ d ∧ d < 100 ∧ 0 ≤ s ∧ s < 360000
      · rw [if_pos hc] at h2
        obtain ⟨Y, hI, h3⟩ := Option.bind_eq_some_iff.mp h2
        simp only [Option.some.injEq, Prod.mk.injEq] at h3
        obtain ⟨rfl, rfl⟩ := h3
        exact stamp_ok a0 a1 D s y m d Y m.toNat d.toNat s.toNat hS hO (by omega) (by omega) (by omega) (by omega) (by omega) (by omega) hI (itoa_size y Y hI) w hG
      · rw [if_neg hc] at h2; cases h2
end Go.Proofs.YtegiikkbeknodaaDoor.P
