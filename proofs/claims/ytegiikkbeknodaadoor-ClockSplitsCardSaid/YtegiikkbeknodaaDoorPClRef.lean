/- The contracts of the document's Text and Stamp (chapter 5): they answer as the program's. -/
import Derived.Test.YtegiikkbeknodaaDoorPClDig
import Derived.Deep.RegionHeld3
namespace Go.Proofs.YtegiikkbeknodaaDoor.P
open Go.RowKit Go.Proofs.YtegiikkbeknodaaDoorW.PrintWords Go.Proofs.YtegiikkbeknodaaDoorW.PrintLast Go.Proofs.YtegiikkbeknodaaDoorW.PrintMore
attribute [local go_sem] max2_int min2_int max_two min_two max_three min_three max_four min_four
set_option linter.unusedVariables false
set_option linter.unusedSimpArgs false
theorem dig2_walk (a : Int) (n : Nat) (ha : a = (n : Int)) (h : n < 100) (w : World) : Calls Tryd.prog 29 #[.int .i64 a, .int .i64 2] w fun e w' => e = .returned (.string (d2 n)) ∧ Drawn0 w w' := by
  subst ha
  exact belvedereref05_digits.calls 3 (n : Int) 2 (d2 n) w (PClk.dig_two n h)
theorem rtext_walk (a : Int) (s : Nat) (ha : a = (s : Int)) (h : s < 360000) (w : World) : Calls Tryd.prog 30 #[.int .i64 a] w fun e w' => e = .returned (.string (hms (s / 3600) (s / 60 % 60) (s % 60))) ∧ Drawn0 w w' := by
  have e1 : Int.tdiv a 3600 = ((s / 3600 : Nat) : Int) := by rw [ha, Int.tdiv_eq_ediv_of_nonneg (by omega)]; omega
  have e2 : Int.tdiv a 60 = ((s / 60 : Nat) : Int) := by rw [ha, Int.tdiv_eq_ediv_of_nonneg (by omega)]; omega
  have w1 : wrap64 (Int.tdiv a 3600) = ((s / 3600 : Nat) : Int) := by rw [e1]; unfold wrap64; omega
  have w2 : wrap64 (Int.tdiv a 60) = ((s / 60 : Nat) : Int) := by rw [e2]; unfold wrap64; omega
  have e3 : Int.tmod (wrap64 (Int.tdiv a 60)) 60 = ((s / 60 % 60 : Nat) : Int) := by rw [w2, Int.tmod_eq_emod_of_nonneg (by omega)]; omega
  have e4 : Int.tmod a 60 = ((s % 60 : Nat) : Int) := by rw [ha, Int.tmod_eq_emod_of_nonneg (by omega)]; omega
  have h1 := dig2_walk (wrap64 (Int.tdiv a 3600)) (s / 3600) w1 (by omega)
  have h2 := dig2_walk (Int.tmod (wrap64 (Int.tdiv a 60)) 60) (s / 60 % 60) e3 (by omega)
  have h3 := dig2_walk (Int.tmod a 60) (s % 60) e4 (by omega)
  obtain ⟨A, hA⟩ : ∃ x, d2 (s / 3600) = x := ⟨_, rfl⟩
  obtain ⟨B, hB⟩ : ∃ x, d2 (s / 60 % 60) = x := ⟨_, rfl⟩
  obtain ⟨C, hC⟩ : ∃ x, d2 (s % 60) = x := ⟨_, rfl⟩
  have zA : A.size = 2 := by rw [← hA]; rfl
  have zB : B.size = 2 := by rw [← hB]; rfl
  have zC : C.size = 2 := by rw [← hC]; rfl
  unfold hms
  rw [hA, hB, hC]
  rw [hA] at h1
  rw [hB] at h2
  rw [hC] at h3
  clear e1 e2 e3 e4 w1 w2 hA hB hC h ha
  go_enter Tryd.func30, Tryd.ntmps30
  go_wp2_with (first | (go_at_call 29; first | (with_reducible refine (h1 _).mono ?_; rintro e w' ⟨rfl, ⟨n1, rfl⟩⟩) | (with_reducible refine (h2 _).mono ?_; rintro e w' ⟨rfl, ⟨n2, rfl⟩⟩) | (with_reducible refine (h3 _).mono ?_; rintro e w' ⟨rfl, ⟨n3, rfl⟩⟩)))
  go_ret
  exact ⟨rfl, by repeat (first | exact Drawn0.refl _ | apply Drawn0.step)⟩
set_option maxHeartbeats 4000000 in
theorem rstamp_ok (k k2 k3 : Nat) (t o D s y m d : Int) (Y : ByteArray) (mn_ dn_ sn_ : Nat) (hS : belvedereref05_Split.f k t o = some (D, s, 0)) (hO : belvedereref04_Of.f k2 D = some (y, m, d)) (hm : m = (mn_ : Int)) (hm1 : mn_ < 100) (hd : d = (dn_ : Int)) (hd1 : dn_ < 100) (hs : s = (sn_ : Int)) (hs1 : sn_ < 360000)
    (hI : belvedereref05_digits.f k3 y 1 = some Y) (hY : Y.size ≤ 21) (w : World) :
    Calls Tryd.prog 14 #[.int .i64 t, .int .i64 o] w fun e w' => e = .returned (.tuple #[.string (stampB Y mn_ dn_ sn_), .int .i64 0]) ∧ Below w.heap.size w w' := by
  have hu58 := Tryd.underlying58
  have HB := Aside0.mk (Below.refl w.heap.size w)
  have HS := Aside0.mk hS
  have HO := Aside0.mk hO
  have HI := Aside0.mk (fun W => belvedereref05_digits.calls k3 y 1 Y W hI)
  have HM := Aside0.mk (dig2_walk m mn_ hm hm1)
  have HD := Aside0.mk (dig2_walk d dn_ hd hd1)
  have HT := Aside0.mk (rtext_walk s sn_ hs hs1)
  obtain ⟨A, hA⟩ : ∃ x, d2 mn_ = x := ⟨_, rfl⟩
  obtain ⟨B, hB⟩ : ∃ x, d2 dn_ = x := ⟨_, rfl⟩
  obtain ⟨C, hC⟩ : ∃ x, hms (sn_ / 3600) (sn_ / 60 % 60) (sn_ % 60) = x := ⟨_, rfl⟩
  have zA : A.size = 2 := by rw [← hA]; rfl
  have zB : B.size = 2 := by rw [← hB]; rfl
  have zC : C.size = 8 := by rw [← hC]; rfl
  unfold stampB
  rw [hA, hB, hC]
  rw [hA] at HM
  rw [hB] at HD
  rw [hC] at HT
  clear hS hO hm hm1 hd hd1 hs hs1 hI hA hB hC
  have k0_ : (Y.size + 1 ≤ 9223372036854775807) = True := eq_true (by omega)
  have l0_ : (9223372036854775807 < Y.size + 1) = False := eq_false (by omega)
  have k1_ : (Y.size + 1 + A.size ≤ 9223372036854775807) = True := eq_true (by omega)
  have l1_ : (9223372036854775807 < Y.size + 1 + A.size) = False := eq_false (by omega)
  have k2_ : (Y.size + 1 + A.size + 1 ≤ 9223372036854775807) = True := eq_true (by omega)
  have l2_ : (9223372036854775807 < Y.size + 1 + A.size + 1) = False := eq_false (by omega)
  have k3_ : (Y.size + 1 + A.size + 1 + B.size ≤ 9223372036854775807) = True := eq_true (by omega)
  have l3_ : (9223372036854775807 < Y.size + 1 + A.size + 1 + B.size) = False := eq_false (by omega)
  have k4_ : (Y.size + 1 + A.size + 1 + B.size + 1 ≤ 9223372036854775807) = True := eq_true (by omega)
  have l4_ : (9223372036854775807 < Y.size + 1 + A.size + 1 + B.size + 1) = False := eq_false (by omega)
  have k5_ : (Y.size + 1 + A.size + 1 + B.size + 1 + C.size ≤ 9223372036854775807) = True := eq_true (by omega)
  have l5_ : (9223372036854775807 < Y.size + 1 + A.size + 1 + B.size + 1 + C.size) = False := eq_false (by omega)
  clear zA zB zC hY
  go_enter Tryd.func14, Tryd.ntmps14
  go_upto_region 4 with (first | ((with_reducible refine gate_callee (f := 16) rfl ?_); refine goesL_ (some 13) rfl rfl Tryd.func16 (by kernel_rfl) rfl #[.int .i64 t, .int .i64 o] rfl (by (try simp only [List.map_toArray, List.map_cons, List.map_nil]); first | done | rfl) ?_; (with_reducible refine (belvedereref05_Split.calls k t o D s 0 _ HS.out).mono ?_); rintro e_ w5 ⟨rfl, ⟨nd, rfl⟩⟩; refine ⟨_, rfl, ?_⟩; have n0_ := Aside0.mk (pw_below_drewN (by repeat (first | (with_reducible first | exact HB.out | apply below_alloc | apply pw_below_drewN | apply below_drew1) | exact HB.out)) nd); clear HB; have HB := n0_; clear n0_))
  go_cut [9] (fun v9 wc => ∃ g8 : Nat, v9 = .pointer (some ⟨g8, 0, none⟩) ∧ Aside0 (wc.heap[g8]? = some (.cells #[.int .i64 y, .int .i64 m, .int .i64 d] 58 (0, 0))) ∧ Aside0 (Below w.heap.size w wc))
  case first =>
    go_wp2_with (first | ((with_reducible refine gate_callee (f := 28) rfl ?_); refine goesL_ (some 21) rfl rfl Tryd.func28 (by kernel_rfl) rfl #[.int .i64 D] rfl (by (try simp only [List.map_toArray, List.map_cons, List.map_nil]); first | done | rfl) ?_; (with_reducible refine (belvedereref04_Of.calls k2 D y m d _ HO.out).mono ?_); rintro e_ w7 ⟨rfl, hb⟩; refine ⟨_, rfl, ?_⟩; have n0_ := Aside0.mk (below_step (by repeat (first | (with_reducible first | exact HB.out | apply below_alloc | apply pw_below_drewN | apply below_drew1) | exact HB.out)) hb); clear HB; have HB := n0_; clear n0_ hb; (try simp only [errW_none, errW_some])) | ((with_reducible refine gate_dst (N := 9) rfl ?_); refine box_event ?hg (N := 9) ?hd (cs := #[.int .i64 0, .int .i64 0, .int .i64 0]) (t := 58) ?hr ?_; (case hd => rfl); (case hg => rfl); (case hr => first | (go_simp; done) | (go_simp; rfl)); intro gb9 hg w8 hbox hb; have n0_ := Aside0.mk (below_step (by repeat (first | (with_reducible first | exact HB.out | apply below_alloc | apply pw_below_drewN | apply below_drew1) | exact HB.out)) hb); have BKgb9 := Aside0.mk (hbox); have GEgb9 := Aside0.mk ((by rw [hg]; exact (below_size (by repeat (first | (with_reducible first | exact HB.out | apply below_alloc | apply pw_below_drewN | apply below_drew1) | exact HB.out))) : w.heap.size ≤ gb9)); clear HB; have HB := n0_; clear n0_; clear hb hbox hg; have hczgb9_0 : w8.cell? ⟨gb9, 0, none⟩ = some (.int .i64 0) := (blk_cell BKgb9.out 0).trans rfl; have hczgb9_1 : w8.cell? ⟨gb9, 1, none⟩ = some (.int .i64 0) := (blk_cell BKgb9.out 1).trans rfl; have hczgb9_2 : w8.cell? ⟨gb9, 2, none⟩ = some (.int .i64 0) := (blk_cell BKgb9.out 2).trans rfl; have hfzgb9_0 := blk_frozen BKgb9.out 0; have hfzgb9_1 := blk_frozen BKgb9.out 1; have hfzgb9_2 := blk_frozen BKgb9.out 2))
    go_meet
    case rel => exact ⟨_, rfl, ⟨by (with_reducible repeat (first | refine blk_drewN ?_ _ | refine blk_drew ?_ | refine blk_alloc ?_ _)); refine blk_put (cs := #[.int .i64 y, .int .i64 m, .int .i64 0]) ?_ 2 _ rfl; (with_reducible repeat (first | refine blk_drewN ?_ _ | refine blk_drew ?_ | refine blk_alloc ?_ _)); refine blk_put (cs := #[.int .i64 y, .int .i64 0, .int .i64 0]) ?_ 1 _ rfl; (with_reducible repeat (first | refine blk_drewN ?_ _ | refine blk_drew ?_ | refine blk_alloc ?_ _)); refine blk_put (cs := #[.int .i64 0, .int .i64 0, .int .i64 0]) ?_ 0 _ rfl; (with_reducible repeat (first | refine blk_drewN ?_ _ | refine blk_drew ?_ | refine blk_alloc ?_ _)); exact BKgb9.out⟩, ⟨(by repeat (first | (with_reducible first | exact HB.out | apply below_alloc | apply pw_below_drewN | apply below_drew1 | refine below_set ?_ GEgb9.out) | exact HB.out))⟩⟩
  clear HB
  obtain ⟨g8, rfl, BK8, HB⟩ := hcut
  go_upto_region 5 with (fail)
  have HX := Aside0.mk (fun W (hb : Below wc.heap.size wc W) => (⟨hb, (blk_cell (blk_below BK8.out hb) 0).trans rfl, (blk_cell (blk_below BK8.out hb) 1).trans rfl, (blk_cell (blk_below BK8.out hb) 2).trans rfl⟩ : Below wc.heap.size wc W ∧ W.cell? ⟨g8, 0, none⟩ = some (.int .i64 y) ∧ W.cell? ⟨g8, 1, none⟩ = some (.int .i64 m) ∧ W.cell? ⟨g8, 2, none⟩ = some (.int .i64 d)))
  go_region_held3 (fun W => Below wc.heap.size wc W ∧ W.cell? ⟨g8, 0, none⟩ = some (.int .i64 y) ∧ W.cell? ⟨g8, 1, none⟩ = some (.int .i64 m) ∧ W.cell? ⟨g8, 2, none⟩ = some (.int .i64 d)) (exact HX.out _ (by repeat (first | exact Below.refl _ _ | assumption | (exact And.left (by assumption)) | apply below_alloc | apply pw_below_drewN | apply below_drew1 | (refine below_step ?_ (by assumption))))) (first | (go_at_call 29; first | (with_reducible refine (HI.out _).mono ?_; rintro e_ wx ⟨rfl, ⟨m1, rfl⟩⟩) | (with_reducible refine (HM.out _).mono ?_; rintro e_ wx ⟨rfl, ⟨m2, rfl⟩⟩) | (with_reducible refine (HD.out _).mono ?_; rintro e_ wx ⟨rfl, ⟨m3, rfl⟩⟩)) | (go_at_call 30; (with_reducible refine (HT.out _).mono ?_); rintro e_ wx ⟨rfl, ⟨m4, rfl⟩⟩))
  all_goals (obtain ⟨HBw, -⟩ := ‹Below wc.heap.size wc _ ∧ _›)
  all_goals go_wp2
  all_goals go_ret2
  all_goals exact ⟨rfl, below_step HB.out HBw⟩
theorem rstamp_bad (k : Nat) (t o D s : Int) (hS : belvedereref05_Split.f k t o = some (D, s, 1)) (w : World) :
    Calls Tryd.prog 14 #[.int .i64 t, .int .i64 o] w fun e w' => e = .returned (.tuple #[.string ⟨#[]⟩, .int .i64 1]) ∧ Below w.heap.size w w' := by
  have HB := Aside0.mk (Below.refl w.heap.size w)
  have HS := Aside0.mk hS
  clear hS
  go_enter Tryd.func14, Tryd.ntmps14
  go_wp2_with (first | ((with_reducible refine gate_callee (f := 16) rfl ?_); refine goesL_ (some 13) rfl rfl Tryd.func16 (by kernel_rfl) rfl #[.int .i64 t, .int .i64 o] rfl (by (try simp only [List.map_toArray, List.map_cons, List.map_nil]); first | done | rfl) ?_; (with_reducible refine (belvedereref05_Split.calls k t o D s 1 _ HS.out).mono ?_); rintro e_ w5 ⟨rfl, ⟨nd, rfl⟩⟩; refine ⟨_, rfl, ?_⟩; have n0_ := Aside0.mk (pw_below_drewN (by repeat (first | (with_reducible first | exact HB.out | apply below_alloc | apply pw_below_drewN | apply below_drew1) | exact HB.out)) nd); clear HB; have HB := n0_; clear n0_))
  go_ret2
  exact ⟨rfl, HB.out⟩
/-- The document's Stamp answers as the program's. -/
def belvedereref05_Stamp.f (a0 a1 : Int) : Option (ByteArray × Int) := (clock_Stamp.f a0 a1).bind fun b => some (b.1, b.2.getD 0)
def belvedereref05_Text.f (a0 : Int) : Option ByteArray := clock_text.f a0
theorem belvedereref05_Text.calls (a0 : Int) (r : ByteArray) (w : World) (h : belvedereref05_Text.f a0 = some r) :
    Calls Tryd.prog 30 #[.int .i64 a0] w fun e w' => e = .returned (.string r) ∧ Below w.heap.size w w' := by
  unfold belvedereref05_Text.f clock_text.f at h
  by_cases h0 : 0 ≤ a0
  · by_cases h1 : a0 < 360000
    · rw [if_pos h0, if_pos h1] at h
      obtain rfl := Option.some.inj h
      exact (rtext_walk _ a0.toNat (by omega) (by omega) w).mono fun e w' ⟨he, ⟨n, hw⟩⟩ => ⟨he, by rw [hw]; exact pw_below_drewN (Below.refl _ _) n⟩
    · rw [if_pos h0, if_neg h1] at h; cases h
  · rw [if_neg h0] at h; cases h
theorem stamps_of (t o : Int) (w : World) : ∃ x e, clock_Stamp.f t o = some (x, e) ∧ Calls Tryd.prog 14 #[.int .i64 t, .int .i64 o] w fun e_ w' => e_ = .returned (.tuple #[.string x, .int .i64 (e.getD 0)]) ∧ Below w.heap.size w w' := by
  by_cases h : 0 ≤ t ∧ t ≤ 4611686018427387904 ∧ -50400 ≤ o ∧ o ≤ 50400
  · obtain ⟨h0, h1, h2, h3⟩ := h
    have s1 := PClk.split_in t o h0 h1 h2 h3
    have s2 := PClk.ref_split t o h0 h1 h2 h3
    obtain ⟨D, hD⟩ : ∃ D, (t + o) / 86400 = D := ⟨_, rfl⟩
    obtain ⟨s, hs⟩ : ∃ s : Nat, (t + o) % 86400 = (s : Int) := ⟨((t + o) % 86400).toNat, by omega⟩
    have hs2 : s < 86400 := by omega
    have D0 : -1 ≤ D := by omega
    have D1 : D ≤ 54000000000000 := by omega
    rw [hD, hs] at s1 s2
    clear hD hs h0 h1 h2 h3
    obtain ⟨y, m, d, ho, m0, m1, d0, d1, hy, hy2, hr⟩ := PClk.date_ev D (by omega) D1
    have hy1 := hy D0
    obtain ⟨n, rfl⟩ : ∃ n : Nat, y = (n : Int) := ⟨y.toNat, by omega⟩
    have hI := PClk.itoa_nat n (by omega)
    have hz := itoa_size _ _ hI
    obtain ⟨k3, hg⟩ := Ev.rounds (PClk.dig_ev n (by omega) (by omega))
    obtain ⟨k2, hr2⟩ := Ev.rounds hr
    refine ⟨stampB ⟨(Lib.decDigits n).toArray⟩ m d s, none, ?_, ?_⟩
    · unfold clock_Stamp.f
      simp only [s1, Option.bind_some, ho]
      unfold stampIn
      rw [if_pos (by omega), hI, Option.bind_some, Int.toNat_natCast, Int.toNat_natCast, Int.toNat_natCast]
    · exact rstamp_ok 1 k2 k3 t o D (s : Int) (n : Int) (m : Int) (d : Int) _ m d s s2 hr2 rfl (by omega) rfl (by omega) rfl (by omega) hg hz w
  · obtain ⟨s1, s2⟩ := PClk.split_bad t o h
    refine ⟨⟨#[]⟩, some 1, ?_, rstamp_bad 1 t o 0 0 s2 w⟩
    unfold clock_Stamp.f
    simp only [s1, Option.bind_some]
theorem belvedereref05_Stamp.calls (a0 a1 : Int) (r1 : ByteArray) (r2 : Int) (w : World) (h : belvedereref05_Stamp.f a0 a1 = some (r1, r2)) :
    Calls Tryd.prog 14 #[.int .i64 a0, .int .i64 a1] w fun e w' => e = .returned (.tuple #[.string r1, .int .i64 r2]) ∧ Below w.heap.size w w' := by
  obtain ⟨x, e, hx, hc⟩ := stamps_of a0 a1 w
  unfold belvedereref05_Stamp.f at h
  rw [hx, Option.bind_some] at h
  simp only [Option.some.injEq, Prod.mk.injEq] at h
  obtain ⟨rfl, rfl⟩ := h
  exact hc
end Go.Proofs.YtegiikkbeknodaaDoor.P
