/- The contract of rule.numbers: the first three numbers of a text. -/
import Derived.Test.YtpagbmkdphdjoaaGreatDoorPack
import Derived.Test.YtpagbmkdphdjoaaGreatDoorRuCut
import Derived.Great.Walk
namespace Go.Proofs.YtpagbmkdphdjoaaGreatDoor.P
open Go.RowKit Go.Proofs.YtpagbmkdphdjoaaGreatDoorW.PrintWords Go.Proofs.YtpagbmkdphdjoaaGreatDoorW.PrintLast Go.Proofs.YtpagbmkdphdjoaaGreatDoorW.PrintMore
attribute [local go_sem] max2_int min2_int max_two min_two max_three min_three max_four min_four
set_option linter.unusedVariables false
set_option linter.unusedSimpArgs false
/-- The number of a part; 0, if there is none. -/
def nv (ps : List ByteArray) (j : Nat) : Int := match ps[j]? with
  | some p => atoiV p.data.toList
  | none => 0
/-- The place j behind i rounds. -/
def cv (s sep : ByteArray) (j i : Nat) : Int := if j < i then nv (parts s sep) j else 0
theorem cv_step (s sep : ByteArray) (j i : Nat) (h : j ≠ i) : cv s sep j (i + 1) = cv s sep j i := by
  unfold cv
  by_cases h1 : j < i
  · rw [if_pos h1, if_pos (by omega)]
  · rw [if_neg h1, if_neg (by omega)]
theorem cv_new (s sep : ByteArray) (i : Nat) (p : ByteArray) (h : (parts s sep)[i]? = some p) : cv s sep i (i + 1) = atoiV p.data.toList := by
  unfold cv nv
  rw [if_pos (by omega), h]
theorem cv_end (s sep : ByteArray) (j : Nat) : cv s sep j (parts s sep).length = nv (parts s sep) j := by
  unfold cv
  by_cases h : j < (parts s sep).length
  · rw [if_pos h]
  · rw [if_neg h]
    unfold nv
    rw [List.getElem?_eq_none (by omega)]
theorem part_size : ∀ (k : Nat) (s sep : ByteArray), ∀ p ∈ Lib.splitB sep 0 k s, p.size ≤ s.size := by
  intro k
  induction k with
  | zero => intro s sep p hp; rw [List.mem_singleton.mp hp]; exact Nat.le_refl _
  | succ k ih =>
    intro s sep p hp
    unfold Lib.splitB at hp
    split at hp
    · rw [List.mem_singleton.mp hp]; exact Nat.le_refl _
    · rcases List.mem_cons.mp hp with rfl | hp
      · simp [ByteArray.size_extract]; omega
      · have h := ih _ sep p hp
        have h2 : (s.extract ((Lib.indexB s sep).toNat + sep.size) s.size).size ≤ s.size := by simp [ByteArray.size_extract]
        omega
set_option maxHeartbeats 4000000 in
theorem numbers_walk (s sep : ByteArray) (hs : s.size < 4294967281) (h1 : 1 ≤ sep.size) (w : World) (hG : GL w) :
    Calls Tryz.prog 50 #[.string s, .string sep] w fun e w' => e = .returned (.agg #[.int .i64 (nv (parts s sep) 0), .int .i64 (nv (parts s sep) 1), .int .i64 (nv (parts s sep) 2)]) ∧ Below w.heap.size w w' := by
  have hu := Tryz.underlying70
  have HSP := As (fun W (hb : Below w.heap.size w W) => split_walk s sep hs h1 W (hG.below hb))
  have HAT := As (fun (p : ByteArray) (hp : p ∈ parts s sep) W (hb : Below w.heap.size w W) => atoi_any p (by have := part_size _ s sep p hp; omega) W (hG.below hb))
  have HB := As (Below.refl w.heap.size w)
  have HE := As (fun j => cv_end s sep j)
  have HLN := As (show (parts s sep).length ≤ 4294967300 from by have := Lib.splitB_length_le sep 0 (Lib.countB s sep) s; have := Lib.countB_le sep h1 s.size s (Nat.le_refl _); unfold parts; omega)
  clear hG hs h1
  go_enter Tryz.func50, Tryz.ntmps50
  go_upto_region 2 with (first | ((with_reducible refine gate_dst (N := 4) rfl ?_); refine box_event ?hg (N := 4) ?hd (cs := #[.int .i64 0, .int .i64 0, .int .i64 0]) (t := 70) ?hr ?_; (case hd => rfl); (case hg => rfl); (case hr => first | (go_simp; done) | (go_simp; rfl)); intro g4 hg w4 hbox hb; have n0_ := As (XT (be HB.out) hb); have BKg4 := As hbox; have GEg4 := As ((gz hg (be HB.out) : w.heap.size ≤ g4)); clear HB; have HB := n0_; clear n0_ hb hbox hg) | ((with_reducible refine gate_dst (N := 5) rfl ?_); refine box_event ?hg (N := 5) ?hd (cs := #[.int .i64 0, .int .i64 0, .int .i64 0]) (t := 70) ?hr ?_; (case hd => rfl); (case hg => rfl); (case hr => first | (go_simp; done) | (go_simp; rfl)); intro g5 hg w5 hbox hb; have NE45 := As ((by rw [hg]; exact Nat.ne_of_lt (blk_lt (g := g4) (o := .cells #[.int .i64 0, .int .i64 0, .int .i64 0] 70 (0, 0)) (by first | exact BKg4.out | ((with_reducible repeat (first | refine YN ?_ _ | refine YD ?_ | refine YA ?_ _)); exact BKg4.out))) : g4 ≠ g5)); have BK4n := As (YB (g := g4) (o := .cells #[.int .i64 0, .int .i64 0, .int .i64 0] 70 (0, 0)) (by first | exact BKg4.out | ((with_reducible repeat (first | refine YN ?_ _ | refine YD ?_ | refine YA ?_ _)); exact BKg4.out)) hb); clear BKg4; have BKg4 := BK4n; clear BK4n; have n0_ := As (XT (be HB.out) hb); have BKg5 := As hbox; have GEg5 := As ((gz hg (be HB.out) : w.heap.size ≤ g5)); clear HB; have HB := n0_; clear n0_ hb hbox hg))
  go_wp2_with (go_at_call 59; (with_reducible refine (HSP.out _ ?hbz).mono ?_); (case hbz => exact (be HB.out)); rintro e_ wq ⟨rfl, hw⟩; obtain ⟨gp, hgp⟩ : ∃ gp, gp = w5.heap.size := ⟨_, rfl⟩; have BKP := As (show wq.heap[gp]? = some (.cells ((parts s sep).map Value.string).toArray 9 (0, 0)) by rw [hw, hgp]; first | exact heap_alloc_new _ _ | simp [World.alloc]); have NE5P := As (show g5 ≠ gp by rw [hgp]; exact Nat.ne_of_lt (blk_lt BKg5.out)); have NE4P := As (show g4 ≠ gp by rw [hgp]; exact Nat.ne_of_lt (blk_lt BKg4.out)); have BK5n := As (show wq.heap[g5]? = some (.cells #[.int .i64 0, .int .i64 0, .int .i64 0] 70 (0, 0)) by rw [hw]; exact YA BKg5.out _); have BK4n := As (show wq.heap[g4]? = some (.cells #[.int .i64 0, .int .i64 0, .int .i64 0] 70 (0, 0)) by rw [hw]; exact YA BKg4.out _); have n0_ := As (show Below w.heap.size w wq by rw [hw]; exact XA HB.out _); rw [← hgp]; clear HB hw BKg5 BKg4 hgp; have HB := n0_; have BKg5 := BK5n; have BKg4 := BK4n; clear n0_ BK5n BK4n)
  obtain ⟨n, hn⟩ : ∃ n, (parts s sep).length = n := ⟨_, rfl⟩
  rw [hn]
  have HN := As hn
  clear hn
  go_loopg [12] n (fun kq v12 w' => ∃ i : Nat, v12 = .int .i64 (i : Int) ∧ kq + i = n ∧ Aside0 (w'.heap[g5]? = some (.cells #[.int .i64 (cv s sep 0 i), .int .i64 (cv s sep 1 i), .int .i64 (cv s sep 2 i)] 70 (0, 0))) ∧ Aside0 (w'.heap[g4]? = some (.cells #[.int .i64 0, .int .i64 0, .int .i64 0] 70 (0, 0))) ∧ Aside0 (w'.heap[gp]? = some (.cells ((parts s sep).map Value.string).toArray 9 (0, 0))) ∧ Aside0 (Below w.heap.size w w'))
  case atStart => exact ⟨0, rfl, rfl, BKg5, BKg4, BKP, HB⟩
  case round =>
    clear HB BKP BKg5 BKg4
    obtain ⟨i, rfl, hk, BK5, BK4, BKP, HB⟩ := hrel
    have hln := HLN.out
    rw [HN.out] at hln
    have e1 : wrap64 ((i : Int) + 1) = ((i + 1 : Nat) : Int) := by unfold wrap64; omega
    have E1 := As e1
    clear e1
    by_cases hi : i < n
    · have d1 : decide ((i : Int) < (n : Int)) = true := dY (by omega)
      have d2 : decide (i < n) = true := dY hi
      have p1 : (0 : Int) ≤ (i : Int) := Int.natCast_nonneg _
      have p2 : (i : Int) < (n : Int) := by omega
      have hil : i < (parts s sep).length := by rw [HN.out]; exact hi
      obtain ⟨p, hp⟩ : ∃ p, (parts s sep)[i] = p := ⟨_, rfl⟩
      have hpp : (parts s sep)[i]? = some p := by rw [List.getElem?_eq_getElem hil, hp]
      have q0 : wr.cell? ⟨gp, i, none⟩ = some (.string p) := (blk_cell BKP.out i).trans (by simp [hpp])
      have HA := As (HAT.out p (by rw [← hp]; exact List.getElem_mem hil))
      have HP := As hpp
      clear hpp hp hil hln
      by_cases h3 : i < 3
      · have d3 : decide ((i : Int) < 3) = true := dY (by omega)
        have hc : i = 0 ∨ i = 1 ∨ i = 2 := by omega
        clear d1 d2 p1 p2 d3
        rcases hc with rfl | rfl | rfl
        · have d1 : decide ((0 : Int) < (n : Int)) = true := dY (by omega)
          have d2 : decide (0 < n) = true := dY hi
          have p2 : (0 : Int) < (n : Int) := by omega
          go_wp2_with (go_at_call 60; (with_reducible refine (HA.out _ ?hbz).mono ?_); (case hbz => exact (be HB.out)); rintro e_ w2 ⟨E, rfl, hb⟩; have BK5n := As (YB (g := g5) (o := .cells #[.int .i64 (cv s sep 0 0), .int .i64 (cv s sep 1 0), .int .i64 (cv s sep 2 0)] 70 (0, 0)) (by first | exact BK5.out | ((with_reducible repeat (first | refine YN ?_ _ | refine YD ?_ | refine YA ?_ _)); exact BK5.out)) hb); have BK4n := As (YB (g := g4) (o := .cells #[.int .i64 0, .int .i64 0, .int .i64 0] 70 (0, 0)) (by first | exact BK4.out | ((with_reducible repeat (first | refine YN ?_ _ | refine YD ?_ | refine YA ?_ _)); exact BK4.out)) hb); have BKPn := As (YB (g := gp) (o := .cells ((parts s sep).map Value.string).toArray 9 (0, 0)) (by first | exact BKP.out | ((with_reducible repeat (first | refine YN ?_ _ | refine YD ?_ | refine YA ?_ _)); exact BKP.out)) hb); have n0_ := As (XT (be HB.out) hb); clear HB BK5 BK4 BKP hb; have HB := n0_; have BK5 := BK5n; have BK4 := BK4n; have BKP := BKPn; clear n0_ BK5n BK4n BKPn; have c5 := (blk_cell BK5.out 0).trans rfl; have f5 := blk_frozen BK5.out 0)
          go_roundg (n - 1)
          case measure => omega
          case rel => exact ⟨1, by first | rfl | (simp; done), by omega, ⟨by rw [cv_step s sep 1 0 (by decide), cv_step s sep 2 0 (by decide), cv_new s sep 0 p HP.out]; (with_reducible repeat (first | refine YN ?_ _ | refine YD ?_ | refine YA ?_ _)); refine blk_put (cs := #[.int .i64 (cv s sep 0 0), .int .i64 (cv s sep 1 0), .int .i64 (cv s sep 2 0)]) ?_ 0 _ rfl; (with_reducible repeat (first | refine YN ?_ _ | refine YD ?_ | refine YA ?_ _)); exact BK5.out⟩, ⟨by (with_reducible repeat (first | refine YN ?_ _ | refine YD ?_ | refine YA ?_ _)); refine blk_far ?_ NE45.out _; (with_reducible repeat (first | refine YN ?_ _ | refine YD ?_ | refine YA ?_ _)); exact BK4.out⟩, ⟨by (with_reducible repeat (first | refine YN ?_ _ | refine YD ?_ | refine YA ?_ _)); refine blk_far ?_ (Ne.symm NE5P.out) _; (with_reducible repeat (first | refine YN ?_ _ | refine YD ?_ | refine YA ?_ _)); exact BKP.out⟩, ⟨(be HB.out)⟩⟩
        · have d1 : decide ((1 : Int) < (n : Int)) = true := dY (by omega)
          have d2 : decide (1 < n) = true := dY hi
          have p2 : (1 : Int) < (n : Int) := by omega
          go_wp2_with (go_at_call 60; (with_reducible refine (HA.out _ ?hbz).mono ?_); (case hbz => exact (be HB.out)); rintro e_ w2 ⟨E, rfl, hb⟩; have BK5n := As (YB (g := g5) (o := .cells #[.int .i64 (cv s sep 0 1), .int .i64 (cv s sep 1 1), .int .i64 (cv s sep 2 1)] 70 (0, 0)) (by first | exact BK5.out | ((with_reducible repeat (first | refine YN ?_ _ | refine YD ?_ | refine YA ?_ _)); exact BK5.out)) hb); have BK4n := As (YB (g := g4) (o := .cells #[.int .i64 0, .int .i64 0, .int .i64 0] 70 (0, 0)) (by first | exact BK4.out | ((with_reducible repeat (first | refine YN ?_ _ | refine YD ?_ | refine YA ?_ _)); exact BK4.out)) hb); have BKPn := As (YB (g := gp) (o := .cells ((parts s sep).map Value.string).toArray 9 (0, 0)) (by first | exact BKP.out | ((with_reducible repeat (first | refine YN ?_ _ | refine YD ?_ | refine YA ?_ _)); exact BKP.out)) hb); have n0_ := As (XT (be HB.out) hb); clear HB BK5 BK4 BKP hb; have HB := n0_; have BK5 := BK5n; have BK4 := BK4n; have BKP := BKPn; clear n0_ BK5n BK4n BKPn; have c5 := (blk_cell BK5.out 1).trans rfl; have f5 := blk_frozen BK5.out 1)
          go_roundg (n - 2)
          case measure => omega
          case rel => exact ⟨2, by first | rfl | (simp; done), by omega, ⟨by rw [cv_step s sep 0 1 (by decide), cv_step s sep 2 1 (by decide), cv_new s sep 1 p HP.out]; (with_reducible repeat (first | refine YN ?_ _ | refine YD ?_ | refine YA ?_ _)); refine blk_put (cs := #[.int .i64 (cv s sep 0 1), .int .i64 (cv s sep 1 1), .int .i64 (cv s sep 2 1)]) ?_ 1 _ rfl; (with_reducible repeat (first | refine YN ?_ _ | refine YD ?_ | refine YA ?_ _)); exact BK5.out⟩, ⟨by (with_reducible repeat (first | refine YN ?_ _ | refine YD ?_ | refine YA ?_ _)); refine blk_far ?_ NE45.out _; (with_reducible repeat (first | refine YN ?_ _ | refine YD ?_ | refine YA ?_ _)); exact BK4.out⟩, ⟨by (with_reducible repeat (first | refine YN ?_ _ | refine YD ?_ | refine YA ?_ _)); refine blk_far ?_ (Ne.symm NE5P.out) _; (with_reducible repeat (first | refine YN ?_ _ | refine YD ?_ | refine YA ?_ _)); exact BKP.out⟩, ⟨(be HB.out)⟩⟩
        · have d1 : decide ((2 : Int) < (n : Int)) = true := dY (by omega)
          have d2 : decide (2 < n) = true := dY hi
          have p2 : (2 : Int) < (n : Int) := by omega
          go_wp2_with (go_at_call 60; (with_reducible refine (HA.out _ ?hbz).mono ?_); (case hbz => exact (be HB.out)); rintro e_ w2 ⟨E, rfl, hb⟩; have BK5n := As (YB (g := g5) (o := .cells #[.int .i64 (cv s sep 0 2), .int .i64 (cv s sep 1 2), .int .i64 (cv s sep 2 2)] 70 (0, 0)) (by first | exact BK5.out | ((with_reducible repeat (first | refine YN ?_ _ | refine YD ?_ | refine YA ?_ _)); exact BK5.out)) hb); have BK4n := As (YB (g := g4) (o := .cells #[.int .i64 0, .int .i64 0, .int .i64 0] 70 (0, 0)) (by first | exact BK4.out | ((with_reducible repeat (first | refine YN ?_ _ | refine YD ?_ | refine YA ?_ _)); exact BK4.out)) hb); have BKPn := As (YB (g := gp) (o := .cells ((parts s sep).map Value.string).toArray 9 (0, 0)) (by first | exact BKP.out | ((with_reducible repeat (first | refine YN ?_ _ | refine YD ?_ | refine YA ?_ _)); exact BKP.out)) hb); have n0_ := As (XT (be HB.out) hb); clear HB BK5 BK4 BKP hb; have HB := n0_; have BK5 := BK5n; have BK4 := BK4n; have BKP := BKPn; clear n0_ BK5n BK4n BKPn; have c5 := (blk_cell BK5.out 2).trans rfl; have f5 := blk_frozen BK5.out 2)
          go_roundg (n - 3)
          case measure => omega
          case rel => exact ⟨3, by first | rfl | (simp; done), by omega, ⟨by rw [cv_step s sep 0 2 (by decide), cv_step s sep 1 2 (by decide), cv_new s sep 2 p HP.out]; (with_reducible repeat (first | refine YN ?_ _ | refine YD ?_ | refine YA ?_ _)); refine blk_put (cs := #[.int .i64 (cv s sep 0 2), .int .i64 (cv s sep 1 2), .int .i64 (cv s sep 2 2)]) ?_ 2 _ rfl; (with_reducible repeat (first | refine YN ?_ _ | refine YD ?_ | refine YA ?_ _)); exact BK5.out⟩, ⟨by (with_reducible repeat (first | refine YN ?_ _ | refine YD ?_ | refine YA ?_ _)); refine blk_far ?_ NE45.out _; (with_reducible repeat (first | refine YN ?_ _ | refine YD ?_ | refine YA ?_ _)); exact BK4.out⟩, ⟨by (with_reducible repeat (first | refine YN ?_ _ | refine YD ?_ | refine YA ?_ _)); refine blk_far ?_ (Ne.symm NE5P.out) _; (with_reducible repeat (first | refine YN ?_ _ | refine YD ?_ | refine YA ?_ _)); exact BKP.out⟩, ⟨(be HB.out)⟩⟩
      · have d3 : decide ((i : Int) < 3) = false := dN (by omega)
        have H3 := As h3
        clear h3
        go_wp2
        go_roundg (n - (i + 1))
        case measure => omega
        case rel => exact ⟨i + 1, by first | rfl | (rw [E1.out]) | (simp; done), by omega, ⟨by rw [cv_step s sep 0 i (by have := H3.out; omega), cv_step s sep 1 i (by have := H3.out; omega), cv_step s sep 2 i (by have := H3.out; omega)]; (with_reducible repeat (first | refine YN ?_ _ | refine YD ?_ | refine YA ?_ _)); exact BK5.out⟩, ⟨by (with_reducible repeat (first | refine YN ?_ _ | refine YD ?_ | refine YA ?_ _)); exact BK4.out⟩, ⟨by (with_reducible repeat (first | refine YN ?_ _ | refine YD ?_ | refine YA ?_ _)); exact BKP.out⟩, ⟨(be HB.out)⟩⟩
    · have e2 : i = n := by omega
      have d1 : decide ((i : Int) < (n : Int)) = false := dN (by omega)
      have d2 : decide (i < n) = false := dN hi
      have EN := As (show i = (parts s sep).length by rw [HN.out]; exact e2)
      have c50 := (blk_cell BK5.out 0).trans rfl
      have c51 := (blk_cell BK5.out 1).trans rfl
      have c52 := (blk_cell BK5.out 2).trans rfl
      have f40 := blk_frozen BK4.out 0
      have f41 := blk_frozen BK4.out 1
      have f42 := blk_frozen BK4.out 2
      have c40 := (blk_cell BK4.out 0).trans rfl
      have c41 := (blk_cell BK4.out 1).trans rfl
      have c42 := (blk_cell BK4.out 2).trans rfl
      clear e2 hln
      go_wp2
      refine bodyPost_ret (v := .agg #[.int .i64 (cv s sep 0 i), .int .i64 (cv s sep 1 i), .int .i64 (cv s sep 2 i)]) ?_ rfl ?_
      · have hres : Tryz.f50.results = #[.cell 4 70] := rfl
        unfold results
        rw [hres]
        go_simp
      · exact ⟨by rw [EN.out, HE.out, HE.out, HE.out], (be HB.out)⟩
def rule_numbers.f (a0 a1 : ByteArray) : Option (Int × Int × Int) := if a0.size < 4294967281 ∧ 1 ≤ a1.size then some (nv (parts a0 a1) 0, nv (parts a0 a1) 1, nv (parts a0 a1) 2) else none
theorem rule_numbers.calls (a0 a1 : ByteArray) (r1 r2 r3 : Int) (w : World) (h : rule_numbers.f a0 a1 = some (r1, r2, r3)) (hG : GL w) :
    Calls Tryz.prog 50 #[.string a0, .string a1] w fun e w' => e = .returned (.agg #[.int .i64 r1, .int .i64 r2, .int .i64 r3]) ∧ Below w.heap.size w w' := by
  unfold rule_numbers.f at h
  split at h
  case isFalse => cases h
  case isTrue hc =>
    simp only [Option.some.injEq, Prod.mk.injEq] at h
    obtain ⟨rfl, rfl, rfl⟩ := h
    exact numbers_walk a0 a1 hc.1 hc.2 w hG
end Go.Proofs.YtpagbmkdphdjoaaGreatDoor.P
