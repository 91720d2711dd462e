/- The walk of down.begun at a list that may be. -/
import Derived.Test.YtgmdaaenhmclfaaDoorPx2
import Derived.Test.YtgmdaaenhmclfaaDoorDnOdd
import Derived.Test.YtgmdaaenhmclfaaDoorCloneD
namespace Go.Proofs.YtgmdaaenhmclfaaDoor.P
open Go.RowKit Go.Proofs.YtgmdaaenhmclfaaDoorW.PrintWords Go.Proofs.YtgmdaaenhmclfaaDoorW.PrintLast Go.Proofs.YtgmdaaenhmclfaaDoorW.PrintMore
attribute [local go_sem] max2_int min2_int max_two min_two max_three min_three max_four min_four
set_option linter.unusedVariables false
set_option linter.unusedSimpArgs false
/-- Each ID greater than the one ahead of it, and less than the next. -/
def idsOk (last nx : Int) : List S47 → Bool
  | [] => true
  | d :: r => decide (last < d.f0) && (decide (d.f0 < nx) && idsOk d.f0 nx r)
theorem rd_mid (a : List S47) (d : S47) (r : List S47) : rd_T47 (a ++ d :: r) (a.length : Int) = d := by simp [rd_T47]
set_option maxRecDepth 100000 in
set_option maxHeartbeats 4000000 in
theorem begun_walk (nx : Int) (A : Option Addr) (c : Nat) (l : List S47) (w : World) (hr : Kd.C k47 w A l.length l) (hc : l.length ≤ c) (n1 : 1 ≤ nx) (n2 : nx ≤ 2147483648) (hl : l.length ≤ 4096) (hids : idsOk 0 nx l = true) (k : Nat) (hodd : dC32.f k l = some false) :
    Calls Tryd.prog 17 #[.agg #[.int .i64 nx, .slice A l.length c]] w fun e w' => ∃ v, e = .returned (.tuple #[.agg #[.int .i64 nx, v], errW none]) ∧ Kd.R k47 47 w' w.heap.size (fun _ => True) v l ∧ Below w.heap.size w w' := by
  have hu25 := Tryd.underlying25
  have x0 : decide (nx = 0) = false := dN (by omega)
  have x0b : (nx == 0) = false := by simp; omega
  have x1 : decide (nx < 1) = false := dN (by omega)
  have x2 : decide (nx > 2147483648) = false := dN (by omega)
  have x2b : decide (2147483648 < nx) = false := x2
  have x3 : decide ((l.length : Int) > 4096) = false := dN (by omega)
  have x3b : decide ((4096 : Int) < (l.length : Int)) = false := x3
  have x3c : decide (4096 < l.length) = false := dN (by omega)
  have HOD := As (fun W (hb : Below w.heap.size w W) => dC32.calls k A c l false W (Kd.C_below hr hb) hc hodd)
  have HCL := As (fun W (hb : Below w.heap.size w W) => down_Down_33.calls A c l l W (Kd.C_below hr hb) hc (by unfold down_Down_33.f; rw [if_pos (by omega)]))
  have HRC := As (fun W (hb : Below w.heap.size w W) => Kd.C_below hr hb)
  have HB := As (Below.refl w.heap.size w)
  have HID := As hids
  have HLE := As hl
  clear hr hc n1 n2 hl hids hodd
  go_enter Tryd.func17, Tryd.ntmps17
  go_wp2_with (first | ((with_reducible refine gate_dst (N := 1) rfl ?_); refine box_event ?hg (N := 1) ?hd (cs := #[.int .i64 nx, .slice A l.length c]) (t := 25) ?hr ?_; (case hd => rfl); (case hg => rfl); (case hr => first | (go_simp; done) | (go_simp; rfl)); intro g1 hg w1 hbox hb; have n0_ := As (XT (by repeat (first | (with_reducible first | exact HB.out | apply XA | apply XN | apply XD) | exact HB.out)) hb); have BKg1 := As (hbox); have GEg1 := As ((by rw [hg]; exact (XZ (by repeat (first | (with_reducible first | exact HB.out | apply XA | apply XN | apply XD) | exact HB.out))) : w.heap.size ≤ g1)); clear HB; have HB := n0_; clear n0_; clear hb hbox hg; have hczg1_0 : w1.cell? ⟨g1, 0, none⟩ = some (.int .i64 nx) := (blk_cell BKg1.out 0).trans rfl; have hczg1_1 : w1.cell? ⟨g1, 1, none⟩ = some (.slice A l.length c) := (blk_cell BKg1.out 1).trans rfl; have hfzg1_0 := blk_frozen BKg1.out 0; have hfzg1_1 := blk_frozen BKg1.out 1) | ((with_reducible refine gate_dst (N := 2) rfl ?_); refine box_event ?hg (N := 2) ?hd (cs := #[.int .i64 0, .slice none 0 0]) (t := 25) ?hr ?_; (case hd => rfl); (case hg => rfl); (case hr => first | (go_simp; done) | (go_simp; rfl)); intro g2 hg w2 hbox hb; have NE12 := As ((by rw [hg]; exact Nat.ne_of_lt (blk_lt (g := g1) (o := .cells #[.int .i64 nx, .slice A l.length c] 25 (0, 0)) (by first | exact BKg1.out | ((with_reducible repeat (first | refine YN ?_ _ | refine YD ?_ | refine YA ?_ _)); exact BKg1.out))) : g1 ≠ g2)); have BKg1n := As (YB (g := g1) (o := .cells #[.int .i64 nx, .slice A l.length c] 25 (0, 0)) (by first | exact BKg1.out | ((with_reducible repeat (first | refine YN ?_ _ | refine YD ?_ | refine YA ?_ _)); exact BKg1.out)) hb); clear BKg1; have BKg1 := BKg1n; clear BKg1n; have n0_ := As (XT (by repeat (first | (with_reducible first | exact HB.out | apply XA | apply XN | apply XD) | exact HB.out)) hb); have BKg2 := As (hbox); have GEg2 := As ((by rw [hg]; exact (XZ (by repeat (first | (with_reducible first | exact HB.out | apply XA | apply XN | apply XD) | exact HB.out))) : w.heap.size ≤ g2)); clear HB; have HB := n0_; clear n0_; clear hb hbox hg; have hczg2_0 : w2.cell? ⟨g2, 0, none⟩ = some (.int .i64 0) := (blk_cell BKg2.out 0).trans rfl; have hczg2_1 : w2.cell? ⟨g2, 1, none⟩ = some (.slice none 0 0) := (blk_cell BKg2.out 1).trans rfl; have hfzg2_0 := blk_frozen BKg2.out 0; have hfzg2_1 := blk_frozen BKg2.out 1; have c10 : w2.cell? ⟨g1, 0, none⟩ = some (.int .i64 nx) := (blk_cell BKg1.out 0).trans rfl; have c11 : w2.cell? ⟨g1, 1, none⟩ = some (.slice A l.length c) := (blk_cell BKg1.out 1).trans rfl) | (go_at_call 32; (with_reducible refine (HOD.out _ ?hbz).mono ?_); (case hbz => exact (by repeat (first | (with_reducible first | exact HB.out | apply XA | apply XN | apply XD) | exact HB.out))); rintro e_ w3 ⟨rfl, hb⟩; have BKg1n := As (YB (g := g1) (o := .cells #[.int .i64 nx, .slice A l.length c] 25 (0, 0)) (by first | exact BKg1.out | ((with_reducible repeat (first | refine YN ?_ _ | refine YD ?_ | refine YA ?_ _)); exact BKg1.out)) hb); clear BKg1; have BKg1 := BKg1n; clear BKg1n; have BKg2n := As (YB (g := g2) (o := .cells #[.int .i64 0, .slice none 0 0] 25 (0, 0)) (by first | exact BKg2.out | ((with_reducible repeat (first | refine YN ?_ _ | refine YD ?_ | refine YA ?_ _)); exact BKg2.out)) hb); clear BKg2; have BKg2 := BKg2n; clear BKg2n; have n0_ := As (XT (by repeat (first | (with_reducible first | exact HB.out | apply XA | apply XN | apply XD) | exact HB.out)) hb); clear HB hb; have HB := n0_; clear n0_; have c10 : w3.cell? ⟨g1, 0, none⟩ = some (.int .i64 nx) := (blk_cell BKg1.out 0).trans rfl; have c11 : w3.cell? ⟨g1, 1, none⟩ = some (.slice A l.length c) := (blk_cell BKg1.out 1).trans rfl))
  go_loopg [4, 41] l.length (fun kq v4 v41 w' => ∃ (i : Nat) (last : Int) (done rest : List S47), v4 = .int .i64 last ∧ v41 = .int .i64 (i : Int) ∧ kq + i = l.length ∧ Aside0 (done.length = i ∧ l = done ++ rest) ∧ Aside0 (idsOk last nx rest = true) ∧ Aside0 (w'.heap[g1]? = some (.cells #[.int .i64 nx, .slice A l.length c] 25 (0, 0))) ∧ Aside0 (w'.heap[g2]? = some (.cells #[.int .i64 0, .slice none 0 0] 25 (0, 0))) ∧ Aside0 (Below w.heap.size w w'))
  case atStart => exact ⟨0, 0, [], l, rfl, rfl, rfl, ⟨rfl, rfl⟩, HID, BKg1, BKg2, HB⟩
  case round =>
    clear HID BKg1 BKg2 HB x0 x0b x1 x2 x2b x3 x3b x3c
    obtain ⟨i, last, done, rest, rfl, rfl, hk, HI, HID, BKg1, BKg2, HB⟩ := hrel
    have c10 : wr.cell? ⟨g1, 0, none⟩ = some (.int .i64 nx) := (blk_cell BKg1.out 0).trans rfl
    have c11 : wr.cell? ⟨g1, 1, none⟩ = some (.slice A l.length c) := (blk_cell BKg1.out 1).trans rfl
    cases rest with
    | nil =>
      have e1 : i = l.length := by have h := HI.out; rw [h.2, List.append_nil]; exact h.1.symm
      have d1 : decide ((i : Int) < (l.length : Int)) = false := dN (by omega)
      have d2 : decide (i < l.length) = false := dN (by omega)
      clear e1 hk
      go_wp2_with (first | (go_at_call 33; (with_reducible refine (HCL.out _ ?hbz).mono ?_); (case hbz => exact (by repeat (first | (with_reducible first | exact HB.out | apply XA | apply XN | apply XD) | exact HB.out))); rintro e_ w7 ⟨v7, rfl, ho, hb⟩; obtain ⟨Ao, co, rfl⟩ := Kd.R_slice ho; have BKg1n := As (YB (g := g1) (o := .cells #[.int .i64 nx, .slice A l.length c] 25 (0, 0)) (by first | exact BKg1.out | ((with_reducible repeat (first | refine YN ?_ _ | refine YD ?_ | refine YA ?_ _)); exact BKg1.out)) hb); clear BKg1; have BKg1 := BKg1n; clear BKg1n; have BKg2n := As (YB (g := g2) (o := .cells #[.int .i64 0, .slice none 0 0] 25 (0, 0)) (by first | exact BKg2.out | ((with_reducible repeat (first | refine YN ?_ _ | refine YD ?_ | refine YA ?_ _)); exact BKg2.out)) hb); clear BKg2; have BKg2 := BKg2n; clear BKg2n; have HO := As (Kd.R_lower ho (XZ (by repeat (first | (with_reducible first | exact HB.out | apply XA | apply XN | apply XD) | exact HB.out)))); have n0_ := As (XT (by repeat (first | (with_reducible first | exact HB.out | apply XA | apply XN | apply XD) | exact HB.out)) hb); clear HB hb ho; have HB := n0_; clear n0_; have c10 : w7.cell? ⟨g1, 0, none⟩ = some (.int .i64 nx) := (blk_cell BKg1.out 0).trans rfl; have c11 : w7.cell? ⟨g1, 1, none⟩ = some (.slice A l.length c) := (blk_cell BKg1.out 1).trans rfl; have f11 := blk_frozen BKg1.out 1; have c20 : w7.cell? ⟨g2, 0, none⟩ = some (.int .i64 0) := (blk_cell BKg2.out 0).trans rfl; have c21 : w7.cell? ⟨g2, 1, none⟩ = some (.slice none 0 0) := (blk_cell BKg2.out 1).trans rfl; have f20 := blk_frozen BKg2.out 0; have f21 := blk_frozen BKg2.out 1; have ne12 := NE12.out))
      have NE21 := As (Ne.symm NE12.out)
      refine bodyPost_ret (results_ct rfl _ _ g2 25 #[.int .i64 nx, .slice Ao l.length co] (0, 0) _ rfl (by (with_reducible repeat (first | refine YN ?_ _ | refine YD ?_ | refine YA ?_ _)); refine blk_put (cs := #[.int .i64 nx, .slice none 0 0]) ?_ 1 _ rfl; (with_reducible repeat (first | refine YN ?_ _ | refine YD ?_ | refine YA ?_ _)); refine blk_put (cs := #[.int .i64 0, .slice none 0 0]) ?_ 0 _ rfl; (with_reducible repeat (first | refine YN ?_ _ | refine YD ?_ | refine YA ?_ _)); refine blk_far ?_ NE21.out _; (with_reducible repeat (first | refine YN ?_ _ | refine YD ?_ | refine YA ?_ _)); exact BKg2.out) Tryd.underlying25 rfl (by kernel_rfl)) rfl ?_
      exact ⟨_, rfl, by (with_reducible repeat (first | apply RA | apply RN | apply RD)); exact RM (RF (p := ⟨g2, 1, none⟩) (RF (p := ⟨g2, 0, none⟩) (RF (p := ⟨g1, 1, none⟩) (Kd.R_types (Kd.R_types HO.out BKg1.out (by decide)) BKg2.out (by decide)) (fun _ hk => hk.1.2) _) (fun _ hk => hk.2) _) (fun _ hk => hk.2) _) (fun _ _ => trivial), (by repeat (first | (with_reducible first | exact HB.out | apply XA | apply XN | apply XD | refine XS ?_ GEg1.out | refine XS ?_ GEg2.out) | exact HB.out))⟩
    | cons d r =>
      have hl := HI.out
      have hi : i < l.length := by rw [hl.2, List.length_append, hl.1]; simp
      have hid := HID.out
      unfold idsOk at hid
      rw [Bool.and_eq_true, Bool.and_eq_true] at hid
      have d1 : decide ((i : Int) < (l.length : Int)) = true := dY (by omega)
      have d2 : decide (i < l.length) = true := dY hi
      have hd : rd_T47 l (i : Int) = d := by rw [hl.2, ← hl.1]; exact rd_mid done d r
      have p1 : (0 : Int) ≤ (i : Int) := Int.natCast_nonneg _
      have p2 : (i : Int) < (l.length : Int) := by omega
      obtain ⟨ad, ea, y0, y1, y2, y3, y4, y5, y6, y7⟩ := at_T47 (HRC.out wr HB.out) (i : Int) p1 p2
      rw [hd] at y0 y1 y2 y3 y4 y5 y6 y7
      cases ea
      have z0 : wr.cell? (ad.add (i * 8)) = some (.int .i64 d.f0) := y0
      have z1 : wr.cell? ⟨(ad.add (i * 8)).block, (ad.add (i * 8)).off + 1, none⟩ = some (.int .i64 d.f1) := y1
      have z2 : wr.cell? ⟨(ad.add (i * 8)).block, (ad.add (i * 8)).off + 2, none⟩ = some (.int .i64 d.f2) := y2
      have z3 : wr.cell? ⟨(ad.add (i * 8)).block, (ad.add (i * 8)).off + 3, none⟩ = some (.int .i64 d.f3) := y3
      have z4 : wr.cell? ⟨(ad.add (i * 8)).block, (ad.add (i * 8)).off + 4, none⟩ = some (.bool d.f4) := y4
      have z5 : wr.cell? ⟨(ad.add (i * 8)).block, (ad.add (i * 8)).off + 5, none⟩ = some (.int .i64 d.f5) := y5
      have z6 : wr.cell? ⟨(ad.add (i * 8)).block, (ad.add (i * 8)).off + 6, none⟩ = some (.int .i64 d.f6) := y6
      have z7 : wr.cell? ⟨(ad.add (i * 8)).block, (ad.add (i * 8)).off + 7, none⟩ = some (.int .i64 d.f7) := y7
      clear y0 y1 y2 y3 y4 y5 y6 y7
      have i1 : decide (d.f0 ≤ last) = false := dN (by have := dT hid.1; omega)
      have i2 : decide (d.f0 ≥ nx) = false := dN (by have := dT hid.2.1; omega)
      have i2b : decide (nx ≤ d.f0) = false := i2
      have HID2 := As hid.2.2
      clear hid hl hd
      have n1 : g1 ≠ wr.heap.size := Nat.ne_of_lt (blk_lt BKg1.out)
      have n1b : wr.heap.size ≠ g1 := fun e => n1 e.symm
      have n2 : g2 ≠ wr.heap.size := Nat.ne_of_lt (blk_lt BKg2.out)
      have c10b : (wr.alloc (.cells #[.int .i64 d.f0, .int .i64 d.f1, .int .i64 d.f2, .int .i64 d.f3, .bool d.f4, .int .i64 d.f5, .int .i64 d.f6, .int .i64 d.f7] 47)).cell? ⟨g1, 0, none⟩ = some (.int .i64 nx) := by rw [World.cell?_alloc_lt _ _ ⟨g1, 0, none⟩ (blk_lt BKg1.out)]; exact c10
      go_wp2
      go_roundg (l.length - (i + 1))
      case measure => omega
      case rel => exact ⟨i + 1, d.f0, done ++ [d], r, rfl, by rw [show wrap64 ((i : Int) + 1) = ((i + 1 : Nat) : Int) by have := HLE.out; unfold wrap64; omega], by omega, ⟨by rw [List.length_append, HI.out.1]; rfl, by rw [List.append_assoc]; exact HI.out.2⟩, HID2, ⟨by (with_reducible repeat (first | refine YN ?_ _ | refine YD ?_ | refine YA ?_ _)); exact BKg1.out⟩, ⟨by (with_reducible repeat (first | refine YN ?_ _ | refine YD ?_ | refine YA ?_ _)); exact BKg2.out⟩, ⟨(by repeat (first | (with_reducible first | exact HB.out | apply XA | apply XN | apply XD) | exact HB.out))⟩⟩
set_option maxRecDepth 100000 in
set_option maxHeartbeats 4000000 in
theorem begun_fresh (A : Option Addr) (c : Nat) (w : World) (hr : Kd.C k47 w A 0 []) (k : Nat) (hodd : dC32.f k [] = some false) :
    Calls Tryd.prog 17 #[.agg #[.int .i64 0, .slice A 0 c]] w fun e w' => ∃ v, e = .returned (.tuple #[.agg #[.int .i64 1, v], errW none]) ∧ Kd.R k47 47 w' w.heap.size (fun _ => True) v [] ∧ Below w.heap.size w w' := by
  have hu25 := Tryd.underlying25
  have HOD := As (fun W (hb : Below w.heap.size w W) => (show Calls Tryd.prog 32 #[.slice A 0 c, .func (.func 30) #[] #[]] W fun e w' => e = .returned (.bool false) ∧ Below W.heap.size W w' from dC32.calls k A c [] false W (Kd.C_below hr hb) (Nat.zero_le _) hodd))
  have HCL := As (fun W (hb : Below w.heap.size w W) => (show Calls Tryd.prog 33 #[.slice A 0 c] W fun e w' => ∃ v0_ : Value, e = .returned (v0_) ∧ Kd.R k47 47 w' W.heap.size (fun _ => True) v0_ [] ∧ Below W.heap.size W w' from down_Down_33.calls A c [] [] W (Kd.C_below hr hb) (Nat.zero_le _) (by unfold down_Down_33.f; rw [if_pos (by decide)])))
  have HB := As (Below.refl w.heap.size w)
  clear hr hodd
  go_enter Tryd.func17, Tryd.ntmps17
  go_upto_region 3 with (first | ((with_reducible refine gate_dst (N := 1) rfl ?_); refine box_event ?hg (N := 1) ?hd (cs := #[.int .i64 0, .slice A 0 c]) (t := 25) ?hr ?_; (case hd => rfl); (case hg => rfl); (case hr => first | (go_simp; done) | (go_simp; rfl)); intro g1 hg w1 hbox hb; have n0_ := As (XT (by repeat (first | (with_reducible first | exact HB.out | apply XA | apply XN | apply XD) | exact HB.out)) hb); have BKg1 := As (hbox); have GEg1 := As ((by rw [hg]; exact (XZ (by repeat (first | (with_reducible first | exact HB.out | apply XA | apply XN | apply XD) | exact HB.out))) : w.heap.size ≤ g1)); clear HB; have HB := n0_; clear n0_; clear hb hbox hg; have hczg1_0 : w1.cell? ⟨g1, 0, none⟩ = some (.int .i64 0) := (blk_cell BKg1.out 0).trans rfl; have hczg1_1 : w1.cell? ⟨g1, 1, none⟩ = some (.slice A 0 c) := (blk_cell BKg1.out 1).trans rfl; have hfzg1_0 := blk_frozen BKg1.out 0; have hfzg1_1 := blk_frozen BKg1.out 1) | ((with_reducible refine gate_dst (N := 2) rfl ?_); refine box_event ?hg (N := 2) ?hd (cs := #[.int .i64 0, .slice none 0 0]) (t := 25) ?hr ?_; (case hd => rfl); (case hg => rfl); (case hr => first | (go_simp; done) | (go_simp; rfl)); intro g2 hg w2 hbox hb; have NE12 := As ((by rw [hg]; exact Nat.ne_of_lt (blk_lt (g := g1) (o := .cells #[.int .i64 0, .slice A 0 c] 25 (0, 0)) (by first | exact BKg1.out | ((with_reducible repeat (first | refine YN ?_ _ | refine YD ?_ | refine YA ?_ _)); exact BKg1.out))) : g1 ≠ g2)); have BKg1n := As (YB (g := g1) (o := .cells #[.int .i64 0, .slice A 0 c] 25 (0, 0)) (by first | exact BKg1.out | ((with_reducible repeat (first | refine YN ?_ _ | refine YD ?_ | refine YA ?_ _)); exact BKg1.out)) hb); clear BKg1; have BKg1 := BKg1n; clear BKg1n; have c10 : w2.cell? ⟨g1, 0, none⟩ = some (.int .i64 0) := (blk_cell BKg1.out 0).trans rfl; have c11 : w2.cell? ⟨g1, 1, none⟩ = some (.slice A 0 c) := (blk_cell BKg1.out 1).trans rfl; have f10 := blk_frozen BKg1.out 0; have n0_ := As (XT (by repeat (first | (with_reducible first | exact HB.out | apply XA | apply XN | apply XD) | exact HB.out)) hb); have BKg2 := As (hbox); have GEg2 := As ((by rw [hg]; exact (XZ (by repeat (first | (with_reducible first | exact HB.out | apply XA | apply XN | apply XD) | exact HB.out))) : w.heap.size ≤ g2)); clear HB; have HB := n0_; clear n0_; clear hb hbox hg; have hczg2_0 : w2.cell? ⟨g2, 0, none⟩ = some (.int .i64 0) := (blk_cell BKg2.out 0).trans rfl; have hczg2_1 : w2.cell? ⟨g2, 1, none⟩ = some (.slice none 0 0) := (blk_cell BKg2.out 1).trans rfl; have hfzg2_0 := blk_frozen BKg2.out 0; have hfzg2_1 := blk_frozen BKg2.out 1))
  have BKf := As (show (w2.setCell ⟨g1, 0, none⟩ (.int .i64 1)).heap[g1]? = some (.cells #[.int .i64 1, .slice A 0 c] 25 (0, 0)) from blk_put (cs := #[.int .i64 0, .slice A 0 c]) BKg1.out 0 _ rfl)
  have BKh := As (show (w2.setCell ⟨g1, 0, none⟩ (.int .i64 1)).heap[g2]? = some (.cells #[.int .i64 0, .slice none 0 0] 25 (0, 0)) from blk_far BKg2.out (Ne.symm NE12.out) _)
  have HBf := As (show Below w.heap.size w (w2.setCell ⟨g1, 0, none⟩ (.int .i64 1)) from XS HB.out GEg1.out)
  clear BKg1 BKg2 HB c10 c11 f10
  have BKg1 := BKf
  have BKg2 := BKh
  have HB := HBf
  clear BKf BKh HBf
  have c10 : (w2.setCell ⟨g1, 0, none⟩ (.int .i64 1)).cell? ⟨g1, 0, none⟩ = some (.int .i64 1) := (blk_cell BKg1.out 0).trans rfl
  have c11 : (w2.setCell ⟨g1, 0, none⟩ (.int .i64 1)).cell? ⟨g1, 1, none⟩ = some (.slice A 0 c) := (blk_cell BKg1.out 1).trans rfl
  go_wp2_with (first | (go_at_call 32; (with_reducible refine (HOD.out _ ?hbz).mono ?_); (case hbz => exact (by repeat (first | (with_reducible first | exact HB.out | apply XA | apply XN | apply XD | refine XS ?_ GEg1.out) | exact HB.out))); rintro e_ w3 ⟨rfl, hb⟩; have BKg1n := As (YB (g := g1) (o := .cells #[.int .i64 1, .slice A 0 c] 25 (0, 0)) (by first | exact BKg1.out | ((with_reducible repeat (first | refine YN ?_ _ | refine YD ?_ | refine YA ?_ _)); exact BKg1.out)) hb); clear BKg1; have BKg1 := BKg1n; clear BKg1n; have BKg2n := As (YB (g := g2) (o := .cells #[.int .i64 0, .slice none 0 0] 25 (0, 0)) (by first | exact BKg2.out | ((with_reducible repeat (first | refine YN ?_ _ | refine YD ?_ | refine YA ?_ _)); exact BKg2.out)) hb); clear BKg2; have BKg2 := BKg2n; clear BKg2n; have n0_ := As (XT (by repeat (first | (with_reducible first | exact HB.out | apply XA | apply XN | apply XD | refine XS ?_ GEg1.out) | exact HB.out)) hb); clear HB hb; have HB := n0_; clear n0_; have c10 : w3.cell? ⟨g1, 0, none⟩ = some (.int .i64 1) := (blk_cell BKg1.out 0).trans rfl; have c11 : w3.cell? ⟨g1, 1, none⟩ = some (.slice A 0 c) := (blk_cell BKg1.out 1).trans rfl))
  go_loopg [41] 0 (fun kq v41 w' => kq = 0 ∧ v41 = .int .i64 0 ∧ Aside0 (w'.heap[g1]? = some (.cells #[.int .i64 1, .slice A 0 c] 25 (0, 0))) ∧ Aside0 (w'.heap[g2]? = some (.cells #[.int .i64 0, .slice none 0 0] 25 (0, 0))) ∧ Aside0 (Below w.heap.size w w'))
  case atStart => exact ⟨rfl, rfl, BKg1, BKg2, HB⟩
  case round =>
    clear BKg1 BKg2 HB
    obtain ⟨hk, rfl, BKg1, BKg2, HB⟩ := hrel
    have c10 : wr.cell? ⟨g1, 0, none⟩ = some (.int .i64 1) := (blk_cell BKg1.out 0).trans rfl
    have c11 : wr.cell? ⟨g1, 1, none⟩ = some (.slice A 0 c) := (blk_cell BKg1.out 1).trans rfl
    go_wp2_with (first | (go_at_call 33; (with_reducible refine (HCL.out _ ?hbz).mono ?_); (case hbz => exact (by repeat (first | (with_reducible first | exact HB.out | apply XA | apply XN | apply XD) | exact HB.out))); rintro e_ w7 ⟨v7, rfl, ho, hb⟩; obtain ⟨Ao, co, rfl⟩ := Kd.R_slice ho; have BKg1n := As (YB (g := g1) (o := .cells #[.int .i64 1, .slice A 0 c] 25 (0, 0)) (by first | exact BKg1.out | ((with_reducible repeat (first | refine YN ?_ _ | refine YD ?_ | refine YA ?_ _)); exact BKg1.out)) hb); clear BKg1; have BKg1 := BKg1n; clear BKg1n; have BKg2n := As (YB (g := g2) (o := .cells #[.int .i64 0, .slice none 0 0] 25 (0, 0)) (by first | exact BKg2.out | ((with_reducible repeat (first | refine YN ?_ _ | refine YD ?_ | refine YA ?_ _)); exact BKg2.out)) hb); clear BKg2; have BKg2 := BKg2n; clear BKg2n; have HO := As (Kd.R_lower ho (XZ (by repeat (first | (with_reducible first | exact HB.out | apply XA | apply XN | apply XD) | exact HB.out)))); have n0_ := As (XT (by repeat (first | (with_reducible first | exact HB.out | apply XA | apply XN | apply XD) | exact HB.out)) hb); clear HB hb ho; have HB := n0_; clear n0_; have c10 : w7.cell? ⟨g1, 0, none⟩ = some (.int .i64 1) := (blk_cell BKg1.out 0).trans rfl; have c11 : w7.cell? ⟨g1, 1, none⟩ = some (.slice A 0 c) := (blk_cell BKg1.out 1).trans rfl; have f11 := blk_frozen BKg1.out 1; have c20 : w7.cell? ⟨g2, 0, none⟩ = some (.int .i64 0) := (blk_cell BKg2.out 0).trans rfl; have c21 : w7.cell? ⟨g2, 1, none⟩ = some (.slice none 0 0) := (blk_cell BKg2.out 1).trans rfl; have f20 := blk_frozen BKg2.out 0; have f21 := blk_frozen BKg2.out 1; have ne12 := NE12.out))
    have NE21 := As (Ne.symm NE12.out)
    refine bodyPost_ret (results_ct rfl _ _ g2 25 #[.int .i64 1, .slice Ao 0 co] (0, 0) _ rfl (by (with_reducible repeat (first | refine YN ?_ _ | refine YD ?_ | refine YA ?_ _)); refine blk_put (cs := #[.int .i64 1, .slice none 0 0]) ?_ 1 _ rfl; (with_reducible repeat (first | refine YN ?_ _ | refine YD ?_ | refine YA ?_ _)); refine blk_put (cs := #[.int .i64 0, .slice none 0 0]) ?_ 0 _ rfl; (with_reducible repeat (first | refine YN ?_ _ | refine YD ?_ | refine YA ?_ _)); refine blk_far ?_ NE21.out _; (with_reducible repeat (first | refine YN ?_ _ | refine YD ?_ | refine YA ?_ _)); exact BKg2.out) Tryd.underlying25 rfl (by kernel_rfl)) rfl ?_
    exact ⟨_, rfl, by (with_reducible repeat (first | apply RA | apply RN | apply RD)); exact RM (RF (p := ⟨g2, 1, none⟩) (RF (p := ⟨g2, 0, none⟩) (RF (p := ⟨g1, 1, none⟩) (Kd.R_types (Kd.R_types HO.out BKg1.out (by decide)) BKg2.out (by decide)) (fun _ hk => hk.1.2) _) (fun _ hk => hk.2) _) (fun _ hk => hk.2) _) (fun _ _ => trivial), (by repeat (first | (with_reducible first | exact HB.out | apply XA | apply XN | apply XD | refine XS ?_ GEg1.out | refine XS ?_ GEg2.out) | exact HB.out))⟩
end Go.Proofs.YtgmdaaenhmclfaaDoor.P
