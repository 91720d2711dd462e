/- The walk of down.Problem, at lists that may be and a time. -/
import Derived.Test.YtgmdaaenhmclfaaDoorBegunD
import Derived.Test.YtgmdaaenhmclfaaDoorDnChain
namespace Go.Proofs.YtgmdaaenhmclfaaDoor.P
open Go.RowKit Go.Maps Go.Proofs.YtgmdaaenhmclfaaDoorW.PrintWords Go.Proofs.YtgmdaaenhmclfaaDoorW.PrintLast Go.Proofs.YtgmdaaenhmclfaaDoorW.PrintMore
attribute [local go_sem] max2_int min2_int max_two min_two max_three min_three max_four min_four
set_option linter.unusedVariables false
set_option linter.unusedSimpArgs false
def hit (o t : Int) (d : S47) : Prop := d.f4 = false ∧ d.f6 = 0 ∧ d.f1 = o ∧ d.f7 = -1 ∧ d.f2 ≤ t ∧ t < d.f3
instance (o t : Int) (d : S47) : Decidable (hit o t d) := inferInstanceAs (Decidable (_ ∧ _))
def probL (o t : Int) : List S47 → List S47
  | [] => []
  | d :: r => if hit o t d then startAt t d :: probL o t r else d :: probL o t r
def probF (o t : Int) : List S47 → (Int → Int) → (Int → Int)
  | [], f => f
  | d :: r, f => if hit o t d then probF o t r (setOne f d.f0) else probF o t r f
def probZ (o t : Int) (l : List S47) : List S47 := chainZ t (probL o t l) (probF o t l (fun _ => 0))
theorem probL_len (o t : Int) (l : List S47) : (probL o t l).length = l.length := by
  induction l with
  | nil => rfl
  | cons d r ih => unfold probL; split <;> simp [ih]
theorem probL_wf (o t : Int) (l : List S47) (h : ∀ d ∈ l, (Lit.int .i64 d.f0).wf = true ∧ (Lit.int .i64 d.f6).wf = true) : ∀ d ∈ probL o t l, (Lit.int .i64 d.f0).wf = true ∧ (Lit.int .i64 d.f6).wf = true := by
  induction l with
  | nil => intro d hd; cases hd
  | cons e r ih =>
    intro d hd
    unfold probL at hd
    have h1 := ih (fun x hx => h x (.tail _ hx))
    split at hd
    · rcases List.mem_cons.mp hd with rfl | hd
      · exact h e (.head _)
      · exact h1 d hd
    · rcases List.mem_cons.mp hd with rfl | hd
      · exact h d (.head _)
      · exact h1 d hd
theorem own_zero {ys : List S47} {w : World} {base co : Nat} {Ao : Option Addr} (h : Kd.R k47 47 w base (fun _ => True) (.slice Ao ys.length co) ys) (hy : 0 < ys.length) : ∃ g, Ao = some ⟨g, 0, none⟩ := by
  obtain ⟨inner, ho⟩ := Kd.R_own h
  rcases ho.2 with ⟨h1, h2⟩ | ⟨g, cap, cur, h1, _⟩
  · omega
  · injection h1 with h1 _ _
    exact ⟨g, h1⟩
set_option maxRecDepth 100000 in
set_option maxHeartbeats 4000000 in
theorem problem_walk (nx nx' o t : Int) (A : Option Addr) (c k : Nat) (l ys : List S47) (w : World) (hr : Kd.C k47 w A l.length l) (hc : l.length ≤ c) (hbg : dBg.f k nx l = some (nx', ys, none)) (ht : down_timely.f t = some true) (hn : ys.length ≤ 4096) (hy : 0 < ys.length)
    (hwf : ∀ d ∈ ys, (Lit.int .i64 d.f0).wf = true ∧ (Lit.int .i64 d.f6).wf = true) :
    Calls Tryd.prog 7 #[.agg #[.int .i64 nx, .slice A l.length c], .int .i64 o, .int .i64 t] w fun e w' => ∃ v, e = .returned (.agg #[.int .i64 nx', v]) ∧ Kd.R k47 47 w' w.heap.size (fun _ => True) v (probZ o t ys) ∧ Below w.heap.size w w' := by
  have hmm := @run_makeMap Tryd.prog
  have hu25 := Tryd.underlying25
  have HBG := As (fun W (hb : Below w.heap.size w W) => dBg.calls k nx A c l nx' ys none W (Kd.C_below hr hb) hc hbg)
  have HTM := As (fun W => down_timely.calls t true W ht)
  have HB := As (Below.refl w.heap.size w)
  have HN := As hn
  have HY := As hy
  have HW := As hwf
  obtain ⟨Z, hZ⟩ : ∃ Z, probZ o t ys = Z := ⟨_, rfl⟩
  rw [hZ]
  have HZ0 := As hZ
  clear hr hc hbg ht hn hy hwf hZ
  go_enter Tryd.func7, Tryd.ntmps7
  go_upto_region 2 with (first | ((with_reducible refine gate_dst (N := 3) rfl ?_); refine box_event ?hg (N := 3) ?hd (cs := #[.int .i64 nx, .slice A l.length c]) (t := 25) ?hr ?_; (case hd => rfl); (case hg => rfl); (case hr => first | (go_simp; done) | (go_simp; rfl)); intro g3 hg w3 hbox hb; have n0_ := As (XT (by repeat (first | (with_reducible first | exact HB.out | apply XA | apply XN | apply XD) | exact HB.out)) hb); have BKg3 := As (hbox); have GEg3 := As ((by rw [hg]; exact (XZ (by repeat (first | (with_reducible first | exact HB.out | apply XA | apply XN | apply XD) | exact HB.out))) : w.heap.size ≤ g3)); clear HB; have HB := n0_; clear n0_; clear hb hbox hg; have hczg3_0 : w3.cell? ⟨g3, 0, none⟩ = some (.int .i64 nx) := (blk_cell BKg3.out 0).trans rfl; have hczg3_1 : w3.cell? ⟨g3, 1, none⟩ = some (.slice A l.length c) := (blk_cell BKg3.out 1).trans rfl; have hfzg3_0 := blk_frozen BKg3.out 0; have hfzg3_1 := blk_frozen BKg3.out 1) | ((with_reducible refine gate_dst (N := 6) rfl ?_); refine box_event ?hg (N := 6) ?hd (cs := #[.int .i64 0, .slice none 0 0]) (t := 25) ?hr ?_; (case hd => rfl); (case hg => rfl); (case hr => first | (go_simp; done) | (go_simp; rfl)); intro g6 hg w6 hbox hb; have NE36 := As ((by rw [hg]; exact Nat.ne_of_lt (blk_lt (g := g3) (o := .cells #[.int .i64 nx, .slice A l.length c] 25 (0, 0)) (by first | exact BKg3.out | ((with_reducible repeat (first | refine YN ?_ _ | refine YD ?_ | refine YA ?_ _)); exact BKg3.out))) : g3 ≠ g6)); have BKg3n := As (YB (g := g3) (o := .cells #[.int .i64 nx, .slice A l.length c] 25 (0, 0)) (by first | exact BKg3.out | ((with_reducible repeat (first | refine YN ?_ _ | refine YD ?_ | refine YA ?_ _)); exact BKg3.out)) hb); clear BKg3; have BKg3 := BKg3n; clear BKg3n; have n0_ := As (XT (by repeat (first | (with_reducible first | exact HB.out | apply XA | apply XN | apply XD) | exact HB.out)) hb); have BKg6 := As (hbox); have GEg6 := As ((by rw [hg]; exact (XZ (by repeat (first | (with_reducible first | exact HB.out | apply XA | apply XN | apply XD) | exact HB.out))) : w.heap.size ≤ g6)); clear HB; have HB := n0_; clear n0_; clear hb hbox hg; have hczg6_0 : w6.cell? ⟨g6, 0, none⟩ = some (.int .i64 0) := (blk_cell BKg6.out 0).trans rfl; have hczg6_1 : w6.cell? ⟨g6, 1, none⟩ = some (.slice none 0 0) := (blk_cell BKg6.out 1).trans rfl; have hfzg6_0 := blk_frozen BKg6.out 0; have hfzg6_1 := blk_frozen BKg6.out 1; have c30 : w6.cell? ⟨g3, 0, none⟩ = some (.int .i64 nx) := (blk_cell BKg3.out 0).trans rfl; have c31 : w6.cell? ⟨g3, 1, none⟩ = some (.slice A l.length c) := (blk_cell BKg3.out 1).trans rfl) | (go_at_call 17; (with_reducible refine (HBG.out _ ?hbz).mono ?_); (case hbz => exact (by repeat (first | (with_reducible first | exact HB.out | apply XA | apply XN | apply XD) | exact HB.out))); rintro e_ w4 ⟨v4, rfl, ho, hb⟩; obtain ⟨Ao, co, rfl⟩ := Kd.R_slice ho; have BKg6n := As (YB (g := g6) (o := .cells #[.int .i64 0, .slice none 0 0] 25 (0, 0)) (by first | exact BKg6.out | ((with_reducible repeat (first | refine YN ?_ _ | refine YD ?_ | refine YA ?_ _)); exact BKg6.out)) hb); clear BKg6; have BKg6 := BKg6n; clear BKg6n; have HO := As (Kd.R_lower ho (XZ (by repeat (first | (with_reducible first | exact HB.out | apply XA | apply XN | apply XD) | exact HB.out)))); have n0_ := As (XT (by repeat (first | (with_reducible first | exact HB.out | apply XA | apply XN | apply XD) | exact HB.out)) hb); clear HB hb ho; have HB := n0_; clear n0_) | ((with_reducible refine gate_dst (N := 7) rfl ?_); refine box_event ?hg (N := 7) ?hd (cs := #[.int .i64 0, .slice none 0 0]) (t := 25) ?hr ?_; (case hd => rfl); (case hg => rfl); (case hr => first | (go_simp; done) | (go_simp; rfl)); intro g7 hg w7 hbox hb; have NE67 := As ((by rw [hg]; exact Nat.ne_of_lt (blk_lt (g := g6) (o := .cells #[.int .i64 0, .slice none 0 0] 25 (0, 0)) (by first | exact BKg6.out | ((with_reducible repeat (first | refine YN ?_ _ | refine YD ?_ | refine YA ?_ _)); exact BKg6.out))) : g6 ≠ g7)); have BKg6n := As (YB (g := g6) (o := .cells #[.int .i64 0, .slice none 0 0] 25 (0, 0)) (by first | exact BKg6.out | ((with_reducible repeat (first | refine YN ?_ _ | refine YD ?_ | refine YA ?_ _)); exact BKg6.out)) hb); clear BKg6; have BKg6 := BKg6n; clear BKg6n; have HO2 := As (RB (by (with_reducible repeat (first | apply RA | apply RN | apply RD)); exact HO.out) hb); clear HO; have HO := HO2; clear HO2; have n0_ := As (XT (by repeat (first | (with_reducible first | exact HB.out | apply XA | apply XN | apply XD) | exact HB.out)) hb); have BKg7 := As (hbox); have GEg7 := As ((by rw [hg]; exact (XZ (by repeat (first | (with_reducible first | exact HB.out | apply XA | apply XN | apply XD) | exact HB.out))) : w.heap.size ≤ g7)); clear HB; have HB := n0_; clear n0_; clear hb hbox hg; have hczg7_0 : w7.cell? ⟨g7, 0, none⟩ = some (.int .i64 0) := (blk_cell BKg7.out 0).trans rfl; have hczg7_1 : w7.cell? ⟨g7, 1, none⟩ = some (.slice none 0 0) := (blk_cell BKg7.out 1).trans rfl; have hfzg7_0 := blk_frozen BKg7.out 0; have hfzg7_1 := blk_frozen BKg7.out 1))
  obtain ⟨g, rfl⟩ := own_zero HO.out HY.out
  have NE76 := As (Ne.symm NE67.out)
  have BK7 := As (show ((w7.setCell ⟨g7, 0, none⟩ (.int .i64 nx')).setCell ⟨g7, 1, none⟩ (.slice (some ⟨g, 0, none⟩) ys.length co)).heap[g7]? = some (.cells #[.int .i64 nx', .slice (some ⟨g, 0, none⟩) ys.length co] 25 (0, 0)) from by refine blk_put (cs := #[.int .i64 nx', .slice none 0 0]) ?_ 1 _ rfl; refine blk_put (cs := #[.int .i64 0, .slice none 0 0]) ?_ 0 _ rfl; exact BKg7.out)
  have BK6 := As (show ((w7.setCell ⟨g7, 0, none⟩ (.int .i64 nx')).setCell ⟨g7, 1, none⟩ (.slice (some ⟨g, 0, none⟩) ys.length co)).heap[g6]? = some (.cells #[.int .i64 0, .slice none 0 0] 25 (0, 0)) from by refine blk_far ?_ NE67.out _; refine blk_far ?_ NE67.out _; exact BKg6.out)
  have HO2 := As (show Kd.R k47 47 ((w7.setCell ⟨g7, 0, none⟩ (.int .i64 nx')).setCell ⟨g7, 1, none⟩ (.slice (some ⟨g, 0, none⟩) ys.length co)) w.heap.size (fun _ => True) (.slice (some ⟨g, 0, none⟩) ys.length co) ys from RM (RF (p := ⟨g7, 1, none⟩) (RF (p := ⟨g7, 0, none⟩) (Kd.R_types HO.out BKg7.out (by decide)) (fun _ hk => hk.2) _) (fun _ hk => hk.2) _) (fun _ _ => trivial))
  have HB2 := As (show Below w.heap.size w ((w7.setCell ⟨g7, 0, none⟩ (.int .i64 nx')).setCell ⟨g7, 1, none⟩ (.slice (some ⟨g, 0, none⟩) ys.length co)) from (by repeat (first | (with_reducible first | exact HB.out | apply XA | apply XN | apply XD | refine XS ?_ GEg7.out) | exact HB.out)))
  have NG7 := As (show g7 ≠ g from fun e => Kd.R_ne HO.out BKg7.out (by decide) (by rw [e]; rfl))
  have NG6 := As (show g6 ≠ g from fun e => Kd.R_ne HO.out BKg6.out (by decide) (by rw [e]; rfl))
  clear HO HB BKg6 BKg7 hczg3_0 hczg3_1 hfzg3_0 hfzg3_1 hczg6_0 hczg6_1 hfzg6_0 hfzg6_1 c30 c31 hczg7_0 hczg7_1 hfzg7_0 hfzg7_1
  generalize ((w7.setCell ⟨g7, 0, none⟩ (.int .i64 nx')).setCell ⟨g7, 1, none⟩ (.slice (some ⟨g, 0, none⟩) ys.length co)) = wa at BK7 BK6 HO2 HB2 ⊢
  have HO := HO2
  have HB := HB2
  clear HO2 HB2
  simp only [errW_none]
  go_upto_region 4 with ((go_at_call 23; (with_reducible refine (HTM.out _).mono ?_); rintro e w' ⟨rfl, ⟨nd, rfl⟩⟩))
  have BK7d := As (show (wa.drewN nd).heap[g7]? = some (.cells #[.int .i64 nx', .slice (some ⟨g, 0, none⟩) ys.length co] 25 (0, 0)) from by (with_reducible repeat (first | refine YN ?_ _ | refine YD ?_ | refine YA ?_ _)); exact BK7.out)
  have BK6d := As (show (wa.drewN nd).heap[g6]? = some (.cells #[.int .i64 0, .slice none 0 0] 25 (0, 0)) from by (with_reducible repeat (first | refine YN ?_ _ | refine YD ?_ | refine YA ?_ _)); exact BK6.out)
  have HOd := As (show Kd.R k47 47 (wa.drewN nd) w.heap.size (fun _ => True) (.slice (some ⟨g, 0, none⟩) ys.length co) ys from by (with_reducible repeat (first | apply RA | apply RN | apply RD)); exact HO.out)
  have HBd := As (show Below w.heap.size w (wa.drewN nd) from (by repeat (first | (with_reducible first | exact HB.out | apply XA | apply XN | apply XD) | exact HB.out)))
  clear BK7 BK6 HO HB
  generalize (wa.drewN nd) = wb at BK7d BK6d HOd HBd ⊢
  have c71 : wb.cell? ⟨g7, 1, none⟩ = some (.slice (some ⟨g, 0, none⟩) ys.length co) := (blk_cell BK7d.out 1).trans rfl
  have c71b : (wb.alloc (.map #[] 0)).cell? ⟨g7, 1, none⟩ = some (.slice (some ⟨g, 0, none⟩) ys.length co) := (blk_cell (YA BK7d.out _) 1).trans rfl
  obtain ⟨b, hb⟩ : ∃ b, wb.heap.size = b := ⟨_, rfl⟩
  have hgb := own_lt (Kd.R_own HOd.out).choose_spec g (by simp [Value.ownBlock])
  have NB7 := As (show g7 ≠ b from fun e => by have := blk_lt BK7d.out; omega)
  have NB6 := As (show g6 ≠ b from fun e => by have := blk_lt BK6d.out; omega)
  have NBG := As (show b ≠ g from fun e => by omega)
  have GEb := As (show w.heap.size ≤ b from by rw [← hb]; exact HBd.out.size)
  have HM := As (show (wb.alloc (.map #[] 0)).ownsMap Tryd.prog 3 (plainElem (H := Unit) Tryd.prog 3) b 0 (.map []) from by rw [← hb]; exact World.ownsMap_made _ _ _ _)
  obtain ⟨Y, hY⟩ : ∃ Y, probL o t ys = Y := ⟨_, rfl⟩
  obtain ⟨F, hF⟩ : ∃ F, probF o t ys (fun _ => 0) = F := ⟨_, rfl⟩
  have HYe := As hY
  have HFe := As hF
  have HYl := As (show Y.length = ys.length by rw [← hY]; exact probL_len o t ys)
  have HYw := As (show ∀ d ∈ Y, (Lit.int .i64 d.f0).wf = true ∧ (Lit.int .i64 d.f6).wf = true by rw [← hY]; exact probL_wf o t ys HW.out)
  have HZ := As (show chainZ t Y F = Z by rw [← HZ0.out, ← hY, ← hF]; rfl)
  clear HZ0
  have HOa := As (show Kd.R k47 47 (wb.alloc (.map #[] 0)) w.heap.size (fun _ => True) (.slice (some ⟨g, 0, none⟩) ys.length co) ys from RA HOd.out _)
  have HBa := As (XA HBd.out (.map #[] 0))
  have BK7a := As (YA BK7d.out (.map #[] 0))
  have BK6a := As (YA BK6d.out (.map #[] 0))
  clear hY hF hgb HOd HBd BK7d BK6d
  go_upto_region 5 with fail
  try rw [hb]
  clear hb
  generalize (wb.alloc (.map #[] 0)) = wc at HM c71b HOa HBa BK7a BK6a ⊢
  clear c71
  go_wp2
  go_loopg [29] ys.length (fun kq v29 w' => ∃ (i m : Nat) (done rest : List S47) (f : Int → Int) (D : DataW Unit), v29 = .int .i64 (i : Int) ∧ kq + i = ys.length ∧ Aside0 (done.length = i ∧ i + rest.length = ys.length ∧ m ≤ i) ∧ Aside0 (Kd.R k47 47 w' w.heap.size (fun _ => True) (.slice (some ⟨g, 0, none⟩) ys.length co) (done ++ rest)) ∧ Aside0 (w'.ownsMap Tryd.prog 3 (plainElem Tryd.prog 3) b m D) ∧ Aside0 (MapIs D f) ∧ Aside0 (done ++ probL o t rest = Y) ∧ Aside0 (probF o t rest f = F) ∧ Aside0 (∀ d ∈ rest, (Lit.int .i64 d.f0).wf = true ∧ (Lit.int .i64 d.f6).wf = true) ∧ Aside0 (w'.heap[g7]? = some (.cells #[.int .i64 nx', .slice (some ⟨g, 0, none⟩) ys.length co] 25 (0, 0))) ∧ Aside0 (w'.heap[g6]? = some (.cells #[.int .i64 0, .slice none 0 0] 25 (0, 0))) ∧ Aside0 (Below w.heap.size w w'))
  case atStart => exact ⟨0, 0, [], ys, _, _, rfl, rfl, ⟨rfl, by rw [Nat.zero_add], Nat.le_refl _⟩, HOa, HM, ⟨MapIs.made⟩, ⟨by rw [List.nil_append]; exact HYe.out⟩, HFe, HW, BK7a, BK6a, HBa⟩
  case round =>
    clear HOa HM HYe HFe HW BK7a BK6a HBa c71b
    obtain ⟨i, m, done, rest, f, D, rfl, hk, HI, HR, HM, HF, HYe, HFe, HW, BK7, BK6, HB⟩ := hrel
    have c70 : wr.cell? ⟨g7, 0, none⟩ = some (.int .i64 nx') := (blk_cell BK7.out 0).trans rfl
    have c71 : wr.cell? ⟨g7, 1, none⟩ = some (.slice (some ⟨g, 0, none⟩) ys.length co) := (blk_cell BK7.out 1).trans rfl
    cases rest with
    | nil =>
      have e1 : i = ys.length := by have := HI.out; simp at this; omega
      have hm1 := HI.out.2.2
      have d1 : decide ((i : Int) < (ys.length : Int)) = false := dN (by omega)
      have d2 : decide (i < ys.length) = false := dN (by omega)
      have HC := As (chain_walk nx' t g ys.length co b m D f done w wr (by have h := HR.out; rw [List.append_nil] at h; exact h) HN.out HM.out (by have := HN.out; omega) HF.out GEb.out HB.out (by have h := HYe.out; unfold probL at h; rw [List.append_nil] at h; rw [h]; exact HYw.out))
      have HE := As (show chainZ t done f = Z by have h := HYe.out; unfold probL at h; rw [List.append_nil] at h; have h2 := HFe.out; unfold probF at h2; rw [h, h2]; exact HZ.out)
      clear e1 hk hm1
      have HCB := As (show ∀ W, W = wr → Calls Tryd.prog 24 #[.agg #[.int .i64 nx', (.slice (some ⟨g, 0, none⟩) ys.length co)], .int .i64 t, .map (some b)] W fun e w' => e = .returned (.tuple #[]) ∧ Kd.R k47 47 w' w.heap.size (fun _ => True) (.slice (some ⟨g, 0, none⟩) ys.length co) Z ∧ Below w.heap.size w w' ∧ w'.heap[g7]? = some (.cells #[.int .i64 nx', .slice (some ⟨g, 0, none⟩) ys.length co] 25 (0, 0)) ∧ w'.heap[g6]? = some (.cells #[.int .i64 0, .slice none 0 0] 25 (0, 0)) from by rintro W rfl; refine HC.out.mono ?_; rintro e w' ⟨he, h1, h2, h3⟩; rw [HE.out] at h1; exact ⟨he, h1, h2, (h3.2 g7 (blk_lt BK7.out) NG7.out NB7.out).trans BK7.out, (h3.2 g6 (blk_lt BK6.out) NG6.out NB6.out).trans BK6.out⟩)
      clear HC HE
      go_wp2_with (go_at_call 24; (with_reducible refine (HCB.out _ ?hbz).mono ?_); (case hbz => rfl); rintro e_ w8 ⟨rfl, hR8, hB8, hb7, hb6⟩; have HR8 := As hR8; have HB8 := As hB8; have BK78 := As hb7; have BK68 := As hb6; clear hR8 hB8 hb7 hb6; have c78 : w8.cell? ⟨g7, 0, none⟩ = some (.int .i64 nx') := (blk_cell BK78.out 0).trans rfl; have c79 : w8.cell? ⟨g7, 1, none⟩ = some (.slice (some ⟨g, 0, none⟩) ys.length co) := (blk_cell BK78.out 1).trans rfl; have c68 : w8.cell? ⟨g6, 0, none⟩ = some (.int .i64 0) := (blk_cell BK68.out 0).trans rfl; have c69 : w8.cell? ⟨g6, 1, none⟩ = some (.slice none 0 0) := (blk_cell BK68.out 1).trans rfl; have f68 := blk_frozen BK68.out 0; have f69 := blk_frozen BK68.out 1)
      refine bodyPost_ret (results_cell_row rfl _ _ g6 25 #[.int .i64 nx', .slice (some ⟨g, 0, none⟩) ys.length co] (0, 0) _ rfl (by (with_reducible repeat (first | refine YN ?_ _ | refine YD ?_ | refine YA ?_ _)); refine blk_put (cs := #[.int .i64 nx', .slice none 0 0]) ?_ 1 _ rfl; (with_reducible repeat (first | refine YN ?_ _ | refine YD ?_ | refine YA ?_ _)); refine blk_put (cs := #[.int .i64 0, .slice none 0 0]) ?_ 0 _ rfl; (with_reducible repeat (first | refine YN ?_ _ | refine YD ?_ | refine YA ?_ _)); exact BK68.out) Tryd.underlying25 rfl (by kernel_rfl)) rfl ?_
      exact ⟨_, rfl, RM (RF (p := ⟨g6, 1, none⟩) (RF (p := ⟨g6, 0, none⟩) (Kd.R_types HR8.out BK68.out (by decide)) (fun _ hk => hk.2) _) (fun _ hk => hk.2) _) (fun _ _ => trivial), by refine XS ?_ GEg6.out; refine XS ?_ GEg6.out; exact HB8.out⟩
    | cons d r =>
      have hl := HI.out
      have hi : i < ys.length := by have := hl.2.1; simp at this; omega
      have d1 : decide ((i : Int) < (ys.length : Int)) = true := dY (by omega)
      have d2 : decide (i < ys.length) = true := dY hi
      have p1 : (0 : Int) ≤ (i : Int) := Int.natCast_nonneg _
      have p2 : (i : Int) < (ys.length : Int) := by omega
      have hd : (done ++ d :: r).getD ((i : Int)).toNat z47 = d := by rw [Int.toNat_natCast, ← hl.1]; exact getD_mid done d z47 r
      obtain ⟨cc, hcl, hMm, hcc, hfr⟩ := Kd.R_elem HR.out z47 (i : Int) p1 p2
      rw [hd] at hMm
      obtain rfl := k47_openM hMm
      have q0 : wr.cell? ⟨g, i * 8, none⟩ = some (.int .i64 d.f0) := hcc 0 _ rfl
      have q1 : wr.cell? ⟨g, i * 8 + 1, none⟩ = some (.int .i64 d.f1) := hcc 1 _ rfl
      have q2 : wr.cell? ⟨g, i * 8 + 2, none⟩ = some (.int .i64 d.f2) := hcc 2 _ rfl
      have q3 : wr.cell? ⟨g, i * 8 + 3, none⟩ = some (.int .i64 d.f3) := hcc 3 _ rfl
      have q4 : wr.cell? ⟨g, i * 8 + 4, none⟩ = some (.bool d.f4) := hcc 4 _ rfl
      have q6 : wr.cell? ⟨g, i * 8 + 6, none⟩ = some (.int .i64 d.f6) := hcc 6 _ rfl
      have q7 : wr.cell? ⟨g, i * 8 + 7, none⟩ = some (.int .i64 d.f7) := hcc 7 _ rfl
      have r7 : wr.frozen? ⟨g, i * 8 + 7, none⟩ = false := hfr 7
      have hwd := HW.out d (.head _)
      have HCL := As hcl
      have HCC := As hcc
      have HWD := As hwd
      clear hl hd hcc hfr hMm hcl hwd
      by_cases h4 : d.f4 = false
      rotate_left 1
      · have h4t : d.f4 = true := by cases hh : d.f4 with | true => rfl | false => exact absurd hh h4
        rw [h4t] at q4
        have HX := As (show ¬ hit o t d from fun h => h4 h.1)
        go_wp2
        go_roundg (ys.length - (i + 1))
        case measure => omega
        case rel => exact ⟨i + 1, m, done ++ [d], r, f, D, by rw [show wrap64 ((i : Int) + 1) = ((i + 1 : Nat) : Int) by have := HN.out; unfold wrap64; omega], by omega, ⟨by rw [List.length_append, HI.out.1]; rfl, by have := HI.out.2.1; simp at this; omega, by have := HI.out.2.2; omega⟩, ⟨by rw [List.append_assoc]; exact HR.out⟩, HM, HF, ⟨by have h := HYe.out; rw [probL, if_neg HX.out] at h; rw [List.append_assoc]; exact h⟩, ⟨by have h := HFe.out; rw [probF, if_neg HX.out] at h; exact h⟩, ⟨fun x hx => HW.out x (.tail _ hx)⟩, BK7, BK6, HB⟩
      rw [h4] at q4
      have H4 := As h4
      clear h4
      by_cases h6 : d.f6 = 0
      rotate_left 1
      · have e6 : (d.f6 == 0) = false := by simp [h6]
        have e6b : decide (d.f6 = 0) = false := dN h6
        have HX := As (show ¬ hit o t d from fun h => h6 h.2.1)
        go_wp2
        go_roundg (ys.length - (i + 1))
        case measure => omega
        case rel => exact ⟨i + 1, m, done ++ [d], r, f, D, by rw [show wrap64 ((i : Int) + 1) = ((i + 1 : Nat) : Int) by have := HN.out; unfold wrap64; omega], by omega, ⟨by rw [List.length_append, HI.out.1]; rfl, by have := HI.out.2.1; simp at this; omega, by have := HI.out.2.2; omega⟩, ⟨by rw [List.append_assoc]; exact HR.out⟩, HM, HF, ⟨by have h := HYe.out; rw [probL, if_neg HX.out] at h; rw [List.append_assoc]; exact h⟩, ⟨by have h := HFe.out; rw [probF, if_neg HX.out] at h; exact h⟩, ⟨fun x hx => HW.out x (.tail _ hx)⟩, BK7, BK6, HB⟩
      have e6 : (d.f6 == 0) = true := by simp [h6]
      have e6b : decide (d.f6 = 0) = true := dY h6
      have H6 := As h6
      clear h6
      by_cases h1 : d.f1 = o
      rotate_left 1
      · have e1 : (d.f1 == o) = false := by simp [h1]
        have e1b : decide (d.f1 = o) = false := dN h1
        have HX := As (show ¬ hit o t d from fun h => h1 h.2.2.1)
        go_wp2
        go_roundg (ys.length - (i + 1))
        case measure => omega
        case rel => exact ⟨i + 1, m, done ++ [d], r, f, D, by rw [show wrap64 ((i : Int) + 1) = ((i + 1 : Nat) : Int) by have := HN.out; unfold wrap64; omega], by omega, ⟨by rw [List.length_append, HI.out.1]; rfl, by have := HI.out.2.1; simp at this; omega, by have := HI.out.2.2; omega⟩, ⟨by rw [List.append_assoc]; exact HR.out⟩, HM, HF, ⟨by have h := HYe.out; rw [probL, if_neg HX.out] at h; rw [List.append_assoc]; exact h⟩, ⟨by have h := HFe.out; rw [probF, if_neg HX.out] at h; exact h⟩, ⟨fun x hx => HW.out x (.tail _ hx)⟩, BK7, BK6, HB⟩
      have e1 : (d.f1 == o) = true := by simp [h1]
      have e1b : decide (d.f1 = o) = true := dY h1
      have H1 := As h1
      clear h1
      by_cases h7 : d.f7 = -1
      rotate_left 1
      · have e7 : (d.f7 == -1) = false := by simp [h7]
        have e7b : decide (d.f7 = -1) = false := dN h7
        have HX := As (show ¬ hit o t d from fun h => h7 h.2.2.2.1)
        go_wp2
        go_roundg (ys.length - (i + 1))
        case measure => omega
        case rel => exact ⟨i + 1, m, done ++ [d], r, f, D, by rw [show wrap64 ((i : Int) + 1) = ((i + 1 : Nat) : Int) by have := HN.out; unfold wrap64; omega], by omega, ⟨by rw [List.length_append, HI.out.1]; rfl, by have := HI.out.2.1; simp at this; omega, by have := HI.out.2.2; omega⟩, ⟨by rw [List.append_assoc]; exact HR.out⟩, HM, HF, ⟨by have h := HYe.out; rw [probL, if_neg HX.out] at h; rw [List.append_assoc]; exact h⟩, ⟨by have h := HFe.out; rw [probF, if_neg HX.out] at h; exact h⟩, ⟨fun x hx => HW.out x (.tail _ hx)⟩, BK7, BK6, HB⟩
      have e7 : (d.f7 == -1) = true := by simp [h7]
      have e7b : decide (d.f7 = -1) = true := dY h7
      have H7 := As h7
      clear h7
      by_cases h2 : d.f2 ≤ t
      rotate_left 1
      · have e2 : decide (d.f2 ≤ t) = false := dN h2
        have HX := As (show ¬ hit o t d from fun h => h2 h.2.2.2.2.1)
        go_wp2
        go_roundg (ys.length - (i + 1))
        case measure => omega
        case rel => exact ⟨i + 1, m, done ++ [d], r, f, D, by rw [show wrap64 ((i : Int) + 1) = ((i + 1 : Nat) : Int) by have := HN.out; unfold wrap64; omega], by omega, ⟨by rw [List.length_append, HI.out.1]; rfl, by have := HI.out.2.1; simp at this; omega, by have := HI.out.2.2; omega⟩, ⟨by rw [List.append_assoc]; exact HR.out⟩, HM, HF, ⟨by have h := HYe.out; rw [probL, if_neg HX.out] at h; rw [List.append_assoc]; exact h⟩, ⟨by have h := HFe.out; rw [probF, if_neg HX.out] at h; exact h⟩, ⟨fun x hx => HW.out x (.tail _ hx)⟩, BK7, BK6, HB⟩
      have e2 : decide (d.f2 ≤ t) = true := dY h2
      have H2 := As h2
      clear h2
      by_cases h3 : t < d.f3
      rotate_left 1
      · have e3 : decide (t < d.f3) = false := dN h3
        have HX := As (show ¬ hit o t d from fun h => h3 h.2.2.2.2.2)
        go_wp2
        go_roundg (ys.length - (i + 1))
        case measure => omega
        case rel => exact ⟨i + 1, m, done ++ [d], r, f, D, by rw [show wrap64 ((i : Int) + 1) = ((i + 1 : Nat) : Int) by have := HN.out; unfold wrap64; omega], by omega, ⟨by rw [List.length_append, HI.out.1]; rfl, by have := HI.out.2.1; simp at this; omega, by have := HI.out.2.2; omega⟩, ⟨by rw [List.append_assoc]; exact HR.out⟩, HM, HF, ⟨by have h := HYe.out; rw [probL, if_neg HX.out] at h; rw [List.append_assoc]; exact h⟩, ⟨by have h := HFe.out; rw [probF, if_neg HX.out] at h; exact h⟩, ⟨fun x hx => HW.out x (.tail _ hx)⟩, BK7, BK6, HB⟩
      have e3 : decide (t < d.f3) = true := dY h3
      have H3 := As h3
      clear h3
      have HX := As (show hit o t d from ⟨H4.out, H6.out, H1.out, H7.out, H2.out, H3.out⟩)
      have HP := As (Kd.R_seg HR.out (i : Int) p1 p2 (seg := [.int .i64 t]) (j := 7) HCL.out HCC.out (show 7 + 1 ≤ 8 by decide) (x' := startAt t d) (k47_mkM _ _ _ (startAt t d)) (fun _ hk => hk))
      have HM2 := As (HM.out.setCell (a := ⟨g, i * 8 + 7, none⟩) NBG.out (.int .i64 t))
      have q02 : (wr.setCell ⟨g, i * 8 + 7, none⟩ (.int .i64 t)).cell? ⟨g, i * 8, none⟩ = some (.int .i64 d.f0) := by rw [World.cell?_setCell_other _ _ _ _ (by intro e; injection e with _ e; omega)]; exact q0
      go_wp2_with (at_mapUpdate; refine wpList_mapUpdate_own _ rfl _ _ _ 66 rfl 3 3 law3 Tryd.underlying66 _ b m D rfl HM2.out (by have := HI.out.2.2; have := HI.out.2.1; have := HN.out; unfold maxLen; omega) _ _ _ rfl rfl (keyOf_int_mk Tryd.underlying3 HWD.out.1) _ [] (plainElem_int Tryd.underlying3 (by decide)) ?_; intro w2 hm2 hg2)
      have h1 : Kd.R k47 47 (wr.setCell ⟨g, i * 8 + 7, none⟩ (.int .i64 t)) w.heap.size (fun _ => True) (.slice (some ⟨g, 0, none⟩) ys.length co) ((done ++ d :: r).set i (startAt t d)) := HP.out.1
      have e1 : (done ++ d :: r).set i (startAt t d) = (done ++ [startAt t d]) ++ r := by rw [← HI.out.1]; exact set_mid done d (startAt t d) r
      have g1 : wr.grownBy (wr.setCell ⟨g, i * 8 + 7, none⟩ (.int .i64 t)) (some g) := HP.out.2
      have h7 : (wr.setCell ⟨g, i * 8 + 7, none⟩ (.int .i64 t)).heap[g7]? = some (.cells #[.int .i64 nx', .slice (some ⟨g, 0, none⟩) ys.length co] 25 (0, 0)) := blk_far BK7.out NG7.out _
      have h6 : (wr.setCell ⟨g, i * 8 + 7, none⟩ (.int .i64 t)).heap[g6]? = some (.cells #[.int .i64 0, .slice none 0 0] 25 (0, 0)) := blk_far BK6.out NG6.out _
      have HR2 := As (RM (Kd.R_grown (R_notmap (e1 ▸ h1) HM2.out) hg2 (fun k hk e => hk.2 (by injection e))) (fun _ hk => hk.1) : Kd.R k47 47 w2 w.heap.size (fun _ => True) (.slice (some ⟨g, 0, none⟩) ys.length co) ((done ++ [startAt t d]) ++ r))
      have BK72 := As ((hg2.block g7 (blk_lt h7) (fun e => NB7.out (by injection e))).trans h7)
      have BK62 := As ((hg2.block g6 (blk_lt h6) (fun e => NB6.out (by injection e))).trans h6)
      have HB2 := As ((HB.out.grown g1 HB.out.size (fun k e => Kd.R_base HR.out k (by injection e with e; simp [Value.ownBlock, e]))).grown hg2 (Nat.le_trans HB.out.size g1.size) (fun k e => by injection e with e; rw [← e]; exact GEb.out))
      have HM3 := As hm2
      have HF2 := As (HF.out.put HM.out.isMap d.f0)
      clear h1 e1 g1 h7 h6 hm2 hg2
      go_roundg (ys.length - (i + 1))
      case measure => omega
      case rel => exact ⟨i + 1, m + 1, done ++ [startAt t d], r, setOne f d.f0, _, by rw [show wrap64 ((i : Int) + 1) = ((i + 1 : Nat) : Int) by have := HN.out; unfold wrap64; omega], by omega, ⟨by rw [List.length_append, HI.out.1]; rfl, by have := HI.out.2.1; simp at this; omega, by have := HI.out.2.2; omega⟩, HR2, HM3, HF2, ⟨by have h := HYe.out; rw [probL, if_pos HX.out] at h; rw [List.append_assoc]; exact h⟩, ⟨by have h := HFe.out; rw [probF, if_pos HX.out] at h; exact h⟩, ⟨fun x hx => HW.out x (.tail _ hx)⟩, BK72, BK62, HB2⟩
set_option maxRecDepth 100000 in
set_option maxHeartbeats 4000000 in
theorem chain_none (next t : Int) (A : Option Addr) (n c b : Nat) (w : World) (hn : n = 0) :
    Calls Tryd.prog 24 #[.agg #[.int .i64 next, .slice A n c], .int .i64 t, .map (some b)] w fun e w' => e = .returned (.tuple #[]) ∧ Below w.heap.size w w' := by
  subst hn
  have BK := As (show (w.alloc (.cells #[.int .i64 next, .slice A 0 c] 25)).heap[w.heap.size]? = some (.cells #[.int .i64 next, .slice A 0 c] 25 (0, 0)) by first | exact heap_alloc_new w _ | simp [World.alloc])
  have c1 : (w.alloc (.cells #[.int .i64 next, .slice A 0 c] 25)).cell? ⟨w.heap.size, 1, none⟩ = some (.slice A 0 c) := (blk_cell BK.out 1).trans rfl
  go_enter Tryd.func24, Tryd.ntmps24
  go_wp2
  refine wp_loop_rounds 1 ?_
  rw [rounds_succ]
  go_wp2
  refine Go.Great.bodyPost_end0 rfl rfl ?_
  exact ⟨rfl, XA (Below.refl _ _) _⟩
set_option maxRecDepth 100000 in
set_option maxHeartbeats 4000000 in
theorem problem_empty (nx nx' o t : Int) (A : Option Addr) (c k : Nat) (l ys : List S47) (w : World) (hr : Kd.C k47 w A l.length l) (hc : l.length ≤ c) (hbg : dBg.f k nx l = some (nx', ys, none)) (ht : down_timely.f t = some true) (hy : ys.length = 0) :
    Calls Tryd.prog 7 #[.agg #[.int .i64 nx, .slice A l.length c], .int .i64 o, .int .i64 t] w fun e w' => ∃ v, e = .returned (.agg #[.int .i64 nx', v]) ∧ Kd.R k47 47 w' w.heap.size (fun _ => True) v ys ∧ Below w.heap.size w w' := by
  have hmm := @run_makeMap Tryd.prog
  have hu25 := Tryd.underlying25
  have HBG := As (fun W (hb : Below w.heap.size w W) => dBg.calls k nx A c l nx' ys none W (Kd.C_below hr hb) hc hbg)
  have HTM := As (fun W => down_timely.calls t true W ht)
  have HB := As (Below.refl w.heap.size w)
  have HY := As hy
  clear hr hc hbg ht hy
  go_enter Tryd.func7, Tryd.ntmps7
  go_upto_region 2 with (first | ((with_reducible refine gate_dst (N := 3) rfl ?_); refine box_event ?hg (N := 3) ?hd (cs := #[.int .i64 nx, .slice A l.length c]) (t := 25) ?hr ?_; (case hd => rfl); (case hg => rfl); (case hr => first | (go_simp; done) | (go_simp; rfl)); intro g3 hg w3 hbox hb; have n0_ := As (XT (by repeat (first | (with_reducible first | exact HB.out | apply XA | apply XN | apply XD) | exact HB.out)) hb); have BKg3 := As (hbox); have GEg3 := As ((by rw [hg]; exact (XZ (by repeat (first | (with_reducible first | exact HB.out | apply XA | apply XN | apply XD) | exact HB.out))) : w.heap.size ≤ g3)); clear HB; have HB := n0_; clear n0_; clear hb hbox hg; have hczg3_0 : w3.cell? ⟨g3, 0, none⟩ = some (.int .i64 nx) := (blk_cell BKg3.out 0).trans rfl; have hczg3_1 : w3.cell? ⟨g3, 1, none⟩ = some (.slice A l.length c) := (blk_cell BKg3.out 1).trans rfl; have hfzg3_0 := blk_frozen BKg3.out 0; have hfzg3_1 := blk_frozen BKg3.out 1) | ((with_reducible refine gate_dst (N := 6) rfl ?_); refine box_event ?hg (N := 6) ?hd (cs := #[.int .i64 0, .slice none 0 0]) (t := 25) ?hr ?_; (case hd => rfl); (case hg => rfl); (case hr => first | (go_simp; done) | (go_simp; rfl)); intro g6 hg w6 hbox hb; have NE36 := As ((by rw [hg]; exact Nat.ne_of_lt (blk_lt (g := g3) (o := .cells #[.int .i64 nx, .slice A l.length c] 25 (0, 0)) (by first | exact BKg3.out | ((with_reducible repeat (first | refine YN ?_ _ | refine YD ?_ | refine YA ?_ _)); exact BKg3.out))) : g3 ≠ g6)); have BKg3n := As (YB (g := g3) (o := .cells #[.int .i64 nx, .slice A l.length c] 25 (0, 0)) (by first | exact BKg3.out | ((with_reducible repeat (first | refine YN ?_ _ | refine YD ?_ | refine YA ?_ _)); exact BKg3.out)) hb); clear BKg3; have BKg3 := BKg3n; clear BKg3n; have n0_ := As (XT (by repeat (first | (with_reducible first | exact HB.out | apply XA | apply XN | apply XD) | exact HB.out)) hb); have BKg6 := As (hbox); have GEg6 := As ((by rw [hg]; exact (XZ (by repeat (first | (with_reducible first | exact HB.out | apply XA | apply XN | apply XD) | exact HB.out))) : w.heap.size ≤ g6)); clear HB; have HB := n0_; clear n0_; clear hb hbox hg; have hczg6_0 : w6.cell? ⟨g6, 0, none⟩ = some (.int .i64 0) := (blk_cell BKg6.out 0).trans rfl; have hczg6_1 : w6.cell? ⟨g6, 1, none⟩ = some (.slice none 0 0) := (blk_cell BKg6.out 1).trans rfl; have hfzg6_0 := blk_frozen BKg6.out 0; have hfzg6_1 := blk_frozen BKg6.out 1; have c30 : w6.cell? ⟨g3, 0, none⟩ = some (.int .i64 nx) := (blk_cell BKg3.out 0).trans rfl; have c31 : w6.cell? ⟨g3, 1, none⟩ = some (.slice A l.length c) := (blk_cell BKg3.out 1).trans rfl) | (go_at_call 17; (with_reducible refine (HBG.out _ ?hbz).mono ?_); (case hbz => exact (by repeat (first | (with_reducible first | exact HB.out | apply XA | apply XN | apply XD) | exact HB.out))); rintro e_ w4 ⟨v4, rfl, ho, hb⟩; obtain ⟨Ao, co, rfl⟩ := Kd.R_slice ho; have BKg6n := As (YB (g := g6) (o := .cells #[.int .i64 0, .slice none 0 0] 25 (0, 0)) (by first | exact BKg6.out | ((with_reducible repeat (first | refine YN ?_ _ | refine YD ?_ | refine YA ?_ _)); exact BKg6.out)) hb); clear BKg6; have BKg6 := BKg6n; clear BKg6n; have HO := As (Kd.R_lower ho (XZ (by repeat (first | (with_reducible first | exact HB.out | apply XA | apply XN | apply XD) | exact HB.out)))); have n0_ := As (XT (by repeat (first | (with_reducible first | exact HB.out | apply XA | apply XN | apply XD) | exact HB.out)) hb); clear HB hb ho; have HB := n0_; clear n0_) | ((with_reducible refine gate_dst (N := 7) rfl ?_); refine box_event ?hg (N := 7) ?hd (cs := #[.int .i64 0, .slice none 0 0]) (t := 25) ?hr ?_; (case hd => rfl); (case hg => rfl); (case hr => first | (go_simp; done) | (go_simp; rfl)); intro g7 hg w7 hbox hb; have NE67 := As ((by rw [hg]; exact Nat.ne_of_lt (blk_lt (g := g6) (o := .cells #[.int .i64 0, .slice none 0 0] 25 (0, 0)) (by first | exact BKg6.out | ((with_reducible repeat (first | refine YN ?_ _ | refine YD ?_ | refine YA ?_ _)); exact BKg6.out))) : g6 ≠ g7)); have BKg6n := As (YB (g := g6) (o := .cells #[.int .i64 0, .slice none 0 0] 25 (0, 0)) (by first | exact BKg6.out | ((with_reducible repeat (first | refine YN ?_ _ | refine YD ?_ | refine YA ?_ _)); exact BKg6.out)) hb); clear BKg6; have BKg6 := BKg6n; clear BKg6n; have HO2 := As (RB (by (with_reducible repeat (first | apply RA | apply RN | apply RD)); exact HO.out) hb); clear HO; have HO := HO2; clear HO2; have n0_ := As (XT (by repeat (first | (with_reducible first | exact HB.out | apply XA | apply XN | apply XD) | exact HB.out)) hb); have BKg7 := As (hbox); have GEg7 := As ((by rw [hg]; exact (XZ (by repeat (first | (with_reducible first | exact HB.out | apply XA | apply XN | apply XD) | exact HB.out))) : w.heap.size ≤ g7)); clear HB; have HB := n0_; clear n0_; clear hb hbox hg; have hczg7_0 : w7.cell? ⟨g7, 0, none⟩ = some (.int .i64 0) := (blk_cell BKg7.out 0).trans rfl; have hczg7_1 : w7.cell? ⟨g7, 1, none⟩ = some (.slice none 0 0) := (blk_cell BKg7.out 1).trans rfl; have hfzg7_0 := blk_frozen BKg7.out 0; have hfzg7_1 := blk_frozen BKg7.out 1))
  have hy0 := HY.out
  have d1 : decide ((0 : Int) < (ys.length : Int)) = false := dN (by omega)
  have d2 : decide (0 < ys.length) = false := dN (by omega)
  clear hy0
  have NE76 := As (Ne.symm NE67.out)
  have BK7 := As (show ((w7.setCell ⟨g7, 0, none⟩ (.int .i64 nx')).setCell ⟨g7, 1, none⟩ (.slice Ao ys.length co)).heap[g7]? = some (.cells #[.int .i64 nx', (.slice Ao ys.length co)] 25 (0, 0)) from by refine blk_put (cs := #[.int .i64 nx', .slice none 0 0]) ?_ 1 _ rfl; refine blk_put (cs := #[.int .i64 0, .slice none 0 0]) ?_ 0 _ rfl; exact BKg7.out)
  have BK6 := As (show ((w7.setCell ⟨g7, 0, none⟩ (.int .i64 nx')).setCell ⟨g7, 1, none⟩ (.slice Ao ys.length co)).heap[g6]? = some (.cells #[.int .i64 0, .slice none 0 0] 25 (0, 0)) from by refine blk_far ?_ NE67.out _; refine blk_far ?_ NE67.out _; exact BKg6.out)
  have HO2 := As (show Kd.R k47 47 ((w7.setCell ⟨g7, 0, none⟩ (.int .i64 nx')).setCell ⟨g7, 1, none⟩ (.slice Ao ys.length co)) w.heap.size (fun _ => True) (.slice Ao ys.length co) ys from RM (RF (p := ⟨g7, 1, none⟩) (RF (p := ⟨g7, 0, none⟩) (Kd.R_types HO.out BKg7.out (by decide)) (fun _ hk => hk.2) _) (fun _ hk => hk.2) _) (fun _ _ => trivial))
  have HB2 := As (show Below w.heap.size w ((w7.setCell ⟨g7, 0, none⟩ (.int .i64 nx')).setCell ⟨g7, 1, none⟩ (.slice Ao ys.length co)) from (by repeat (first | (with_reducible first | exact HB.out | apply XA | apply XN | apply XD | refine XS ?_ GEg7.out) | exact HB.out)))
  clear HO HB BKg6 BKg7 hczg3_0 hczg3_1 hfzg3_0 hfzg3_1 hczg6_0 hczg6_1 hfzg6_0 hfzg6_1 c30 c31 hczg7_0 hczg7_1 hfzg7_0 hfzg7_1
  generalize ((w7.setCell ⟨g7, 0, none⟩ (.int .i64 nx')).setCell ⟨g7, 1, none⟩ (.slice Ao ys.length co)) = wa at BK7 BK6 HO2 HB2 ⊢
  have HO := HO2
  have HB := HB2
  clear HO2 HB2
  simp only [errW_none]
  go_upto_region 4 with ((go_at_call 23; (with_reducible refine (HTM.out _).mono ?_); rintro e w' ⟨rfl, ⟨nd, rfl⟩⟩))
  have BK7d := As (show (wa.drewN nd).heap[g7]? = some (.cells #[.int .i64 nx', (.slice Ao ys.length co)] 25 (0, 0)) from by (with_reducible repeat (first | refine YN ?_ _ | refine YD ?_ | refine YA ?_ _)); exact BK7.out)
  have BK6d := As (show (wa.drewN nd).heap[g6]? = some (.cells #[.int .i64 0, .slice none 0 0] 25 (0, 0)) from by (with_reducible repeat (first | refine YN ?_ _ | refine YD ?_ | refine YA ?_ _)); exact BK6.out)
  have HOd := As (show Kd.R k47 47 (wa.drewN nd) w.heap.size (fun _ => True) (.slice Ao ys.length co) ys from by (with_reducible repeat (first | apply RA | apply RN | apply RD)); exact HO.out)
  have HBd := As (show Below w.heap.size w (wa.drewN nd) from (by repeat (first | (with_reducible first | exact HB.out | apply XA | apply XN | apply XD) | exact HB.out)))
  clear BK7 BK6 HO HB
  generalize (wa.drewN nd) = wb at BK7d BK6d HOd HBd ⊢
  have c71 : wb.cell? ⟨g7, 1, none⟩ = some (.slice Ao ys.length co) := (blk_cell BK7d.out 1).trans rfl
  have c71b : (wb.alloc (.map #[] 0)).cell? ⟨g7, 1, none⟩ = some (.slice Ao ys.length co) := (blk_cell (YA BK7d.out _) 1).trans rfl
  have c70b : (wb.alloc (.map #[] 0)).cell? ⟨g7, 0, none⟩ = some (.int .i64 nx') := (blk_cell (YA BK7d.out _) 0).trans rfl
  have HOa := As (show Kd.R k47 47 (wb.alloc (.map #[] 0)) w.heap.size (fun _ => True) (.slice Ao ys.length co) ys from RA HOd.out _)
  have HBa := As (XA HBd.out (.map #[] 0))
  have BK7a := As (YA BK7d.out (.map #[] 0))
  have BK6a := As (YA BK6d.out (.map #[] 0))
  clear HOd HBd BK7d BK6d
  go_upto_region 5 with fail
  generalize (wb.alloc (.map #[] 0)) = wc at c71b c70b HOa HBa BK7a BK6a ⊢
  clear c71
  go_wp2
  refine wp_loop_rounds 1 ?_
  rw [rounds_succ]
  go_wp2_with (go_at_call 24; (with_reducible refine (chain_none nx' t _ _ co _ _ HY.out).mono ?_); rintro e_ w8 ⟨rfl, hb⟩; have HR8 := As (RB HOa.out hb); have HB8 := As (XT HBa.out hb); have BK78 := As (YB BK7a.out hb); have BK68 := As (YB BK6a.out hb); clear hb; have c78 : w8.cell? ⟨g7, 0, none⟩ = some (.int .i64 nx') := (blk_cell BK78.out 0).trans rfl; have c79 : w8.cell? ⟨g7, 1, none⟩ = some (.slice Ao ys.length co) := (blk_cell BK78.out 1).trans rfl; have c68 : w8.cell? ⟨g6, 0, none⟩ = some (.int .i64 0) := (blk_cell BK68.out 0).trans rfl; have c69 : w8.cell? ⟨g6, 1, none⟩ = some (.slice none 0 0) := (blk_cell BK68.out 1).trans rfl; have f68 := blk_frozen BK68.out 0; have f69 := blk_frozen BK68.out 1)
  refine bodyPost_ret (results_cell_row rfl _ _ g6 25 #[.int .i64 nx', (.slice Ao ys.length co)] (0, 0) _ rfl (by (with_reducible repeat (first | refine YN ?_ _ | refine YD ?_ | refine YA ?_ _)); refine blk_put (cs := #[.int .i64 nx', .slice none 0 0]) ?_ 1 _ rfl; (with_reducible repeat (first | refine YN ?_ _ | refine YD ?_ | refine YA ?_ _)); refine blk_put (cs := #[.int .i64 0, .slice none 0 0]) ?_ 0 _ rfl; (with_reducible repeat (first | refine YN ?_ _ | refine YD ?_ | refine YA ?_ _)); exact BK68.out) Tryd.underlying25 rfl (by kernel_rfl)) rfl ?_
  exact ⟨_, rfl, RM (RF (p := ⟨g6, 1, none⟩) (RF (p := ⟨g6, 0, none⟩) (Kd.R_types HR8.out BK68.out (by decide)) (fun _ hk => hk.2) _) (fun _ hk => hk.2) _) (fun _ _ => trivial), by refine XS ?_ GEg6.out; refine XS ?_ GEg6.out; exact HB8.out⟩
def wfAll (l : List S47) : Bool := l.all fun d => (Lit.int .i64 d.f0).wf && (Lit.int .i64 d.f6).wf
def probIf (o t : Int) (b : Int × (List (S47)) × Option Int) : Option (Int × (List (S47))) :=
  if b.2.2 = none ∧ 0 ≤ t ∧ t ≤ 4611686018427387904 ∧ b.2.1.length ≤ 4096 ∧ wfAll b.2.1 = true then some (b.1, probZ o t b.2.1) else none
def dPb.f (k : Nat) (a0 : Int) (l : List (S47)) (o t : Int) : Option (Int × (List (S47))) := (dBg.f k a0 l).bind (probIf o t)
theorem dPb.mono : ∀ a0_0 l0_1 a1 a2 k, LeO (dPb.f k a0_0 l0_1 a1 a2) (dPb.f (k + 1) a0_0 l0_1 a1 a2) := by
  intro a l o t k r h
  unfold dPb.f at h ⊢
  obtain ⟨b, hb, he⟩ := bE h
  exact Option.bind_eq_some_iff.mpr ⟨b, dBg.mono _ _ _ _ hb, he⟩
theorem dPb.calls (k : Nat) (a0_0 : Int) (A0_1 : Option Addr) (c0_1 : Nat) (l0_1 : List (S47)) (a1 a2 : Int) (r1 : Int) (r2 : List (S47)) (w : World) (hr0_1 : Kd.C k47 w A0_1 l0_1.length l0_1) (hc0_1 : l0_1.length ≤ c0_1) (h : dPb.f k a0_0 l0_1 a1 a2 = some (r1, r2)) :
    Calls Tryd.prog 7 #[.agg #[.int .i64 a0_0, .slice A0_1 l0_1.length c0_1], .int .i64 a1, .int .i64 a2] w fun e w' => ∃ v1_ : Value, e = .returned (.agg #[.int .i64 r1, v1_]) ∧ Kd.R k47 47 w' w.heap.size (fun _ => True) v1_ r2 ∧ Below w.heap.size w w' := by
  obtain ⟨⟨nx', ys, er⟩, hb, he⟩ := bE h
  unfold probIf at he
  split at he
  case isTrue hc =>
    obtain ⟨h1, h2, h3, h5, h6⟩ := hc
    have h1' : er = none := h1
    subst h1'
    have he2 : some (nx', probZ a1 a2 ys) = some (r1, r2) := he
    simp only [Option.some.injEq, Prod.mk.injEq] at he2
    obtain ⟨rfl, rfl⟩ := he2
    by_cases h4 : 0 < ys.length
    case neg =>
      have e : ys = [] := List.eq_nil_of_length_eq_zero (by omega)
      subst e
      exact problem_empty a0_0 nx' a1 a2 A0_1 c0_1 k l0_1 [] w hr0_1 hc0_1 hb (by unfold down_timely.f; rw [if_pos h2, dY h3]) rfl
    refine problem_walk a0_0 nx' a1 a2 A0_1 c0_1 k l0_1 ys w hr0_1 hc0_1 hb (by unfold down_timely.f; rw [if_pos h2, dY h3]) h5 h4 (fun d hd => ?_)
    have h7 := List.all_eq_true.mp h6 d hd
    rw [Bool.and_eq_true] at h7
    exact h7
  case isFalse hc => cases he
end Go.Proofs.YtgmdaaenhmclfaaDoor.P
