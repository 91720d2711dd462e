/- The walk of down.Pass, at lists that may be and a time. -/
import Derived.Test.YtgmdaaenhmclfaaDoorDnProblem
import Derived.Test.YtgmdaaenhmclfaaDoorDnOver
namespace Go.Proofs.YtgmdaaenhmclfaaDoor.P
open Go.RowKit Go.Maps Go.Proofs.YtgmdaaenhmclfaaDoorW.PrintWords Go.Proofs.YtgmdaaenhmclfaaDoorW.PrintLast Go.Proofs.YtgmdaaenhmclfaaDoorW.PrintMore
attribute [local go_sem] max2_int min2_int max_two min_two max_three min_three max_four min_four
set_option linter.unusedVariables false
set_option linter.unusedSimpArgs false
set_option maxRecDepth 100000 in
set_option maxHeartbeats 4000000 in
theorem chain_empty (next t : Int) (A : Option Addr) (c b : Nat) (w : World) :
    Calls Tryd.prog 24 #[.agg #[.int .i64 next, .slice A 0 c], .int .i64 t, .map (some b)] w fun e w' => e = .returned (.tuple #[]) ∧ Below w.heap.size w w' := by
  have BK := As (show (w.alloc (.cells #[.int .i64 next, .slice A 0 c] 25)).heap[w.heap.size]? = some (.cells #[.int .i64 next, .slice A 0 c] 25 (0, 0)) by first | exact heap_alloc_new w _ | simp [World.alloc])
  have c1 : (w.alloc (.cells #[.int .i64 next, .slice A 0 c] 25)).cell? ⟨w.heap.size, 1, none⟩ = some (.slice A 0 c) := (blk_cell BK.out 1).trans rfl
  go_enter Tryd.func24, Tryd.ntmps24
  go_wp2
  refine wp_loop_rounds 1 ?_
  rw [rounds_succ]
  go_wp2
  refine Go.Great.bodyPost_end0 rfl rfl ?_
  exact ⟨rfl, XA (Below.refl _ _) _⟩
theorem chain_any (next t : Int) (A : Option Addr) (n c b m0 : Nat) (D0 : DataW Unit) (f0 : Int → Int) (xs : List S47) (w0 w : World) (hR : Kd.R k47 47 w w0.heap.size (fun _ => True) (.slice A n c) xs) (hn : n ≤ 4096) (hM : w.ownsMap Tryd.prog 3 (plainElem Tryd.prog 3) b m0 D0) (hm : m0 ≤ 4096) (hf : MapIs D0 f0) (hb : w0.heap.size ≤ b) (hB : Below w0.heap.size w0 w)
    (hwf : ∀ d ∈ xs, (Lit.int .i64 d.f0).wf = true ∧ (Lit.int .i64 d.f6).wf = true) :
    Calls Tryd.prog 24 #[.agg #[.int .i64 next, .slice A n c], .int .i64 t, .map (some b)] w fun e w' => e = .returned (.tuple #[]) ∧ Kd.R k47 47 w' w0.heap.size (fun _ => True) (.slice A n c) (chainZ t xs f0) ∧ Below w0.heap.size w0 w' ∧ w.heap.size ≤ w'.heap.size ∧ ∀ k, k < w.heap.size → some k ≠ (Value.slice A n c).ownBlock → k ≠ b → w'.heap[k]? = w.heap[k]? := by
  have hlen : n = xs.length := (RR hR).1
  subst hlen
  cases xs with
  | nil =>
    refine (chain_empty next t A c b w).mono ?_
    rintro e w' ⟨he, hb1⟩
    exact ⟨he, RB hR hb1, XT hB hb1, hb1.size, fun k hk _ _ => hb1.block k hk⟩
  | cons d r =>
    obtain ⟨g, rfl⟩ := own_zero hR (by simp)
    refine (chain_walk next t g (d :: r).length c b m0 D0 f0 (d :: r) w0 w hR hn hM hm hf hb hB hwf).mono ?_
    rintro e w' ⟨he, h1, h2, h3⟩
    exact ⟨he, h1, h2, h3.1, fun k hk hk1 hk2 => h3.2 k hk (fun e => hk1 (by rw [e]; rfl)) hk2⟩
theorem chain_len (t : Int) (l : List S47) (f : Int → Int) : (chainZ t l f).length = l.length := by
  induction l generalizing f with
  | nil => rfl
  | cons d r ih => unfold chainZ; (repeat' split) <;> simp [ih]
theorem chain_wf (t : Int) (l : List S47) (f : Int → Int) (h : ∀ d ∈ l, (Lit.int .i64 d.f0).wf = true ∧ (Lit.int .i64 d.f6).wf = true) : ∀ d ∈ chainZ t l f, (Lit.int .i64 d.f0).wf = true ∧ (Lit.int .i64 d.f6).wf = true := by
  induction l generalizing f with
  | nil => intro d hd; cases hd
  | cons e r ih =>
    intro d hd
    have h1 := fun f => ih f (fun x hx => h x (.tail _ hx))
    have h2 := h e (.head _)
    unfold chainZ at hd
    (repeat' split at hd) <;> (rcases List.mem_cons.mp hd with rfl | hd <;> first | exact h2 | exact h1 _ _ hd)
def passF (t : Int) : List S47 → (Int → Int) → (Int → Int)
  | [], f => f
  | d :: r, f => if d.f4 = true ∧ d.f2 ≤ t then passF t r (setOne f d.f0) else passF t r f
def passL (t : Int) : List S47 → (Int → Int) → List S47
  | [], _ => []
  | d :: r, f => if overZ t f d = true then passL t r f else d :: passL t r (setOne f d.f0)
def passZ (t : Int) (l : List S47) : List S47 := passL t (chainZ t l (passF t l (fun _ => 0))) (fun _ => 0)
theorem own_zero' {n : Nat} {ys : List S47} {w : World} {base co : Nat} {ok : Nat → Prop} {Ao : Option Addr} (h : Kd.R k47 47 w base ok (.slice Ao n co) ys) (hy : 0 < ys.length) : ∃ g, Ao = some ⟨g, 0, none⟩ := by
  obtain ⟨inner, ho⟩ := Kd.R_own h
  rcases ho.2 with ⟨h1, h2⟩ | ⟨g, cap, cur, h1, _⟩
  · omega
  · injection h1 with h1 _ _
    exact ⟨g, h1⟩
set_option maxRecDepth 100000 in
set_option maxHeartbeats 4000000 in
theorem pass_walk (nx nx' t : Int) (A : Option Addr) (c k : Nat) (l ys : List S47) (w : World) (hr : Kd.C k47 w A l.length l) (hc : l.length ≤ c) (hbg : dBg.f k nx l = some (nx', ys, none)) (ht : down_timely.f t = some true) (hn : ys.length ≤ 4096)
    (hwf : ∀ d ∈ ys, (Lit.int .i64 d.f0).wf = true ∧ (Lit.int .i64 d.f6).wf = true) :
    Calls Tryd.prog 9 #[.agg #[.int .i64 nx, .slice A l.length c], .int .i64 t] w fun e w' => ∃ v, e = .returned (.agg #[.int .i64 nx', v]) ∧ Kd.R k47 47 w' w.heap.size (fun _ => True) v (passZ t ys) ∧ Below w.heap.size w w' := by
  have hmm := @run_makeMap Tryd.prog
  have hu25 := Tryd.underlying25
  have HBG := As (fun W (hb : Below w.heap.size w W) => dBg.calls k nx A c l nx' ys none W (Kd.C_below hr hb) hc hbg)
  have HTM := As (fun W => down_timely.calls t true W ht)
  have HB := As (Below.refl w.heap.size w)
  have HN := As hn
  have HW := As hwf
  obtain ⟨Z, hZ⟩ : ∃ Z, passZ t ys = Z := ⟨_, rfl⟩
  rw [hZ]
  have HZ0 := As hZ
  clear hr hc hbg ht hn hwf hZ
  go_enter Tryd.func9, Tryd.ntmps9
  go_upto_region 2 with (first | ((with_reducible refine gate_dst (N := 2) rfl ?_); refine box_event ?hg (N := 2) ?hd (cs := #[.int .i64 nx, .slice A l.length c]) (t := 25) ?hr ?_; (case hd => rfl); (case hg => rfl); (case hr => first | (go_simp; done) | (go_simp; rfl)); intro g2 hg w2 hbox hb; have n0_ := As (XT (by repeat (first | (with_reducible first | exact HB.out | apply XA | apply XN | apply XD) | exact HB.out)) hb); have BKg2 := As (hbox); have GEg2 := As ((by rw [hg]; exact (XZ (by repeat (first | (with_reducible first | exact HB.out | apply XA | apply XN | apply XD) | exact HB.out))) : w.heap.size ≤ g2)); clear HB; have HB := n0_; clear n0_; clear hb hbox hg; have hczg2_0 : w2.cell? ⟨g2, 0, none⟩ = some (.int .i64 nx) := (blk_cell BKg2.out 0).trans rfl; have hczg2_1 : w2.cell? ⟨g2, 1, none⟩ = some (.slice A l.length c) := (blk_cell BKg2.out 1).trans rfl; have hfzg2_0 := blk_frozen BKg2.out 0; have hfzg2_1 := blk_frozen BKg2.out 1) | ((with_reducible refine gate_dst (N := 4) rfl ?_); refine box_event ?hg (N := 4) ?hd (cs := #[.int .i64 0, .slice none 0 0]) (t := 25) ?hr ?_; (case hd => rfl); (case hg => rfl); (case hr => first | (go_simp; done) | (go_simp; rfl)); intro g4 hg w4 hbox hb; have NE24 := As ((by rw [hg]; exact Nat.ne_of_lt (blk_lt (g := g2) (o := .cells #[.int .i64 nx, .slice A l.length c] 25 (0, 0)) (by first | exact BKg2.out | ((with_reducible repeat (first | refine YN ?_ _ | refine YD ?_ | refine YA ?_ _)); exact BKg2.out))) : g2 ≠ g4)); have BKg2n := As (YB (g := g2) (o := .cells #[.int .i64 nx, .slice A l.length c] 25 (0, 0)) (by first | exact BKg2.out | ((with_reducible repeat (first | refine YN ?_ _ | refine YD ?_ | refine YA ?_ _)); exact BKg2.out)) hb); clear BKg2; have BKg2 := BKg2n; clear BKg2n; have n0_ := As (XT (by repeat (first | (with_reducible first | exact HB.out | apply XA | apply XN | apply XD) | exact HB.out)) hb); have BKg4 := As (hbox); have GEg4 := As ((by rw [hg]; exact (XZ (by repeat (first | (with_reducible first | exact HB.out | apply XA | apply XN | apply XD) | exact HB.out))) : w.heap.size ≤ g4)); clear HB; have HB := n0_; clear n0_; clear hb hbox hg; have hczg4_0 : w4.cell? ⟨g4, 0, none⟩ = some (.int .i64 0) := (blk_cell BKg4.out 0).trans rfl; have hczg4_1 : w4.cell? ⟨g4, 1, none⟩ = some (.slice none 0 0) := (blk_cell BKg4.out 1).trans rfl; have hfzg4_0 := blk_frozen BKg4.out 0; have hfzg4_1 := blk_frozen BKg4.out 1; have c30 : w4.cell? ⟨g2, 0, none⟩ = some (.int .i64 nx) := (blk_cell BKg2.out 0).trans rfl; have c31 : w4.cell? ⟨g2, 1, none⟩ = some (.slice A l.length c) := (blk_cell BKg2.out 1).trans rfl) | (go_at_call 17; (with_reducible refine (HBG.out _ ?hbz).mono ?_); (case hbz => exact (by repeat (first | (with_reducible first | exact HB.out | apply XA | apply XN | apply XD) | exact HB.out))); rintro e_ w3 ⟨v3, rfl, ho, hb⟩; obtain ⟨Ao, co, rfl⟩ := Kd.R_slice ho; have BKg4n := As (YB (g := g4) (o := .cells #[.int .i64 0, .slice none 0 0] 25 (0, 0)) (by first | exact BKg4.out | ((with_reducible repeat (first | refine YN ?_ _ | refine YD ?_ | refine YA ?_ _)); exact BKg4.out)) hb); clear BKg4; have BKg4 := BKg4n; clear BKg4n; have HO := As (Kd.R_lower ho (XZ (by repeat (first | (with_reducible first | exact HB.out | apply XA | apply XN | apply XD) | exact HB.out)))); have n0_ := As (XT (by repeat (first | (with_reducible first | exact HB.out | apply XA | apply XN | apply XD) | exact HB.out)) hb); clear HB hb ho; have HB := n0_; clear n0_) | ((with_reducible refine gate_dst (N := 5) rfl ?_); refine box_event ?hg (N := 5) ?hd (cs := #[.int .i64 0, .slice none 0 0]) (t := 25) ?hr ?_; (case hd => rfl); (case hg => rfl); (case hr => first | (go_simp; done) | (go_simp; rfl)); intro g5 hg w5 hbox hb; have NE45 := As ((by rw [hg]; exact Nat.ne_of_lt (blk_lt (g := g4) (o := .cells #[.int .i64 0, .slice none 0 0] 25 (0, 0)) (by first | exact BKg4.out | ((with_reducible repeat (first | refine YN ?_ _ | refine YD ?_ | refine YA ?_ _)); exact BKg4.out))) : g4 ≠ g5)); have BKg4n := As (YB (g := g4) (o := .cells #[.int .i64 0, .slice none 0 0] 25 (0, 0)) (by first | exact BKg4.out | ((with_reducible repeat (first | refine YN ?_ _ | refine YD ?_ | refine YA ?_ _)); exact BKg4.out)) hb); clear BKg4; have BKg4 := BKg4n; clear BKg4n; have HO2 := As (RB (by (with_reducible repeat (first | apply RA | apply RN | apply RD)); exact HO.out) hb); clear HO; have HO := HO2; clear HO2; have n0_ := As (XT (by repeat (first | (with_reducible first | exact HB.out | apply XA | apply XN | apply XD) | exact HB.out)) hb); have BKg5 := As (hbox); have GEg5 := As ((by rw [hg]; exact (XZ (by repeat (first | (with_reducible first | exact HB.out | apply XA | apply XN | apply XD) | exact HB.out))) : w.heap.size ≤ g5)); clear HB; have HB := n0_; clear n0_; clear hb hbox hg; have hczg5_0 : w5.cell? ⟨g5, 0, none⟩ = some (.int .i64 0) := (blk_cell BKg5.out 0).trans rfl; have hczg5_1 : w5.cell? ⟨g5, 1, none⟩ = some (.slice none 0 0) := (blk_cell BKg5.out 1).trans rfl; have hfzg5_0 := blk_frozen BKg5.out 0; have hfzg5_1 := blk_frozen BKg5.out 1))
  have NE54 := As (Ne.symm NE45.out)
  have BK5 := As (show ((w5.setCell ⟨g5, 0, none⟩ (.int .i64 nx')).setCell ⟨g5, 1, none⟩ (.slice Ao ys.length co)).heap[g5]? = some (.cells #[.int .i64 nx', .slice Ao ys.length co] 25 (0, 0)) from by refine blk_put (cs := #[.int .i64 nx', .slice none 0 0]) ?_ 1 _ rfl; refine blk_put (cs := #[.int .i64 0, .slice none 0 0]) ?_ 0 _ rfl; exact BKg5.out)
  have BK4 := As (show ((w5.setCell ⟨g5, 0, none⟩ (.int .i64 nx')).setCell ⟨g5, 1, none⟩ (.slice Ao ys.length co)).heap[g4]? = some (.cells #[.int .i64 0, .slice none 0 0] 25 (0, 0)) from by refine blk_far ?_ NE45.out _; refine blk_far ?_ NE45.out _; exact BKg4.out)
  have HO2 := As (show Kd.R k47 47 ((w5.setCell ⟨g5, 0, none⟩ (.int .i64 nx')).setCell ⟨g5, 1, none⟩ (.slice Ao ys.length co)) w.heap.size (fun _ => True) (.slice Ao ys.length co) ys from RM (RF (p := ⟨g5, 1, none⟩) (RF (p := ⟨g5, 0, none⟩) (Kd.R_types HO.out BKg5.out (by decide)) (fun _ hk => hk.2) _) (fun _ hk => hk.2) _) (fun _ _ => trivial))
  have HB2 := As (show Below w.heap.size w ((w5.setCell ⟨g5, 0, none⟩ (.int .i64 nx')).setCell ⟨g5, 1, none⟩ (.slice Ao ys.length co)) from (by repeat (first | (with_reducible first | exact HB.out | apply XA | apply XN | apply XD | refine XS ?_ GEg5.out) | exact HB.out)))
  have NV5 := As (show some g5 ≠ Value.ownBlock (.slice Ao ys.length co) from Kd.R_ne HO.out BKg5.out (by decide))
  have NV4 := As (show some g4 ≠ Value.ownBlock (.slice Ao ys.length co) from Kd.R_ne HO.out BKg4.out (by decide))
  clear HO HB BKg4 BKg5 hczg2_0 hczg2_1 hfzg2_0 hfzg2_1 hczg4_0 hczg4_1 hfzg4_0 hfzg4_1 c30 c31 hczg5_0 hczg5_1 hfzg5_0 hfzg5_1
  generalize ((w5.setCell ⟨g5, 0, none⟩ (.int .i64 nx')).setCell ⟨g5, 1, none⟩ (.slice Ao ys.length co)) = wa at BK5 BK4 HO2 HB2 ⊢
  have HO := HO2
  have HB := HB2
  clear HO2 HB2
  simp only [errW_none]
  go_upto_region 4 with ((go_at_call 23; (with_reducible refine (HTM.out _).mono ?_); rintro e w' ⟨rfl, ⟨nd, rfl⟩⟩))
  have BK5d := As (show (wa.drewN nd).heap[g5]? = some (.cells #[.int .i64 nx', .slice Ao ys.length co] 25 (0, 0)) from by (with_reducible repeat (first | refine YN ?_ _ | refine YD ?_ | refine YA ?_ _)); exact BK5.out)
  have BK4d := As (show (wa.drewN nd).heap[g4]? = some (.cells #[.int .i64 0, .slice none 0 0] 25 (0, 0)) from by (with_reducible repeat (first | refine YN ?_ _ | refine YD ?_ | refine YA ?_ _)); exact BK4.out)
  have HOd := As (show Kd.R k47 47 (wa.drewN nd) w.heap.size (fun _ => True) (.slice Ao ys.length co) ys from by (with_reducible repeat (first | apply RA | apply RN | apply RD)); exact HO.out)
  have HBd := As (show Below w.heap.size w (wa.drewN nd) from (by repeat (first | (with_reducible first | exact HB.out | apply XA | apply XN | apply XD) | exact HB.out)))
  clear BK5 BK4 HO HB
  generalize (wa.drewN nd) = wb at BK5d BK4d HOd HBd ⊢
  have c51 : wb.cell? ⟨g5, 1, none⟩ = some (.slice Ao ys.length co) := (blk_cell BK5d.out 1).trans rfl
  have c51b : (wb.alloc (.map #[] 0)).cell? ⟨g5, 1, none⟩ = some (.slice Ao ys.length co) := (blk_cell (YA BK5d.out _) 1).trans rfl
  obtain ⟨b1, hb⟩ : ∃ b, wb.heap.size = b := ⟨_, rfl⟩
  have NB5 := As (show g5 ≠ b1 from fun e => by have := blk_lt BK5d.out; omega)
  have NB4 := As (show g4 ≠ b1 from fun e => by have := blk_lt BK4d.out; omega)
  have GEb := As (show w.heap.size ≤ b1 from by rw [← hb]; exact HBd.out.size)
  have HM := As (show (wb.alloc (.map #[] 0)).ownsMap Tryd.prog 3 (plainElem (H := Unit) Tryd.prog 3) b1 0 (.map []) from by rw [← hb]; exact World.ownsMap_made _ _ _ _)
  obtain ⟨F, hF⟩ : ∃ F, passF t ys (fun _ => 0) = F := ⟨_, rfl⟩
  have HFe := As hF
  have HZ := As (show passL t (chainZ t ys F) (fun _ => 0) = Z by rw [← HZ0.out, ← hF]; rfl)
  have HOa := As (show Kd.R k47 47 (wb.alloc (.map #[] 0)) w.heap.size (fun _ => True) (.slice Ao ys.length co) ys from RA HOd.out _)
  have HBa := As (XA HBd.out (.map #[] 0))
  have BK5a := As (YA BK5d.out (.map #[] 0))
  have BK4a := As (YA BK4d.out (.map #[] 0))
  have HA0 := As (show [] ++ ys = ys from rfl)
  clear HZ0 hF HOd HBd BK5d BK4d
  go_upto_region 5 with fail
  try rw [hb]
  clear hb
  generalize (wb.alloc (.map #[] 0)) = wc at HM c51b HOa HBa BK5a BK4a ⊢
  clear c51
  go_wp2
  go_loopg [31] ys.length (fun kq v31 w' => ∃ (i m : Nat) (done rest : List S47) (f : Int → Int) (D : DataW Unit), v31 = .int .i64 (i : Int) ∧ kq + i = ys.length ∧ Aside0 (done.length = i ∧ i + rest.length = ys.length ∧ m ≤ i) ∧ Aside0 (Kd.R k47 47 w' w.heap.size (fun _ => True) (.slice Ao ys.length co) (done ++ rest)) ∧ Aside0 (w'.ownsMap Tryd.prog 3 (plainElem Tryd.prog 3) b1 m D) ∧ Aside0 (MapIs D f) ∧ Aside0 (done ++ rest = ys) ∧ Aside0 (passF t rest f = F) ∧ Aside0 (∀ d ∈ rest, (Lit.int .i64 d.f0).wf = true ∧ (Lit.int .i64 d.f6).wf = true) ∧ Aside0 (w'.heap[g5]? = some (.cells #[.int .i64 nx', .slice Ao ys.length co] 25 (0, 0))) ∧ Aside0 (w'.heap[g4]? = some (.cells #[.int .i64 0, .slice none 0 0] 25 (0, 0))) ∧ Aside0 (Below w.heap.size w w'))
  case atStart => exact ⟨0, 0, [], ys, _, _, rfl, rfl, ⟨rfl, by rw [Nat.zero_add], Nat.le_refl _⟩, HOa, HM, ⟨MapIs.made⟩, HA0, HFe, HW, BK5a, BK4a, HBa⟩
  case round =>
    clear HOa HM HFe BK5a BK4a HBa c51b HA0
    have HWY := HW
    clear HW
    obtain ⟨i, m, done, rest, f, D, rfl, hk, HI, HR, HM, HF, HA, HFe, HW, BK5, BK4, HB⟩ := hrel
    have c50 : wr.cell? ⟨g5, 0, none⟩ = some (.int .i64 nx') := (blk_cell BK5.out 0).trans rfl
    have c51 : wr.cell? ⟨g5, 1, none⟩ = some (.slice Ao ys.length co) := (blk_cell BK5.out 1).trans rfl
    cases rest with
    | nil =>
      have e1 : i = ys.length := by have := HI.out; simp at this; omega
      have hm1 := HI.out.2.2
      have d1 : decide ((i : Int) < (ys.length : Int)) = false := dN (by omega)
      have d2 : decide (i < ys.length) = false := dN (by omega)
      have HRy := As (show Kd.R k47 47 wr w.heap.size (fun _ => True) (.slice Ao ys.length co) ys from by have h := HR.out; rw [HA.out] at h; exact h)
      have HC := As (chain_any nx' t Ao ys.length co b1 m D F ys w wr HRy.out HN.out HM.out (by have := HN.out; omega) (by have h := HFe.out; unfold passF at h; rw [← h]; exact HF.out) GEb.out HB.out HWY.out)
      obtain ⟨zs, hzs⟩ : ∃ zs, chainZ t ys F = zs := ⟨_, rfl⟩
      have HCB := As (show ∀ W, W = wr → Calls Tryd.prog 24 #[.agg #[.int .i64 nx', (.slice Ao ys.length co)], .int .i64 t, .map (some b1)] W fun e w' => e = .returned (.tuple #[]) ∧ Kd.R k47 47 w' w.heap.size (fun _ => True) (.slice Ao ys.length co) zs ∧ Below w.heap.size w w' ∧ w'.heap[g5]? = some (.cells #[.int .i64 nx', .slice Ao ys.length co] 25 (0, 0)) ∧ w'.heap[g4]? = some (.cells #[.int .i64 0, .slice none 0 0] 25 (0, 0)) from by rintro W rfl; refine HC.out.mono ?_; rintro e w' ⟨he, h1, h2, h3, h4⟩; rw [hzs] at h1; exact ⟨he, h1, h2, (h4 g5 (blk_lt BK5.out) NV5.out NB5.out).trans BK5.out, (h4 g4 (blk_lt BK4.out) NV4.out NB4.out).trans BK4.out⟩)
      have HZz := As (show passL t zs (fun _ => 0) = Z by rw [← hzs]; exact HZ.out)
      have HWz := As (show ∀ d ∈ zs, (Lit.int .i64 d.f0).wf = true ∧ (Lit.int .i64 d.f6).wf = true by rw [← hzs]; exact chain_wf t ys F HWY.out)
      have HLz := As (show zs.length = ys.length by rw [← hzs]; exact chain_len t ys F)
      clear HC e1 hk hm1 hzs HZ HWY HFe HF HM HI HW HR HRy HA
      go_upto_region 13 with (go_at_call 24; (with_reducible refine (HCB.out _ ?hbz).mono ?_); (case hbz => rfl); rintro e_ w8 ⟨rfl, hR8, hB8, hb5, hb4⟩; have HR8 := As hR8; have HB8 := As hB8; have BK58 := As hb5; have BK48 := As hb4; clear hR8 hB8 hb5 hb4)
      obtain ⟨b2, hb2⟩ : ∃ b, w8.heap.size = b := ⟨_, rfl⟩
      have NB52 := As (show g5 ≠ b2 from fun e => by have := blk_lt BK58.out; omega)
      have NB42 := As (show g4 ≠ b2 from fun e => by have := blk_lt BK48.out; omega)
      have GE2 := As (show w.heap.size ≤ b2 from by rw [← hb2]; exact HB8.out.size)
      have HM := As (show (w8.alloc (.map #[] 0)).ownsMap Tryd.prog 3 (plainElem (H := Unit) Tryd.prog 3) b2 0 (.map []) from by rw [← hb2]; exact World.ownsMap_made _ _ _ _)
      have HRm := RA HR8.out (.map #[] 0)
      have HBm := As (XA HB8.out (.map #[] 0))
      have BK5m := As (YA BK58.out (.map #[] 0))
      have BK4m := As (YA BK48.out (.map #[] 0))
      clear HR8 HB8 BK58 BK48 BK5 BK4 HB c50 c51
      try rw [hb2]
      clear hb2
      generalize (w8.alloc (.map #[] 0)) = we at HM HRm HBm BK5m BK4m ⊢
      obtain ⟨S2, hS2⟩ : ∃ S, we.heap.size = S := ⟨_, rfl⟩
      have HRe := As (show Kd.R k47 47 we w.heap.size (fun k => k < S2) (.slice Ao ys.length co) ([] ++ zs) from by rw [← hS2, List.nil_append]; exact RM (Kd.R_bound HRm) (fun k hk => hk.2.2.1))
      have LB2 := As (show b2 < S2 from by rw [← hS2]; exact HM.out.lt)
      have LG5 := As (show g5 < S2 from by rw [← hS2]; exact blk_lt BK5m.out)
      have LG4 := As (show g4 < S2 from by rw [← hS2]; exact blk_lt BK4m.out)
      have GES := As (show w.heap.size ≤ S2 from by rw [← hS2]; exact HBm.out.size)
      have HSe := As (Nat.le_of_eq hS2.symm)
      have c51 : we.cell? ⟨g5, 1, none⟩ = some (.slice Ao ys.length co) := (blk_cell BK5m.out 1).trans rfl
      have HZ2 := As (show [] ++ passL t zs (fun _ => 0) = Z from HZz.out)
      clear HRm hS2
      go_wp2
      go_loopg [11, 55] ys.length (fun kq v11 v55 w' => ∃ (i m : Nat) (v : Value) (done rest lefts : List S47) (f : Int → Int) (D : DataW Unit), v11 = v ∧ v55 = .int .i64 (i : Int) ∧ kq + i = ys.length ∧ Aside0 (done.length = i ∧ i + rest.length = ys.length ∧ m ≤ i) ∧ Aside0 (Kd.R k47 47 w' w.heap.size (fun k => k < S2) (.slice Ao ys.length co) (done ++ rest)) ∧ Aside0 (w'.ownsMap Tryd.prog 3 (plainElem Tryd.prog 3) b2 m D) ∧ Aside0 (MapIs D f) ∧ Aside0 (lefts ++ passL t rest f = Z) ∧ Aside0 (Kd.R k47 47 w' S2 (fun _ => True) v lefts) ∧ Aside0 (lefts.length ≤ i) ∧ Aside0 (∀ d ∈ rest, (Lit.int .i64 d.f0).wf = true ∧ (Lit.int .i64 d.f6).wf = true) ∧ Aside0 (w'.heap[g5]? = some (.cells #[.int .i64 nx', .slice Ao ys.length co] 25 (0, 0))) ∧ Aside0 (w'.heap[g4]? = some (.cells #[.int .i64 0, .slice none 0 0] 25 (0, 0))) ∧ Aside0 (Below w.heap.size w w') ∧ Aside0 (S2 ≤ w'.heap.size))
      case atStart => exact ⟨0, 0, _, [], zs, [], _, _, rfl, rfl, rfl, ⟨rfl, by rw [Nat.zero_add]; exact HLz.out, Nat.le_refl _⟩, HRe, HM, ⟨MapIs.made⟩, HZ2, ⟨Kd.R_nil _ _ _ _ _⟩, ⟨Nat.le_refl _⟩, HWz, BK5m, BK4m, HBm, HSe⟩
      case round =>
        clear HRe HM HZ2 HWz BK5m BK4m HBm HSe c51 hmm HCB HZz HLz
        obtain ⟨i2, m2, v, done2, rest2, lefts, f2, D2, rfl, rfl, hk, HI, HR, HM, HF, HZe, HL, HLl, HW, BK5, BK4, HB, HS⟩ := hrel
        obtain ⟨Av, cv, rfl⟩ := Kd.R_slice HL.out
        have c50 : wr.cell? ⟨g5, 0, none⟩ = some (.int .i64 nx') := (blk_cell BK5.out 0).trans rfl
        have c51 : wr.cell? ⟨g5, 1, none⟩ = some (.slice Ao ys.length co) := (blk_cell BK5.out 1).trans rfl
        cases rest2 with
        | nil =>
          have e1 : i2 = ys.length := by have := HI.out; simp at this; omega
          have d1 : decide ((i2 : Int) < (ys.length : Int)) = false := dN (by omega)
          have d2 : decide (i2 < ys.length) = false := dN (by omega)
          have c68 : wr.cell? ⟨g4, 0, none⟩ = some (.int .i64 0) := (blk_cell BK4.out 0).trans rfl
          have c69 : wr.cell? ⟨g4, 1, none⟩ = some (.slice none 0 0) := (blk_cell BK4.out 1).trans rfl
          have f68 := blk_frozen BK4.out 0
          have f69 := blk_frozen BK4.out 1
          have HZl := As (show lefts = Z from by have h := HZe.out; unfold passL at h; rw [List.append_nil] at h; exact h)
          clear e1 hk
          go_wp2
          refine bodyPost_ret (results_cell_row rfl _ _ g4 25 #[.int .i64 nx', .slice Av lefts.length cv] (0, 0) _ rfl (by (with_reducible repeat (first | refine YN ?_ _ | refine YD ?_ | refine YA ?_ _)); refine blk_put (cs := #[.int .i64 nx', .slice none 0 0]) ?_ 1 _ rfl; (with_reducible repeat (first | refine YN ?_ _ | refine YD ?_ | refine YA ?_ _)); refine blk_put (cs := #[.int .i64 0, .slice none 0 0]) ?_ 0 _ rfl; (with_reducible repeat (first | refine YN ?_ _ | refine YD ?_ | refine YA ?_ _)); exact BK4.out) Tryd.underlying25 rfl (by kernel_rfl)) rfl ?_
          exact ⟨_, rfl, by rw [← HZl.out]; exact RM (RF (p := ⟨g4, 1, none⟩) (RF (p := ⟨g4, 0, none⟩) (Kd.R_types (Kd.R_lower HL.out GES.out) BK4.out (by decide)) (fun _ hk => hk.2) _) (fun _ hk => hk.2) _) (fun _ _ => trivial), by refine XS ?_ GEg4.out; refine XS ?_ GEg4.out; exact HB.out⟩
        | cons d r =>
          obtain ⟨g, rfl⟩ := own_zero' HR.out (by rw [List.length_append, List.length_cons]; omega)
          have hl := HI.out
          have hi : i2 < ys.length := by have := hl.2.1; simp at this; omega
          have d1 : decide ((i2 : Int) < (ys.length : Int)) = true := dY (by omega)
          have d2 : decide (i2 < ys.length) = true := dY hi
          have p1 : (0 : Int) ≤ (i2 : Int) := Int.natCast_nonneg _
          have p2 : (i2 : Int) < (ys.length : Int) := by omega
          have hd : (done2 ++ d :: r).getD ((i2 : Int)).toNat z47 = d := by rw [Int.toNat_natCast, ← hl.1]; exact getD_mid done2 d z47 r
          obtain ⟨cc, hcl, hMm, hcc, hfr⟩ := Kd.R_elem HR.out z47 (i2 : Int) p1 p2
          rw [hd] at hMm
          obtain rfl := k47_openM hMm
          have q0 : wr.cell? ⟨g, i2 * 8, none⟩ = some (.int .i64 d.f0) := hcc 0 _ rfl
          have q1 : wr.cell? ⟨g, i2 * 8 + 1, none⟩ = some (.int .i64 d.f1) := hcc 1 _ rfl
          have q2 : wr.cell? ⟨g, i2 * 8 + 2, none⟩ = some (.int .i64 d.f2) := hcc 2 _ rfl
          have q3 : wr.cell? ⟨g, i2 * 8 + 3, none⟩ = some (.int .i64 d.f3) := hcc 3 _ rfl
          have q4 : wr.cell? ⟨g, i2 * 8 + 4, none⟩ = some (.bool d.f4) := hcc 4 _ rfl
          have q5 : wr.cell? ⟨g, i2 * 8 + 5, none⟩ = some (.int .i64 d.f5) := hcc 5 _ rfl
          have q6 : wr.cell? ⟨g, i2 * 8 + 6, none⟩ = some (.int .i64 d.f6) := hcc 6 _ rfl
          have q7 : wr.cell? ⟨g, i2 * 8 + 7, none⟩ = some (.int .i64 d.f7) := hcc 7 _ rfl
          have hwd := HW.out d (.head _)
          have HWD := As hwd
          clear hl hd hcc hfr hMm hcl hwd
          obtain ⟨o, ho⟩ : ∃ o, overZ t f2 d = o := ⟨_, rfl⟩
          have HV := As (show ∀ W, W = wr.alloc (.cells #[.int .i64 d.f0, .int .i64 d.f1, .int .i64 d.f2, .int .i64 d.f3, .bool d.f4, .int .i64 d.f5, .int .i64 d.f6, .int .i64 d.f7] 47) → Calls Tryd.prog 28 #[.agg #[.int .i64 d.f0, .int .i64 d.f1, .int .i64 d.f2, .int .i64 d.f3, .bool d.f4, .int .i64 d.f5, .int .i64 d.f6, .int .i64 d.f7], .int .i64 t, .map (some b2)] W fun e w' => e = .returned (.bool o) ∧ Below W.heap.size W w' from by rintro W rfl; rw [← ho]; exact over_walk d t b2 m2 D2 f2 _ (HM.out.alloc _) HF.out HWD.out.2)
          have HOo := As ho
          clear ho
          cases o with
          | true =>
            go_wp2_with (go_at_call 28; (with_reducible refine (HV.out _ ?hbz).mono ?_); (case hbz => rfl); rintro e_ w9 ⟨rfl, hb⟩; have BK59 := As (YB (YA BK5.out _) hb); have BK49 := As (YB (YA BK4.out _) hb); have BKd9 := As (YB (show (wr.alloc (.cells #[.int .i64 d.f0, .int .i64 d.f1, .int .i64 d.f2, .int .i64 d.f3, .bool d.f4, .int .i64 d.f5, .int .i64 d.f6, .int .i64 d.f7] 47)).heap[wr.heap.size]? = some (.cells #[.int .i64 d.f0, .int .i64 d.f1, .int .i64 d.f2, .int .i64 d.f3, .bool d.f4, .int .i64 d.f5, .int .i64 d.f6, .int .i64 d.f7] 47 (0, 0)) from by first | exact heap_alloc_new wr _ | simp [World.alloc]) hb); have HM9 := As (ownsMap_below (HM.out.alloc _) hb); have HR9 := As (RB (RA HR.out _) hb); have HL9 := As (RB (RA HL.out _) hb); have HB9 := As (XT (XA HB.out _) hb); have HS9 := As (Nat.le_trans (Nat.le_trans HS.out (by simp)) hb.size); clear hb; have z0 : w9.cell? ⟨wr.heap.size, 0, none⟩ = some (.int .i64 d.f0) := (blk_cell BKd9.out 0).trans rfl; have z1 : w9.cell? ⟨wr.heap.size, 1, none⟩ = some (.int .i64 d.f1) := (blk_cell BKd9.out 1).trans rfl; have z2 : w9.cell? ⟨wr.heap.size, 2, none⟩ = some (.int .i64 d.f2) := (blk_cell BKd9.out 2).trans rfl; have z3 : w9.cell? ⟨wr.heap.size, 3, none⟩ = some (.int .i64 d.f3) := (blk_cell BKd9.out 3).trans rfl; have z4 : w9.cell? ⟨wr.heap.size, 4, none⟩ = some (.bool d.f4) := (blk_cell BKd9.out 4).trans rfl; have z5 : w9.cell? ⟨wr.heap.size, 5, none⟩ = some (.int .i64 d.f5) := (blk_cell BKd9.out 5).trans rfl; have z6 : w9.cell? ⟨wr.heap.size, 6, none⟩ = some (.int .i64 d.f6) := (blk_cell BKd9.out 6).trans rfl; have z7 : w9.cell? ⟨wr.heap.size, 7, none⟩ = some (.int .i64 d.f7) := (blk_cell BKd9.out 7).trans rfl)
            go_roundg (ys.length - (i2 + 1))
            case measure => omega
            case rel => exact ⟨i2 + 1, m2, _, done2 ++ [d], r, lefts, f2, D2, rfl, by rw [show wrap64 ((i2 : Int) + 1) = ((i2 + 1 : Nat) : Int) by have := HN.out; unfold wrap64; omega], by omega, ⟨by rw [List.length_append, HI.out.1]; rfl, by have := HI.out.2.1; simp at this; omega, by have := HI.out.2.2; omega⟩, ⟨by rw [List.append_assoc]; exact HR9.out⟩, HM9, HF, ⟨by have h := HZe.out; rw [passL, if_pos HOo.out] at h; exact h⟩, HL9, ⟨by have := HLl.out; omega⟩, ⟨fun x hx => HW.out x (.tail _ hx)⟩, BK59, BK49, HB9, HS9⟩
          | false =>
            go_wp2_with (first | (go_at_call 28; (with_reducible refine (HV.out _ ?hbz).mono ?_); (case hbz => rfl); rintro e_ w9 ⟨rfl, hb⟩; have BK59 := As (YB (YA BK5.out _) hb); have BK49 := As (YB (YA BK4.out _) hb); have BKd9 := As (YB (show (wr.alloc (.cells #[.int .i64 d.f0, .int .i64 d.f1, .int .i64 d.f2, .int .i64 d.f3, .bool d.f4, .int .i64 d.f5, .int .i64 d.f6, .int .i64 d.f7] 47)).heap[wr.heap.size]? = some (.cells #[.int .i64 d.f0, .int .i64 d.f1, .int .i64 d.f2, .int .i64 d.f3, .bool d.f4, .int .i64 d.f5, .int .i64 d.f6, .int .i64 d.f7] 47 (0, 0)) from by first | exact heap_alloc_new wr _ | simp [World.alloc]) hb); have HM9 := As (ownsMap_below (HM.out.alloc _) hb); have HR9 := As (RB (RA HR.out _) hb); have HL9 := As (RB (RA HL.out _) hb); have HB9 := As (XT (XA HB.out _) hb); have HS9 := As (Nat.le_trans (Nat.le_trans HS.out (by simp)) hb.size); clear hb; have z0 : w9.cell? ⟨wr.heap.size, 0, none⟩ = some (.int .i64 d.f0) := (blk_cell BKd9.out 0).trans rfl; have z1 : w9.cell? ⟨wr.heap.size, 1, none⟩ = some (.int .i64 d.f1) := (blk_cell BKd9.out 1).trans rfl; have z2 : w9.cell? ⟨wr.heap.size, 2, none⟩ = some (.int .i64 d.f2) := (blk_cell BKd9.out 2).trans rfl; have z3 : w9.cell? ⟨wr.heap.size, 3, none⟩ = some (.int .i64 d.f3) := (blk_cell BKd9.out 3).trans rfl; have z4 : w9.cell? ⟨wr.heap.size, 4, none⟩ = some (.bool d.f4) := (blk_cell BKd9.out 4).trans rfl; have z5 : w9.cell? ⟨wr.heap.size, 5, none⟩ = some (.int .i64 d.f5) := (blk_cell BKd9.out 5).trans rfl; have z6 : w9.cell? ⟨wr.heap.size, 6, none⟩ = some (.int .i64 d.f6) := (blk_cell BKd9.out 6).trans rfl; have z7 : w9.cell? ⟨wr.heap.size, 7, none⟩ = some (.int .i64 d.f7) := (blk_cell BKd9.out 7).trans rfl) | (at_mapUpdate; refine wpList_mapUpdate_own _ rfl _ _ _ 66 rfl 3 3 law3 Tryd.underlying66 _ b2 m2 D2 rfl HM9.out (by have := HI.out.2.2; have := HI.out.2.1; have := HN.out; unfold maxLen; omega) _ _ _ rfl rfl (keyOf_int_mk Tryd.underlying3 HWD.out.1) _ [] (plainElem_int Tryd.underlying3 (by decide)) ?_; intro wx hm hg; have BK5a := As ((hg.block g5 (blk_lt BK59.out) (fun e => NB52.out (by injection e))).trans BK59.out); have BK4a := As ((hg.block g4 (blk_lt BK49.out) (fun e => NB42.out (by injection e))).trans BK49.out); have BKda := As ((hg.block wr.heap.size (blk_lt BKd9.out) (fun e => by injection e with e; have := LB2.out; have := HS.out; omega)).trans BKd9.out); have HRa := As (RM (Kd.R_grown (R_notmap HR9.out HM9.out) hg (fun k hk e => hk.2 (by injection e))) (fun _ hk => hk.1) : Kd.R k47 47 wx w.heap.size (fun k => k < S2) (.slice (some ⟨g, 0, none⟩) ys.length co) (done2 ++ d :: r)); have HLa := As (RM (Kd.R_grown (R_notmap HL9.out HM9.out) hg (fun k hk e => hk.2 (by injection e))) (fun _ hk => hk.1) : Kd.R k47 47 wx S2 (fun _ => True) (.slice Av lefts.length cv) lefts); have HBa := As (HB9.out.grown hg HB9.out.size (fun k e => by injection e with e; rw [← e]; exact GE2.out)); have HSa := As (Nat.le_trans HS9.out hg.size); have HMa := As hm; clear hm hg; have z0 : wx.cell? ⟨wr.heap.size, 0, none⟩ = some (.int .i64 d.f0) := (blk_cell BKda.out 0).trans rfl; have z1 : wx.cell? ⟨wr.heap.size, 1, none⟩ = some (.int .i64 d.f1) := (blk_cell BKda.out 1).trans rfl; have z2 : wx.cell? ⟨wr.heap.size, 2, none⟩ = some (.int .i64 d.f2) := (blk_cell BKda.out 2).trans rfl; have z3 : wx.cell? ⟨wr.heap.size, 3, none⟩ = some (.int .i64 d.f3) := (blk_cell BKda.out 3).trans rfl; have z4 : wx.cell? ⟨wr.heap.size, 4, none⟩ = some (.bool d.f4) := (blk_cell BKda.out 4).trans rfl; have z5 : wx.cell? ⟨wr.heap.size, 5, none⟩ = some (.int .i64 d.f5) := (blk_cell BKda.out 5).trans rfl; have z6 : wx.cell? ⟨wr.heap.size, 6, none⟩ = some (.int .i64 d.f6) := (blk_cell BKda.out 6).trans rfl; have z7 : wx.cell? ⟨wr.heap.size, 7, none⟩ = some (.int .i64 d.f7) := (blk_cell BKda.out 7).trans rfl) | ((with_reducible refine gate_builtin (b := .append) (xs := #[.tmp 67, .tmp 69]) rfl ?_); at_builtin; refine Kd.R_append k47 (w0 := wx) S2 rfl (.tmp 67) (.tmp 69) 23 47 (.agg #[(.int .i64 0), (.int .i64 0), (.int .i64 0), (.int .i64 0), (.bool false), (.int .i64 0), (.int .i64 0), (.int .i64 0)]) 64 rfl Tryd.underlying23 info47 rfl (by decide) (by omega) (.slice Av lefts.length cv) lefts d _ (fun _ => True) (fun _ => False) rfl rfl ?aP (fun _ hk => hk.elim) ?aF ?aO ?aB ?aS ?aL ?_; (case aP => exact k47_mkM _ _ _ d); (case aB => exact Below.refl _ _); (case aF => exact (fun _ _ => trivial)); (case aO => exact HLa.out); (case aS => exact HSa.out); (case aL => have := HLl.out; have := HN.out; have := HI.out.2.1; omega); intro vz wz ho hb hg hat; have BK5c := As ((hg.block g5 (blk_lt BK5a.out) (fun e => by have := Kd.R_base HLa.out g5 e.symm; have := LG5.out; omega)).trans BK5a.out); have BK4c := As ((hg.block g4 (blk_lt BK4a.out) (fun e => by have := Kd.R_base HLa.out g4 e.symm; have := LG4.out; omega)).trans BK4a.out); have HRc := As (Kd.R_grown HRa.out hg (fun k hk e => by have := Kd.R_base HLa.out k e.symm; omega)); have HMc := As (HMa.out.kept hg (fun e => by have := Kd.R_base HLa.out b2 e.symm; have := LB2.out; omega)); have HBc := As (HBa.out.grown hg HBa.out.size (fun k e => by have := Kd.R_base HLa.out k e; have := GES.out; omega)); have HSc := As (Nat.le_trans HSa.out hg.size); have HLc := As ho; clear ho hb hg hat))
            go_roundg (ys.length - (i2 + 1))
            case measure => omega
            case rel => exact ⟨i2 + 1, m2 + 1, _, done2 ++ [d], r, lefts ++ [d], setOne f2 d.f0, _, rfl, by rw [show wrap64 ((i2 : Int) + 1) = ((i2 + 1 : Nat) : Int) by have := HN.out; unfold wrap64; omega], by omega, ⟨by rw [List.length_append, HI.out.1]; rfl, by have := HI.out.2.1; simp at this; omega, by have := HI.out.2.2; omega⟩, ⟨by rw [List.append_assoc]; exact HRc.out⟩, HMc, ⟨HF.out.put HM.out.isMap d.f0⟩, ⟨by have h := HZe.out; rw [passL, if_neg (by rw [HOo.out]; exact Bool.false_ne_true)] at h; rw [List.append_assoc]; exact h⟩, HLc, ⟨by rw [List.length_append]; have := HLl.out; simp; omega⟩, ⟨fun x hx => HW.out x (.tail _ hx)⟩, BK5c, BK4c, HBc, HSc⟩
    | cons d r =>
      obtain ⟨g, rfl⟩ := own_zero' HR.out (by rw [List.length_append, List.length_cons]; omega)
      have hl := HI.out
      have hi : i < ys.length := by have := hl.2.1; simp at this; omega
      have d1 : decide ((i : Int) < (ys.length : Int)) = true := dY (by omega)
      have d2 : decide (i < ys.length) = true := dY hi
      have p1 : (0 : Int) ≤ (i : Int) := Int.natCast_nonneg _
      have p2 : (i : Int) < (ys.length : Int) := by omega
      have hd : (done ++ d :: r).getD ((i : Int)).toNat z47 = d := by rw [Int.toNat_natCast, ← hl.1]; exact getD_mid done d z47 r
      obtain ⟨cc, hcl, hMm, hcc, hfr⟩ := Kd.R_elem HR.out z47 (i : Int) p1 p2
      rw [hd] at hMm
      obtain rfl := k47_openM hMm
      have q0 : wr.cell? ⟨g, i * 8, none⟩ = some (.int .i64 d.f0) := hcc 0 _ rfl
      have q1 : wr.cell? ⟨g, i * 8 + 1, none⟩ = some (.int .i64 d.f1) := hcc 1 _ rfl
      have q2 : wr.cell? ⟨g, i * 8 + 2, none⟩ = some (.int .i64 d.f2) := hcc 2 _ rfl
      have q3 : wr.cell? ⟨g, i * 8 + 3, none⟩ = some (.int .i64 d.f3) := hcc 3 _ rfl
      have q4 : wr.cell? ⟨g, i * 8 + 4, none⟩ = some (.bool d.f4) := hcc 4 _ rfl
      have q5 : wr.cell? ⟨g, i * 8 + 5, none⟩ = some (.int .i64 d.f5) := hcc 5 _ rfl
      have q6 : wr.cell? ⟨g, i * 8 + 6, none⟩ = some (.int .i64 d.f6) := hcc 6 _ rfl
      have q7 : wr.cell? ⟨g, i * 8 + 7, none⟩ = some (.int .i64 d.f7) := hcc 7 _ rfl
      have hwd := HW.out d (.head _)
      have HWD := As hwd
      clear hl hd hcc hfr hMm hcl hwd
      by_cases h4 : d.f4 = true
      rotate_left 1
      · have h4f : d.f4 = false := by cases hh : d.f4 with | true => exact absurd hh h4 | false => rfl
        rw [h4f] at q4
        have HX := As (show ¬ (d.f4 = true ∧ d.f2 ≤ t) from fun h => h4 h.1)
        go_wp2
        go_roundg (ys.length - (i + 1))
        case measure => omega
        case rel => exact ⟨i + 1, m, done ++ [d], r, f, D, by rw [show wrap64 ((i : Int) + 1) = ((i + 1 : Nat) : Int) by have := HN.out; unfold wrap64; omega], by omega, ⟨by rw [List.length_append, HI.out.1]; rfl, by have := HI.out.2.1; simp at this; omega, by have := HI.out.2.2; omega⟩, ⟨by rw [List.append_assoc]; (with_reducible repeat (first | apply RA | apply RN | apply RD)); exact HR.out⟩, ⟨HM.out.alloc _⟩, HF, ⟨by rw [List.append_assoc]; exact HA.out⟩, ⟨by have h := HFe.out; rw [passF, if_neg HX.out] at h; exact h⟩, ⟨fun x hx => HW.out x (.tail _ hx)⟩, ⟨by (with_reducible repeat (first | refine YN ?_ _ | refine YD ?_ | refine YA ?_ _)); exact BK5.out⟩, ⟨by (with_reducible repeat (first | refine YN ?_ _ | refine YD ?_ | refine YA ?_ _)); exact BK4.out⟩, ⟨XA HB.out _⟩⟩
      rw [h4] at q4
      have H4 := As h4
      clear h4
      by_cases h2 : d.f2 ≤ t
      rotate_left 1
      · have e2 : decide (d.f2 ≤ t) = false := dN h2
        have HX := As (show ¬ (d.f4 = true ∧ d.f2 ≤ t) from fun h => h2 h.2)
        go_wp2
        go_roundg (ys.length - (i + 1))
        case measure => omega
        case rel => exact ⟨i + 1, m, done ++ [d], r, f, D, by rw [show wrap64 ((i : Int) + 1) = ((i + 1 : Nat) : Int) by have := HN.out; unfold wrap64; omega], by omega, ⟨by rw [List.length_append, HI.out.1]; rfl, by have := HI.out.2.1; simp at this; omega, by have := HI.out.2.2; omega⟩, ⟨by rw [List.append_assoc]; (with_reducible repeat (first | apply RA | apply RN | apply RD)); exact HR.out⟩, ⟨HM.out.alloc _⟩, HF, ⟨by rw [List.append_assoc]; exact HA.out⟩, ⟨by have h := HFe.out; rw [passF, if_neg HX.out] at h; exact h⟩, ⟨fun x hx => HW.out x (.tail _ hx)⟩, ⟨by (with_reducible repeat (first | refine YN ?_ _ | refine YD ?_ | refine YA ?_ _)); exact BK5.out⟩, ⟨by (with_reducible repeat (first | refine YN ?_ _ | refine YD ?_ | refine YA ?_ _)); exact BK4.out⟩, ⟨XA HB.out _⟩⟩
      have e2 : decide (d.f2 ≤ t) = true := dY h2
      have H2 := As h2
      clear h2
      have HX := As (show d.f4 = true ∧ d.f2 ≤ t from ⟨H4.out, H2.out⟩)
      have HM2 := As (HM.out.alloc (.cells #[.int .i64 d.f0, .int .i64 d.f1, .int .i64 d.f2, .int .i64 d.f3, .bool true, .int .i64 d.f5, .int .i64 d.f6, .int .i64 d.f7] 47))
      go_wp2_with (at_mapUpdate; refine wpList_mapUpdate_own _ rfl _ _ _ 66 rfl 3 3 law3 Tryd.underlying66 _ b1 m D rfl HM2.out (by have := HI.out.2.2; have := HI.out.2.1; have := HN.out; unfold maxLen; omega) _ _ _ rfl rfl (keyOf_int_mk Tryd.underlying3 HWD.out.1) _ [] (plainElem_int Tryd.underlying3 (by decide)) ?_; intro w6 hm6 hg6)
      have h5 := YA BK5.out (.cells #[.int .i64 d.f0, .int .i64 d.f1, .int .i64 d.f2, .int .i64 d.f3, .bool true, .int .i64 d.f5, .int .i64 d.f6, .int .i64 d.f7] 47)
      have h4x := YA BK4.out (.cells #[.int .i64 d.f0, .int .i64 d.f1, .int .i64 d.f2, .int .i64 d.f3, .bool true, .int .i64 d.f5, .int .i64 d.f6, .int .i64 d.f7] 47)
      have HR2 := As (RM (Kd.R_grown (R_notmap (RA HR.out _) HM2.out) hg6 (fun k hk e => hk.2 (by injection e))) (fun _ hk => hk.1) : Kd.R k47 47 w6 w.heap.size (fun _ => True) (.slice (some ⟨g, 0, none⟩) ys.length co) (done ++ d :: r))
      have BK52 := As ((hg6.block g5 (blk_lt h5) (fun e => NB5.out (by injection e))).trans h5)
      have BK42 := As ((hg6.block g4 (blk_lt h4x) (fun e => NB4.out (by injection e))).trans h4x)
      have HB2 := As ((XA HB.out (.cells #[.int .i64 d.f0, .int .i64 d.f1, .int .i64 d.f2, .int .i64 d.f3, .bool true, .int .i64 d.f5, .int .i64 d.f6, .int .i64 d.f7] 47)).grown hg6 (XA HB.out (.cells #[.int .i64 d.f0, .int .i64 d.f1, .int .i64 d.f2, .int .i64 d.f3, .bool true, .int .i64 d.f5, .int .i64 d.f6, .int .i64 d.f7] 47)).size (fun k e => by injection e with e; rw [← e]; exact GEb.out))
      have HM3 := As hm6
      have HF2 := As (HF.out.put HM.out.isMap d.f0)
      clear h5 h4x hm6 hg6
      go_roundg (ys.length - (i + 1))
      case measure => omega
      case rel => exact ⟨i + 1, m + 1, done ++ [d], r, setOne f d.f0, _, by rw [show wrap64 ((i : Int) + 1) = ((i + 1 : Nat) : Int) by have := HN.out; unfold wrap64; omega], by omega, ⟨by rw [List.length_append, HI.out.1]; rfl, by have := HI.out.2.1; simp at this; omega, by have := HI.out.2.2; omega⟩, ⟨by rw [List.append_assoc]; exact HR2.out⟩, HM3, HF2, ⟨by rw [List.append_assoc]; exact HA.out⟩, ⟨by have h := HFe.out; rw [passF, if_pos HX.out] at h; exact h⟩, ⟨fun x hx => HW.out x (.tail _ hx)⟩, BK52, BK42, HB2⟩
def passIf (t : Int) (b : Int × (List (S47)) × Option Int) : Option (Int × (List (S47))) :=
  if b.2.2 = none ∧ 0 ≤ t ∧ t ≤ 4611686018427387904 ∧ b.2.1.length ≤ 4096 ∧ wfAll b.2.1 = true then some (b.1, passZ t b.2.1) else none
def down_Pass.f (k : Nat) (a0 : Int) (l : List (S47)) (t : Int) : Option (Int × (List (S47))) := (dBg.f k a0 l).bind (passIf t)
theorem down_Pass.mono : ∀ a0_0 l0_1 a1 k, LeO (down_Pass.f k a0_0 l0_1 a1) (down_Pass.f (k + 1) a0_0 l0_1 a1) := by
  intro a l t k r h
  unfold down_Pass.f at h ⊢
  obtain ⟨b, hb, he⟩ := bE h
  exact Option.bind_eq_some_iff.mpr ⟨b, dBg.mono _ _ _ _ hb, he⟩
theorem down_Pass.calls (k : Nat) (a0_0 : Int) (A0_1 : Option Addr) (c0_1 : Nat) (l0_1 : List (S47)) (a1 : Int) (r1 : Int) (r2 : List (S47)) (w : World) (hr0_1 : Kd.C k47 w A0_1 l0_1.length l0_1) (hc0_1 : l0_1.length ≤ c0_1) (h : down_Pass.f k a0_0 l0_1 a1 = some (r1, r2)) :
    Calls Tryd.prog 9 #[.agg #[.int .i64 a0_0, .slice A0_1 l0_1.length c0_1], .int .i64 a1] w fun e w' => ∃ v1_ : Value, e = .returned (.agg #[.int .i64 r1, v1_]) ∧ Kd.R k47 47 w' w.heap.size (fun _ => True) v1_ r2 ∧ Below w.heap.size w w' := by
  obtain ⟨⟨nx', ys, er⟩, hb, he⟩ := bE h
  unfold passIf at he
  split at he
  case isTrue hc =>
    obtain ⟨h1, h2, h3, h5, h6⟩ := hc
    have h1' : er = none := h1
    subst h1'
    have he2 : some (nx', passZ a1 ys) = some (r1, r2) := he
    simp only [Option.some.injEq, Prod.mk.injEq] at he2
    obtain ⟨rfl, rfl⟩ := he2
    refine pass_walk a0_0 nx' a1 A0_1 c0_1 k l0_1 ys w hr0_1 hc0_1 hb (by unfold down_timely.f; rw [if_pos h2, dY h3]) h5 (fun d hd => ?_)
    have h7 := List.all_eq_true.mp h6 d hd
    rw [Bool.and_eq_true] at h7
    exact h7
  case isFalse hc => cases he
end Go.Proofs.YtgmdaaenhmclfaaDoor.P
