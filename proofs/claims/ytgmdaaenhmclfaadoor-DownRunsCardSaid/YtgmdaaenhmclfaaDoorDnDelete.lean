/- The contract of slices.Delete at a list of downtimes, one element out, in place: in the print's form for a row of the call's own. -/
import Derived.Test.YtgmdaaenhmclfaaDoorPx0
import Derived.Lib.SliceRun
import Derived.Great.Walk
import Derived.Deep.RegionLaw
namespace Go.Proofs.YtgmdaaenhmclfaaDoor.P
open Go.RowKit Go.Proofs.YtgmdaaenhmclfaaDoorW.PrintWords Go.Proofs.YtgmdaaenhmclfaaDoorW.PrintLast Go.Proofs.YtgmdaaenhmclfaaDoorW.PrintMore
set_option linter.unusedVariables false
def down_Down_19.f (l0 : List (S47)) (a1 a2 : Int) : Option (List (S47)) := if 0 ≤ a1 ∧ a1 < (l0.length : Int) ∧ a2 = a1 + 1 ∧ l0.length ≤ 4096 then some (l0.eraseIdx a1.toNat) else none
def dz : List Value := [.int .i64 0, .int .i64 0, .int .i64 0, .int .i64 0, .bool false, .int .i64 0, .int .i64 0, .int .i64 0]
theorem run_clear_one {P : Program} (w : World) (t e ty : TypeId) (z : Value) (zs : List Value) (ht : P.underlying t = some (.slice e)) (hv : ∀ w, (zeroValue e).run P w = .ok z w) (hz : z.cells = zs.toArray) (h1 : ∀ v ∈ zs, v.oneCell' = true) (b o n c : Nat) (hn : n = 1)
    (hc : ∀ j, j < zs.length → (w.cell? ⟨b, o + j, none⟩).isSome = true) (hf : ∀ j, j < zs.length → w.frozen? ⟨b, o + j, none⟩ = false) :
    (Builtin.clear_ #[t] ty #[.slice (some ⟨b, o, none⟩) n c]).run P w = .ok (.tuple #[]) (w.setCells b o zs) := by
  subst hn
  have hzc : (Builtin.zeroCells z.cells 1).toList = zs := by
    rw [hz]
    simp only [Builtin.zeroCells, Nat.one_mul]
    apply List.ext_getElem
    · simp
    · intro i h1 h2
      have hm : i % zs.length = i := Nat.mod_eq_of_lt h2
      simp [hm, h2]
  have hst := run_storeCells_cells (P := P) b o zs 0 w (by simpa using hc) (by simpa using hf) h1
  simp only [Nat.add_zero] at hst
  simp [Builtin.clear_, run_underlying ht, hv, hzc, hst]
theorem spare_one {w : World} {base g m c : Nat} {ok : Nat → Prop} {xs : List S47} (h : Kd.R k47 47 w base ok (.slice (some ⟨g, 0, none⟩) m c) xs) (o : Nat) (ho : m * 8 ≤ o) (u : Value) : Kd.R k47 47 (w.setCell ⟨g, o, none⟩ u) base ok (.slice (some ⟨g, 0, none⟩) m c) xs := by
  have hl := (Kd.R_reads' h).1
  obtain ⟨h0, inner, ⟨h1, h2⟩, hr⟩ := h
  refine ⟨h0, inner, ⟨h1, ?_⟩, hr⟩
  rcases h2 with ⟨hv, _⟩ | ⟨g', cap, cur, hv, hb, hh, hle, hcm, hcs, htake⟩
  · cases hv
  · injection hv with ha hn hc
    injection ha with ha
    injection ha with hg
    subst hg
    refine .inr ⟨g, cap, cur.setIfInBounds o u, by rw [hn, hc], hb, blk_put hh o u rfl, hle, hcm, by rw [Array.size_setIfInBounds]; exact hcs, ?_⟩
    rw [Array.toList_setIfInBounds, List.take_set_of_le (by rw [← hl]; exact ho)]
    exact htake
theorem spare_all {base g m c : Nat} {ok : Nat → Prop} {xs : List S47} : ∀ (us : List Value) (w : World) (o : Nat), m * 8 ≤ o → Kd.R k47 47 w base ok (.slice (some ⟨g, 0, none⟩) m c) xs → Kd.R k47 47 (w.setCells g o us) base ok (.slice (some ⟨g, 0, none⟩) m c) xs
  | [], _, _, _, h => h
  | u :: r, w, o, ho, h => spare_all r _ (o + 1) (by omega) (spare_one h o ho u)
theorem below_cells {w : World} {g : Nat} (hg : w.heap.size ≤ g) : ∀ (us : List Value) (W : World) (o : Nat), Below w.heap.size w W → Below w.heap.size w (W.setCells g o us)
  | [], _, _, h => h
  | u :: r, W, o, h => below_cells hg r _ (o + 1) (below_set h hg)
theorem kept_cells {w : World} {g : Nat} {S : Nat → Prop} (hg : S g) : ∀ (us : List Value) (W : World) (o : Nat), Kept w W S → Kept w (W.setCells g o us) S
  | [], _, _, h => h
  | u :: r, W, o, h => kept_cells hg r _ (o + 1) (Kept.setCell h (.inl hg) u)
theorem spare_cells {w : World} {base g m n c : Nat} {ok : Nat → Prop} {xs : List S47} (h : Kd.R k47 47 w base ok (.slice (some ⟨g, 0, none⟩) m c) xs) (hn : n < c) (j : Nat) (hj : j < 8) : (w.cell? ⟨g, n * 8 + j, none⟩).isSome = true ∧ w.frozen? ⟨g, n * 8 + j, none⟩ = false := by
  obtain ⟨h0, inner, ⟨h1, h2⟩, hr⟩ := h
  rcases h2 with ⟨hv, _⟩ | ⟨g', cap, cur, hv, hb, hh, hle, hcm, hcs, htake⟩
  · cases hv
  · injection hv with ha hn' hc
    injection ha with ha
    injection ha with hg
    subst hg
    subst hc
    have hcs' : cur.size = c * 8 := hcs
    refine ⟨?_, blk_frozen hh _⟩
    rw [blk_cell hh]
    have : n * 8 + j < cur.size := by omega
    simp [this]
set_option maxRecDepth 100000 in
set_option maxHeartbeats 4000000 in
theorem down_Down_19.calls (P0_ : Nat → Prop) (u9000_ : Value) (l0 : List S47) (a1 a2 : Int) (r : List S47) (w0 w : World) (hB : Below w0.heap.size w0 w) (ho0 : Kd.R k47 47 w w0.heap.size P0_ u9000_ l0) (h : down_Down_19.f l0 a1 a2 = some r) :
    Calls Tryd.prog 19 #[u9000_, .int .i64 a1, .int .i64 a2] w fun e w' => ∃ v0_ : Value, e = .returned v0_ ∧ Kd.R k47 47 w' w0.heap.size (fun k_ => (P0_ k_ ∨ w.heap.size ≤ k_)) v0_ r ∧ Below w0.heap.size w0 w' ∧ Kept w w' (fun k_ => P0_ k_) := by
  unfold down_Down_19.f at h
  split at h
  case isFalse hc => cases h
  case isTrue hc =>
  obtain ⟨h1, h2, rfl, h4⟩ := hc
  obtain rfl := Option.some.inj h
  clear h
  obtain ⟨k, rfl⟩ := Int.eq_ofNat_of_zero_le h1
  obtain ⟨Ao, co, rfl⟩ := Kd.R_slice ho0
  obtain ⟨hn, hnc, _⟩ := Kd.R_reads' ho0
  have hk : k < l0.length := by omega
  obtain ⟨g, rfl⟩ : ∃ g, Ao = some ⟨g, 0, none⟩ := by
    obtain ⟨inner, ho⟩ := Kd.R_own ho0
    rcases ho.2 with ⟨e1, e2⟩ | ⟨g, cap, cur, e1, _⟩
    · omega
    · injection e1 with e1 _ _
      exact ⟨g, e1⟩
  have hP : P0_ g := ho0.1 g rfl
  have hgb := Kd.R_base ho0 g rfl
  have HO := Aside0.mk ho0
  have HBb := Aside0.mk hB
  obtain ⟨n, hnl⟩ : ∃ n, l0.length = n := ⟨_, rfl⟩
  rw [hnl] at hk hnc h4 HO h2 ⊢
  have HL := Aside0.mk hnl
  clear ho0 hB hn hnl h1 h2
  have i1 : IntKind.i64.wrap ((k : Int) + 1) = (k : Int) + 1 := IntWalk.i64_in _ (by omega)
  have e0 : ((k : Int) == (k : Int) + 1) = false := by simp; omega
  have t1 : ((k : Int) + 1).toNat = k + 1 := by omega
  have p0 : (0 : Int) ≤ (k : Int) := by omega
  have p1 : (0 : Int) ≤ (k : Int) + 1 := by omega
  have p2 : (k : Int) ≤ (k : Int) + 1 := by omega
  have p3 : (k : Int) + 1 ≤ (n : Int) := by omega
  have p4 : (n : Int) ≤ (co : Int) := by omega
  have p5 : (k : Int) + 1 ≤ (co : Int) := by omega
  have p6 : (k : Int) ≤ (co : Int) := by omega
  go_enter Tryd.func19, Tryd.ntmps19
  go_wp2
  go_region_law (refine Kd.R_delete_step k47 (w0 := w0) w0.heap.size rfl (.tmp 22) (.tmp 25) 23 47 rfl Tryd.underlying23 rfl (g := g) (n := n) (c := co) (k := k) (m := n - (k + 1)) (c2 := co - (k + 1)) (A := if co = k + 1 then some ⟨g, 0, none⟩ else (some (⟨g, 0, none⟩ : Addr)).map (·.add ((k + 1) * k47.sz))) (xs := l0) (ok := P0_) ?hs ?hx rfl rfl (Kd.R_drew HO.out) hk (below_drew1 HBb.out) HBb.out.size ?_; (case hs => simp [Act.eval, Act.put]); (case hx => simp [Act.eval, Act.put, show k47.sz = 8 from rfl, Addr.add]); intro w1 ho1 hb1 hg1)
  have HR1 := Aside0.mk ho1
  have HB1 := Aside0.mk hb1
  have HG1 := Aside0.mk hg1
  have cz : ∀ j, j < 8 → (w1.cell? ⟨g, (n - 1) * 8 + j, none⟩).isSome = true := fun j hj => (spare_cells ho1 (n := n - 1) (by omega) j hj).1
  have fz : ∀ j, j < 8 → w1.frozen? ⟨g, (n - 1) * 8 + j, none⟩ = false := fun j hj => (spare_cells ho1 (n := n - 1) (by omega) j hj).2
  have hcl : ∀ ty, (Builtin.clear_ #[23] ty #[.slice (some ⟨g, (n - 1) * 8, none⟩) (n - (n - 1)) (co - (n - 1))]).run Tryd.prog w1 = .ok (.tuple #[]) (w1.setCells g ((n - 1) * 8) dz) :=
    fun ty => run_clear_one w1 23 47 ty _ dz Tryd.underlying23 (fun _ => rfl) rfl (by decide) g ((n - 1) * 8) _ _ (by omega) cz fz
  clear ho1 hb1 hg1 cz fz
  have q1 : ((n - 1 : Nat) : Int) ≤ (n : Int) := by omega
  have q2 : (n : Int) ≤ (co : Int) := by omega
  have q3 : (0 : Int) ≤ ((n - 1 : Nat) : Int) := by omega
  have q4 : ¬ (co = n - 1) := by omega
  have q5 : (((n - 1 : Nat) : Int)).toNat = n - 1 := by omega
  go_wp2
  all_goals
    go_ret
    try subst_vars
    exact ⟨_, rfl, Kd.R_mono (spare_all dz _ _ (Nat.le_refl _) HR1.out) (fun _ h => .inl h), below_cells hgb dz _ _ HB1.out, kept_cells hP dz _ _ (Kept.of_grown HG1.out (Kept.drew (Kept.refl w _)) (fun j hj => .inl (by injection hj with hj; exact hj ▸ hP)))⟩
end Go.Proofs.YtgmdaaenhmclfaaDoor.P
