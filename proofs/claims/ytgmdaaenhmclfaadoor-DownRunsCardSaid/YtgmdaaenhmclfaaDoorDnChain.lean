/- The walk of down.chain: a list of one's own, a map of one's own. -/
import Derived.Test.YtgmdaaenhmclfaaDoorPx0
import Derived.Test.YtgmdaaenhmclfaaDoorWN
import Derived.Maps.OwnOps
import Derived.Maps.OwnSet
import Derived.Great.Walk
namespace Go.Proofs.YtgmdaaenhmclfaaDoor.P
open Go.RowKit Go.Maps Go.Proofs.YtgmdaaenhmclfaaDoorW.PrintWords Go.Proofs.YtgmdaaenhmclfaaDoorW.PrintLast Go.Proofs.YtgmdaaenhmclfaaDoorW.PrintMore
attribute [local go_sem] max2_int min2_int max_two min_two max_three min_three max_four min_four
set_option linter.unusedVariables false
set_option linter.unusedSimpArgs false
/-- What a map of whole numbers tells. -/
def MapIs (D : DataW Unit) (f : Int → Int) : Prop := ∀ key, (Lit.int .i64 key).wf = true → D.atKey (.int .i64 key) (.lit (.int .i64 0)) = .lit (.int .i64 (f key))
def setOne (f : Int → Int) (x : Int) : Int → Int := fun y => if y = x then 1 else f y
def startAt (t : Int) (d : S47) : S47 := { d with f7 := t }
/-- chain: from here on. -/
def chainZ (t : Int) : List S47 → (Int → Int) → List S47
  | [], _ => []
  | d :: r, f => if d.f6 = 0 then d :: chainZ t r f else if d.f7 = -1 then (if f d.f6 = 0 then d :: chainZ t r f else startAt t d :: chainZ t r (setOne f d.f0)) else d :: chainZ t r f
theorem law3 : Keyed Tryd.prog 3 := int_keyed Tryd.underlying3
theorem zero3 (w : World) : (zeroValue 3).run Tryd.prog w = .ok (.int .i64 0) w := by kernel_rfl
theorem MapIs.put {D : DataW Unit} {f : Int → Int} (h : MapIs D f) (hD : IsMap D) (x : Int) : MapIs (D.put (.int .i64 x) (.lit (.int .i64 1))) (setOne f x) := by
  intro key hk
  unfold setOne
  by_cases e : key = x
  · subst e
    rw [if_pos rfl, atKey_put_same hD (by trivial)]
  · rw [if_neg e, atKey_put_other (fun h2 => e (by injection h2))]
    exact h key hk
theorem MapIs.made : MapIs (.map []) (fun _ => 0) := fun key _ => rfl
theorem R_notmap {α : Type} {d : Kd α} {e base b n : Nat} {w : World} {ok : Nat → Prop} {v : Value} {xs : List α} {P : Program} {k : TypeId} {R : Value → Option (DataW Unit × List MemPlace)} {D : DataW Unit} (h : d.R e w base ok v xs) (hm : w.ownsMap P k R b n D) : d.R e w base (fun k => ok k ∧ k ≠ b) v xs := by
  obtain ⟨es, clock, hb, _⟩ := hm
  refine RM (Kd.R_bound h) (fun k hk => ⟨hk.1, ?_⟩)
  rintro rfl
  obtain ⟨_, _, _, q, _, cells, hc⟩ := hk
  rw [hb] at hc
  cases hc
/-- What stays of the elder blocks: all but the row's and the map's. -/
def Rest (w w' : World) (g b : Nat) : Prop := w.heap.size ≤ w'.heap.size ∧ ∀ k, k < w.heap.size → k ≠ g → k ≠ b → w'.heap[k]? = w.heap[k]?
theorem Rest.refl (w : World) (g b : Nat) : Rest w w g b := ⟨Nat.le_refl _, fun _ _ _ _ => rfl⟩
theorem Rest.step {w w1 w2 : World} {g b : Nat} {row : Option Nat} (h : Rest w w1 g b) (hg : w1.grownBy w2 row) (hr : row = some g ∨ row = some b) : Rest w w2 g b :=
  ⟨Nat.le_trans h.1 hg.size, fun k hk h1 h2 => (hg.block k (Nat.lt_of_lt_of_le hk h.1) (by rintro rfl; rcases hr with e | e <;> injection e with e <;> contradiction)).trans (h.2 k hk h1 h2)⟩
theorem getD_mid (a : List S47) (d z : S47) (r : List S47) : (a ++ d :: r).getD a.length z = d := by simp
theorem set_mid (a : List S47) (d e : S47) (r : List S47) : (a ++ d :: r).set a.length e = (a ++ [e]) ++ r := by simp
set_option maxRecDepth 100000 in
set_option maxHeartbeats 4000000 in
theorem chain_walk (next t : Int) (g n c b m0 : Nat) (D0 : DataW Unit) (f0 : Int → Int) (xs : List S47) (w0 w : World) (hR : Kd.R k47 47 w w0.heap.size (fun _ => True) (.slice (some ⟨g, 0, none⟩) n c) xs) (hn : n ≤ 4096) (hM : w.ownsMap Tryd.prog 3 (plainElem Tryd.prog 3) b m0 D0) (hm : m0 ≤ 4096) (hf : MapIs D0 f0) (hb : w0.heap.size ≤ b) (hB : Below w0.heap.size w0 w)
    (hwf : ∀ d ∈ xs, (Lit.int .i64 d.f0).wf = true ∧ (Lit.int .i64 d.f6).wf = true) :
    Calls Tryd.prog 24 #[.agg #[.int .i64 next, .slice (some ⟨g, 0, none⟩) n c], .int .i64 t, .map (some b)] w fun e w' => e = .returned (.tuple #[]) ∧ Kd.R k47 47 w' w0.heap.size (fun _ => True) (.slice (some ⟨g, 0, none⟩) n c) (chainZ t xs f0) ∧ Below w0.heap.size w0 w' ∧ Rest w w' g b := by
  have hlen : n = xs.length := (RR hR).1
  obtain ⟨Z, hZ⟩ : ∃ Z, chainZ t xs f0 = Z := ⟨_, rfl⟩
  rw [hZ]
  have hgw : g < w.heap.size := own_lt (Kd.R_own hR).choose_spec g (by simp [Value.ownBlock])
  have hbw : b < w.heap.size := hM.lt
  have HR := As (show Kd.R k47 47 (w.alloc (.cells #[.int .i64 next, .slice (some ⟨g, 0, none⟩) n c] 25)) w0.heap.size (fun _ => True) (.slice (some ⟨g, 0, none⟩) n c) xs from RA hR _)
  have HM := As (hM.alloc (.cells #[.int .i64 next, .slice (some ⟨g, 0, none⟩) n c] 25))
  have HB := As (XA hB (.cells #[.int .i64 next, .slice (some ⟨g, 0, none⟩) n c] 25))
  have HK := As (show Rest w (w.alloc (.cells #[.int .i64 next, .slice (some ⟨g, 0, none⟩) n c] 25)) g b from ⟨by simp, fun k hk _ _ => Below.heap_alloc _ _ _ hk⟩)
  have BK3 := As (show (w.alloc (.cells #[.int .i64 next, .slice (some ⟨g, 0, none⟩) n c] 25)).heap[w.heap.size]? = some (.cells #[.int .i64 next, .slice (some ⟨g, 0, none⟩) n c] 25 (0, 0)) by first | exact heap_alloc_new w _ | simp [World.alloc])
  have HN := As hn
  have HL := As hlen
  have HF := As hf
  have HZ := As hZ
  have HW := As hwf
  have Hm := As hm
  have G3 := As (Nat.ne_of_gt hgw)
  have B3 := As (Nat.ne_of_gt hbw)
  have HBB := As hb
  have BG := As (show b ≠ g from fun e => ((R_notmap hR hM).1 g (by simp [Value.ownBlock])).2 e.symm)
  clear hR hn hM hm hf hB hwf hlen hZ hgw hbw hb
  go_enter Tryd.func24, Tryd.ntmps24
  go_wp2
  go_loopg [11] n (fun kq v11 w' => ∃ (i m : Nat) (done rest : List S47) (f : Int → Int) (D : DataW Unit), v11 = .int .i64 (i : Int) ∧ kq + i = n ∧ Aside0 (done.length = i ∧ i + rest.length = n ∧ m ≤ m0 + i) ∧ Aside0 (Kd.R k47 47 w' w0.heap.size (fun _ => True) (.slice (some ⟨g, 0, none⟩) n c) (done ++ rest)) ∧ Aside0 (w'.ownsMap Tryd.prog 3 (plainElem Tryd.prog 3) b m D) ∧ Aside0 (MapIs D f) ∧ Aside0 (done ++ chainZ t rest f = Z) ∧ Aside0 (∀ d ∈ rest, (Lit.int .i64 d.f0).wf = true ∧ (Lit.int .i64 d.f6).wf = true) ∧ Aside0 (w'.heap[w.heap.size]? = some (.cells #[.int .i64 next, .slice (some ⟨g, 0, none⟩) n c] 25 (0, 0))) ∧ Aside0 (Below w0.heap.size w0 w') ∧ Aside0 (Rest w w' g b))
  case atStart => exact ⟨0, m0, [], xs, f0, D0, rfl, rfl, ⟨rfl, by rw [Nat.zero_add]; exact HL.out.symm, Nat.le_refl _⟩, HR, HM, HF, ⟨by rw [List.nil_append]; exact HZ.out⟩, HW, BK3, HB, HK⟩
  case round =>
    clear HR HM HF HZ HW BK3 HB HK HL
    obtain ⟨i, m, done, rest, f, D, rfl, hk, HI, HR, HM, HF, HZ, HW, BK3, HB, HK⟩ := hrel
    cases rest with
    | nil =>
      have e1 : i = n := by have := HI.out; simp at this; omega
      have d1 : decide ((i : Int) < (n : Int)) = false := dN (by omega)
      have d2 : decide (i < n) = false := dN (by omega)
      clear e1 hk
      go_wp2
      refine Go.Great.bodyPost_end0 rfl rfl ?_
      exact ⟨rfl, by have h := HZ.out; rw [chainZ, List.append_nil] at h; have h2 := HR.out; rw [List.append_nil, h] at h2; exact h2, HB.out, HK.out⟩
    | cons d r =>
      have hl := HI.out
      have hi : i < n := by have := hl.2.1; simp at this; omega
      have d1 : decide ((i : Int) < (n : Int)) = true := dY (by omega)
      have d2 : decide (i < n) = true := dY hi
      have p1 : (0 : Int) ≤ (i : Int) := Int.natCast_nonneg _
      have p2 : (i : Int) < (n : Int) := by omega
      have hd : (done ++ d :: r).getD ((i : Int)).toNat z47 = d := by rw [Int.toNat_natCast, ← hl.1]; exact getD_mid done d z47 r
      obtain ⟨cc, hcl, hMm, hcc, hfr⟩ := Kd.R_elem HR.out z47 (i : Int) p1 p2
      rw [hd] at hMm
      obtain rfl := k47_openM hMm
      have q0 : wr.cell? ⟨g, i * 8, none⟩ = some (.int .i64 d.f0) := hcc 0 _ rfl
      have q6 : wr.cell? ⟨g, i * 8 + 6, none⟩ = some (.int .i64 d.f6) := hcc 6 _ rfl
      have q7 : wr.cell? ⟨g, i * 8 + 7, none⟩ = some (.int .i64 d.f7) := hcc 7 _ rfl
      have r7 : wr.frozen? ⟨g, i * 8 + 7, none⟩ = false := hfr 7
      have s0 : wr.cell? ⟨w.heap.size, 0, none⟩ = some (.int .i64 next) := (blk_cell BK3.out 0).trans rfl
      have s1 : wr.cell? ⟨w.heap.size, 1, none⟩ = some (.slice (some ⟨g, 0, none⟩) n c) := (blk_cell BK3.out 1).trans rfl
      have hwd := HW.out d (.head _)
      have HCL := As hcl
      have HCC := As hcc
      have HWD := As hwd
      clear hl hd hcc hfr hMm hcl hwd
      by_cases h6 : d.f6 = 0
      · have e6 : (d.f6 == 0) = true := by simp [h6]
        have e6b : decide (d.f6 = 0) = true := dY h6
        have H6 := As h6
        clear h6
        go_wp2
        go_roundg (n - (i + 1))
        case measure => omega
        case rel => exact ⟨i + 1, m, done ++ [d], r, f, D, by rw [show wrap64 ((i : Int) + 1) = ((i + 1 : Nat) : Int) by have := HN.out; unfold wrap64; omega], by omega, ⟨by rw [List.length_append, HI.out.1]; rfl, by have := HI.out.2.1; simp at this; omega, by have := HI.out.2.2; omega⟩, ⟨by rw [List.append_assoc]; exact HR.out⟩, HM, HF, ⟨by have h := HZ.out; rw [chainZ, if_pos H6.out] at h; rw [List.append_assoc]; exact h⟩, ⟨fun x hx => HW.out x (.tail _ hx)⟩, BK3, HB, HK⟩
      · have e6 : (d.f6 == 0) = false := by simp [h6]
        have e6b : decide (d.f6 = 0) = false := dN h6
        have H6 := As h6
        clear h6
        by_cases h7 : d.f7 = -1
        · have e7 : (d.f7 == -1) = true := by simp [h7]
          have e7c : (d.f7 != -1) = false := by simp [h7]
          have e7b : decide (d.f7 = -1) = true := dY h7
          have H7 := As h7
          obtain ⟨cv, hrun, hat, _⟩ := HM.out.lookup_int law3 Tryd.underlying66 Tryd.underlying3 (zero3 _) (keyOf_int_mk Tryd.underlying3 HWD.out.2)
          have hcv : cv = f d.f6 := by
            have h := HF.out d.f6 HWD.out.2
            rw [hat] at h
            injection h with h
            injection h with _ h
          subst hcv
          clear hat
          by_cases h8 : f d.f6 = 0
          · have e8 : (f d.f6 == 0) = true := by simp [h8]
            have e8b : decide (f d.f6 = 0) = true := dY h8
            have H8 := As h8
            clear h8
            go_wp2
            go_roundg (n - (i + 1))
            case measure => omega
            case rel => exact ⟨i + 1, m, done ++ [d], r, f, D, by rw [show wrap64 ((i : Int) + 1) = ((i + 1 : Nat) : Int) by have := HN.out; unfold wrap64; omega], by omega, ⟨by rw [List.length_append, HI.out.1]; rfl, by have := HI.out.2.1; simp at this; omega, by have := HI.out.2.2; omega⟩, ⟨by rw [List.append_assoc]; exact HR.out⟩, HM, HF, ⟨by have h := HZ.out; rw [chainZ, if_neg H6.out, if_pos H7.out, if_pos H8.out] at h; rw [List.append_assoc]; exact h⟩, ⟨fun x hx => HW.out x (.tail _ hx)⟩, BK3, HB, HK⟩
          · have e8 : (f d.f6 == 0) = false := by simp [h8]
            have e8b : decide (f d.f6 = 0) = false := dN h8
            have H8 := As h8
            clear h8
            have HP := As (Kd.R_seg HR.out (i : Int) p1 p2 (seg := [.int .i64 t]) (j := 7) HCL.out HCC.out (show 7 + 1 ≤ 8 by decide) (x' := startAt t d) (k47_mkM _ _ _ (startAt t d)) (fun _ hk => hk))
            have HM2 := As (HM.out.setCell (a := ⟨g, i * 8 + 7, none⟩) BG.out (.int .i64 t))
            have q02 : (wr.setCell ⟨g, i * 8 + 7, none⟩ (.int .i64 t)).cell? ⟨g, i * 8, none⟩ = some (.int .i64 d.f0) := by rw [World.cell?_setCell_other _ _ _ _ (by intro e; injection e with _ e; omega)]; exact q0
            go_wp2_with (at_mapUpdate; refine wpList_mapUpdate_own _ rfl _ _ _ 66 rfl 3 3 law3 Tryd.underlying66 _ b m D rfl HM2.out (by have := HI.out.2.2; have := HN.out; have := Hm.out; unfold maxLen; omega) _ _ _ rfl rfl (keyOf_int_mk Tryd.underlying3 HWD.out.1) _ [] (plainElem_int Tryd.underlying3 (by decide)) ?_; intro w2 hm2 hg2)
            have h1 : Kd.R k47 47 (wr.setCell ⟨g, i * 8 + 7, none⟩ (.int .i64 t)) w0.heap.size (fun _ => True) (.slice (some ⟨g, 0, none⟩) n c) ((done ++ d :: r).set i (startAt t d)) := HP.out.1
            have e1 : (done ++ d :: r).set i (startAt t d) = (done ++ [startAt t d]) ++ r := by rw [← HI.out.1]; exact set_mid done d (startAt t d) r
            have g1 : wr.grownBy (wr.setCell ⟨g, i * 8 + 7, none⟩ (.int .i64 t)) (some g) := HP.out.2
            have h3 : (wr.setCell ⟨g, i * 8 + 7, none⟩ (.int .i64 t)).heap[w.heap.size]? = some (.cells #[.int .i64 next, .slice (some ⟨g, 0, none⟩) n c] 25 (0, 0)) := blk_far BK3.out G3.out _
            have HR2 := As (RM (Kd.R_grown (R_notmap (e1 ▸ h1) HM2.out) hg2 (fun k hk e => hk.2 (by injection e))) (fun _ hk => hk.1) : Kd.R k47 47 w2 w0.heap.size (fun _ => True) (.slice (some ⟨g, 0, none⟩) n c) ((done ++ [startAt t d]) ++ r))
            have BK32 := As ((hg2.block w.heap.size (blk_lt h3) (fun e => B3.out (by injection e))).trans h3)
            have HB2 := As ((HB.out.grown g1 HB.out.size (fun k e => Kd.R_base HR.out k (by injection e with e; simp [Value.ownBlock, e]))).grown hg2 (Nat.le_trans HB.out.size g1.size) (fun k e => by injection e with e; rw [← e]; exact HBB.out))
            have HK2 := As ((HK.out.step g1 (.inl rfl)).step hg2 (.inr rfl))
            have HM3 := As hm2
            have HF2 := As (HF.out.put HM.out.isMap d.f0)
            clear h1 e1 g1 h3 hm2 hg2
            go_roundg (n - (i + 1))
            case measure => omega
            case rel => exact ⟨i + 1, m + 1, done ++ [startAt t d], r, setOne f d.f0, _, by rw [show wrap64 ((i : Int) + 1) = ((i + 1 : Nat) : Int) by have := HN.out; unfold wrap64; omega], by omega, ⟨by rw [List.length_append, HI.out.1]; rfl, by have := HI.out.2.1; simp at this; omega, by have := HI.out.2.2; omega⟩, HR2, HM3, HF2, ⟨by have h := HZ.out; rw [chainZ, if_neg H6.out, if_pos H7.out, if_neg H8.out] at h; rw [List.append_assoc]; exact h⟩, ⟨fun x hx => HW.out x (.tail _ hx)⟩, BK32, HB2, HK2⟩
        · have e7 : (d.f7 == -1) = false := by simp [h7]
          have e7c : (d.f7 != -1) = true := by simp [h7]
          have e7b : decide (d.f7 = -1) = false := dN h7
          have H7 := As h7
          go_wp2
          go_roundg (n - (i + 1))
          case measure => omega
          case rel => exact ⟨i + 1, m, done ++ [d], r, f, D, by rw [show wrap64 ((i : Int) + 1) = ((i + 1 : Nat) : Int) by have := HN.out; unfold wrap64; omega], by omega, ⟨by rw [List.length_append, HI.out.1]; rfl, by have := HI.out.2.1; simp at this; omega, by have := HI.out.2.2; omega⟩, ⟨by rw [List.append_assoc]; exact HR.out⟩, HM, HF, ⟨by have h := HZ.out; rw [chainZ, if_neg H6.out, if_neg H7.out] at h; rw [List.append_assoc]; exact h⟩, ⟨fun x hx => HW.out x (.tail _ hx)⟩, BK3, HB, HK⟩
end Go.Proofs.YtgmdaaenhmclfaaDoor.P
