/- The walk of down.over: is a downtime over, with the IDs that are left in a map of one's own. -/
import Derived.Test.YtgmdaaenhmclfaaDoorPx10
import Derived.Test.YtgmdaaenhmclfaaDoorDnChain
namespace Go.Proofs.YtgmdaaenhmclfaaDoor.P
open Go.RowKit Go.Maps Go.Proofs.YtgmdaaenhmclfaaDoorW.PrintWords Go.Proofs.YtgmdaaenhmclfaaDoorW.PrintLast Go.Proofs.YtgmdaaenhmclfaaDoorW.PrintMore
attribute [local go_sem] max2_int min2_int max_two min_two max_three min_three max_four min_four
set_option linter.unusedVariables false
set_option linter.unusedSimpArgs false
def spanZ (d : S47) : Int × Int × Bool := if d.f4 = true then (d.f2, d.f3, true) else if d.f7 = -1 then (0, 0, false) else (d.f7, wrap64 (d.f7 + (mn d.f5 (wrap64 (4611686018427387904 - d.f7)))), true)
theorem span_eq (d : S47) : down_Down_span.f d.f0 d.f1 d.f2 d.f3 d.f4 d.f5 d.f6 d.f7 = some (spanZ d) := by
  unfold down_Down_span.f spanZ
  by_cases h4 : d.f4 = true
  · rw [if_pos h4, if_pos h4]
  · rw [if_neg h4, if_neg h4]
    by_cases h7 : d.f7 = -1
    · rw [if_pos h7, if_pos h7]
    · rw [if_neg h7, if_neg h7]
def overS (t : Int) (f : Int → Int) (d : S47) (s : Int × Int × Bool) : Bool := if s.2.2 = true then decide (s.2.1 ≤ t) else if d.f3 ≤ t then true else if 0 < d.f6 then decide (f d.f6 = 0) else false
def overZ (t : Int) (f : Int → Int) (d : S47) : Bool := overS t f d (spanZ d)
theorem ownsMap_below {w w' : World} {b n : Nat} {P : Program} {k : TypeId} {R : Value → Option (DataW Unit × List MemPlace)} {D : DataW Unit} (h : w.ownsMap P k R b n D) (hb : Below w.heap.size w w') : w'.ownsMap P k R b n D := by
  have hlt := h.lt
  obtain ⟨es, clock, h1, F, hs, hD⟩ := h
  exact ⟨es, clock, (hb.block b hlt).trans h1, F, hs, hD⟩
set_option maxRecDepth 100000 in
set_option maxHeartbeats 4000000 in
theorem over_walk (d : S47) (t : Int) (b m : Nat) (D : DataW Unit) (f : Int → Int) (w : World) (hM : w.ownsMap Tryd.prog 3 (plainElem Tryd.prog 3) b m D) (hf : MapIs D f) (hwf : (Lit.int .i64 d.f6).wf = true) :
    Calls Tryd.prog 28 #[.agg #[.int .i64 d.f0, .int .i64 d.f1, .int .i64 d.f2, .int .i64 d.f3, .bool d.f4, .int .i64 d.f5, .int .i64 d.f6, .int .i64 d.f7], .int .i64 t, .map (some b)] w fun e w' => e = .returned (.bool (overZ t f d)) ∧ Below w.heap.size w w' := by
  unfold overZ
  obtain ⟨⟨s1, s2, s3⟩, hs⟩ : ∃ s, spanZ d = s := ⟨_, rfl⟩
  have HS := As (fun W => down_Down_span.calls d.f0 d.f1 d.f2 d.f3 d.f4 d.f5 d.f6 d.f7 s1 s2 s3 W ((span_eq d).trans (congrArg some hs)))
  rw [hs]
  obtain ⟨o, ho⟩ : ∃ o, overS t f d (s1, s2, s3) = o := ⟨_, rfl⟩
  rw [ho]
  have HO := As ho
  clear hs ho
  have HB := As (XA (Below.refl w.heap.size w) (.cells #[.int .i64 d.f0, .int .i64 d.f1, .int .i64 d.f2, .int .i64 d.f3, .bool d.f4, .int .i64 d.f5, .int .i64 d.f6, .int .i64 d.f7] 47))
  have HM := As (hM.alloc (.cells #[.int .i64 d.f0, .int .i64 d.f1, .int .i64 d.f2, .int .i64 d.f3, .bool d.f4, .int .i64 d.f5, .int .i64 d.f6, .int .i64 d.f7] 47))
  have BK := As (show (w.alloc (.cells #[.int .i64 d.f0, .int .i64 d.f1, .int .i64 d.f2, .int .i64 d.f3, .bool d.f4, .int .i64 d.f5, .int .i64 d.f6, .int .i64 d.f7] 47)).heap[w.heap.size]? = some (.cells #[.int .i64 d.f0, .int .i64 d.f1, .int .i64 d.f2, .int .i64 d.f3, .bool d.f4, .int .i64 d.f5, .int .i64 d.f6, .int .i64 d.f7] 47 (0, 0)) by first | exact heap_alloc_new w _ | simp [World.alloc])
  have HF := As hf
  have HW := As hwf
  clear hM hf hwf
  go_enter Tryd.func28, Tryd.ntmps28
  go_upto_region 2 with (go_at_call 31; (with_reducible refine (HS.out _).mono ?_); rintro e_ w1 ⟨rfl, hb⟩; have HM1 := As (ownsMap_below HM.out hb); have BK1 := As (YB BK.out hb); have HB1 := As (XT HB.out hb); clear hb)
  have c3 : w1.cell? ⟨w.heap.size, 3, none⟩ = some (.int .i64 d.f3) := (blk_cell BK1.out 3).trans rfl
  have c6 : w1.cell? ⟨w.heap.size, 6, none⟩ = some (.int .i64 d.f6) := (blk_cell BK1.out 6).trans rfl
  obtain ⟨cv, hrun, hat, _⟩ := HM1.out.lookup_int law3 Tryd.underlying66 Tryd.underlying3 (zero3 _) (keyOf_int_mk Tryd.underlying3 HW.out)
  have hcv : cv = f d.f6 := by
    have h := HF.out d.f6 HW.out
    rw [hat] at h
    injection h with h
    injection h with _ h
  subst hcv
  clear hat
  have ho := HO.out
  clear HO
  unfold overS at ho
  cases s3 with
  | true =>
    rw [if_pos (show (s1, s2, true).2.2 = true from rfl)] at ho
    have HO := As ho
    clear ho
    go_wp2
    go_ret
    exact ⟨by rw [← HO.out]; rfl, HB1.out⟩
  | false =>
    rw [if_neg (show ¬ (s1, s2, false).2.2 = true from Bool.false_ne_true)] at ho
    by_cases h3 : d.f3 ≤ t
    · rw [if_pos h3] at ho
      subst ho
      have e3 : decide (d.f3 ≤ t) = true := dY h3
      go_wp2
      go_ret
      exact ⟨rfl, HB1.out⟩
    · rw [if_neg h3] at ho
      have e3 : decide (d.f3 ≤ t) = false := dN h3
      by_cases h6 : 0 < d.f6
      · rw [if_pos h6] at ho
        have HO := As ho
        clear ho
        have e6 : decide (d.f6 > 0) = true := dY h6
        have e6b : decide (0 < d.f6) = true := dY h6
        go_wp2
        go_ret
        exact ⟨by rw [← HO.out]; first | rfl | simp, HB1.out⟩
      · rw [if_neg h6] at ho
        subst ho
        have e6 : decide (d.f6 > 0) = false := dN h6
        have e6b : decide (0 < d.f6) = false := dN h6
        go_wp2
        go_ret
        exact ⟨rfl, HB1.out⟩
end Go.Proofs.YtgmdaaenhmclfaaDoor.P
