-- written by myprint.py (this claim's own program, after the kit's print)
import Derived.Test.YtgmdaaenhmclfaaDoorPx0
import Derived.Test.YtgmdaaenhmclfaaDoorPack
namespace Go.Proofs.YtgmdaaenhmclfaaDoor.P
open Go.RowKit Go.Proofs.YtgmdaaenhmclfaaDoorW.PrintWords Go.Proofs.YtgmdaaenhmclfaaDoorW.PrintLast Go.Proofs.YtgmdaaenhmclfaaDoorW.PrintMore
attribute [local go_sem] max2_int min2_int max_two min_two max_three min_three max_four min_four   -- for this text's walks alone
set_option linter.unusedVariables false
set_option linter.unusedSimpArgs false

-- NOT PRINTED: function 34 (down_Down_int)

/-! ### dF1: function 35 -/
def dF1.f (a0_0 : Int) (a0_1 : Int) (a0_2 : Int) (a0_3 : Int) (a0_4 : Bool) (a0_5 : Int) (a0_6 : Int) (a0_7 : Int) (a1 : Int) : Option (Int) := some (wrap64 (a0_0 - a1))
set_option maxHeartbeats 8000000 in
set_option maxRecDepth 100000 in
theorem dF1.calls (a0_0 : Int) (a0_1 : Int) (a0_2 : Int) (a0_3 : Int) (a0_4 : Bool) (a0_5 : Int) (a0_6 : Int) (a0_7 : Int) (a1 : Int) (r : Int) (w : World) (h : dF1.f a0_0 a0_1 a0_2 a0_3 a0_4 a0_5 a0_6 a0_7 a1 = some r) :
  Calls Tryd.prog 35 #[.agg #[.int .i64 a0_0, .int .i64 a0_1, .int .i64 a0_2, .int .i64 a0_3, .bool a0_4, .int .i64 a0_5, .int .i64 a0_6, .int .i64 a0_7], .int .i64 a1] w fun e w' => e = .returned (.int .i64 r) ∧ Below w.heap.size w w' := by
 have hu47 := Tryd.underlying47;have HB := As (Below.refl w.heap.size w);have H : (some (wrap64 (a0_0 - a1))) = some r := h;clear h;obtain rfl := Option.some.inj H
 go_enter Tryd.func35, Tryd.ntmps35
 go_wp2_with (first | ((with_reducible refine gate_dst (N := 2) rfl ?_); refine box_event ?hg (N := 2) ?hd (cs := #[.int .i64 a0_0, .int .i64 a0_1, .int .i64 a0_2, .int .i64 a0_3, .bool a0_4, .int .i64 a0_5, .int .i64 a0_6, .int .i64 a0_7]) (t := 47) ?hr ?_; (case hd => rfl); (case hg => rfl); (case hr => first | (go_simp; done) | (go_simp; rfl)); intro gb105 hg w3 hbox hb; have n0_ := As (XT (by repeat (first | (with_reducible first | exact HB.out | apply XA | apply XN | apply XD) | exact HB.out)) hb); have n1_ := As (hbox); have n2_ := As ((by rw [hg]; exact (XZ (by repeat (first | (with_reducible first | exact HB.out | apply XA | apply XN | apply XD) | exact HB.out))) : w.heap.size ≤ gb105)); have n3_ := As ((by rw [hg]; exact (XZ (by repeat (first | (with_reducible first | exact HB.out | apply XA | apply XN | apply XD) | exact HB.out))) : w.heap.size ≤ gb105)); clear HB; have HB := n0_; have BK105 := n1_; have GW105 := n2_; have GE105 := n3_; clear n0_ n1_ n2_ n3_; clear hb hbox hg; obtain ⟨hcz4_0, hcz4_1, hcz4_2, hcz4_3, hcz4_4, hcz4_5, hcz4_6, hcz4_7, hfz4_0, hfz4_1, hfz4_2, hfz4_3, hfz4_4, hfz4_5, hfz4_6, hfz4_7⟩ := cz8 BK105.out))
 go_ret
 exact ⟨by first | rfl | (simp [errW_none, errW_some] <;> rfl) | (simp [*, errW_none, errW_some] <;> rfl), by repeat (first | (with_reducible first | exact HB.out | apply XA | apply XN | apply XD | refine XS ?_ GE105.out) | exact HB.out)⟩

/-! ### dF34: function 34 -/
def dF34.l0 : Nat → List (S47) → Int → Int → Int → Int → Option (Int × Bool)
 | 0, _, _, _, _, _ => none
 | k + 1, x0, x1, x8, x9, x10 => if x9 < x10 then (if 0 ≤ (wrap64 ((IntKind.u64.wrap (wrap64 (x9 + x10))) / 2)) then (if (wrap64 ((IntKind.u64.wrap (wrap64 (x9 + x10))) / 2)) < (x0.length : Int) then ((dF1.f ((rd_T47 x0 (wrap64 ((IntKind.u64.wrap (wrap64 (x9 + x10))) / 2))).f0) ((rd_T47 x0 (wrap64 ((IntKind.u64.wrap (wrap64 (x9 + x10))) / 2))).f1) ((rd_T47 x0 (wrap64 ((IntKind.u64.wrap (wrap64 (x9 + x10))) / 2))).f2) ((rd_T47 x0 (wrap64 ((IntKind.u64.wrap (wrap64 (x9 + x10))) / 2))).f3) ((rd_T47 x0 (wrap64 ((IntKind.u64.wrap (wrap64 (x9 + x10))) / 2))).f4) ((rd_T47 x0 (wrap64 ((IntKind.u64.wrap (wrap64 (x9 + x10))) / 2))).f5) ((rd_T47 x0 (wrap64 ((IntKind.u64.wrap (wrap64 (x9 + x10))) / 2))).f6) ((rd_T47 x0 (wrap64 ((IntKind.u64.wrap (wrap64 (x9 + x10))) / 2))).f7) x1).bind fun t107 => (if t107 < 0 then (dF34.l0 k x0 x1 x8 (wrap64 ((wrap64 ((IntKind.u64.wrap (wrap64 (x9 + x10))) / 2)) + 1)) x10) else (dF34.l0 k x0 x1 x8 x9 (wrap64 ((IntKind.u64.wrap (wrap64 (x9 + x10))) / 2))))) else (none)) else (none)) else (if x9 < x8 then (if 0 ≤ x9 then (if x9 < (x0.length : Int) then ((dF1.f ((rd_T47 x0 x9).f0) ((rd_T47 x0 x9).f1) ((rd_T47 x0 x9).f2) ((rd_T47 x0 x9).f3) ((rd_T47 x0 x9).f4) ((rd_T47 x0 x9).f5) ((rd_T47 x0 x9).f6) ((rd_T47 x0 x9).f7) x1).bind fun t109 => (some (x9, (t109 == 0)))) else (none)) else (none)) else (some (x9, false)))
def dF34.f (k : Nat) (l0 : List (S47)) (a1 : Int)  : Option (Int × Bool) := dF34.l0 k l0 a1 (l0.length : Int) 0 (l0.length : Int)
theorem dF34.mono_l : ∀ k, (∀ y0 y1 y2 y3 y4, LeO (dF34.l0 k y0 y1 y2 y3 y4) (dF34.l0 (k + 1) y0 y1 y2 y3 y4))
 | 0 => fun _ _ _ _ _ r h => by simp [dF34.l0] at h
 | k + 1 => by
  have ih0 := dF34.mono_l k
  ·intro y0 y1 y2 y3 y4;unfold dF34.l0
   repeat' first
   | (with_reducible exact ih0 _ _ _ _ _)
   | (with_reducible exact LeO.refl _)
   | (with_reducible exact LeO.none _)
   | (with_reducible refine LeO.ite ?_ ?_)
   | (with_reducible refine LeO.bind ?_ (fun _ => ?_))
   | exact ih0 _ _ _ _ _
   | exact LeO.none _
   | refine LeO.ite ?_ ?_
   | refine LeO.bind ?_ (fun _ => ?_)
theorem dF34.mono : ∀ a0 a1 k, LeO (dF34.f k a0 a1) (dF34.f (k + 1) a0 a1) := by
 intro a0 a1 k;have ih0 := dF34.mono_l k;unfold dF34.f
 repeat' first
   | (with_reducible exact ih0 _ _ _ _ _)
   | (with_reducible exact LeO.refl _)
   | (with_reducible exact LeO.none _)
   | (with_reducible refine LeO.ite ?_ ?_)
   | (with_reducible refine LeO.bind ?_ (fun _ => ?_))
   | exact ih0 _ _ _ _ _
   | exact LeO.none _
   | refine LeO.ite ?_ ?_
   | refine LeO.bind ?_ (fun _ => ?_)
set_option maxHeartbeats 8000000 in
set_option maxRecDepth 100000 in
theorem dF34.calls (k : Nat) (A0 : Option Addr) (c0 : Nat) (l0 : List (S47)) (a1 : Int)  (r1 : Int) (r2 : Bool) (w : World) (hr0 : Kd.C k47 w A0 l0.length l0) (hc0 : l0.length ≤ c0) (h : dF34.f k l0 a1 = some (r1, r2)) :
  Calls Tryd.prog 34 #[.slice A0 l0.length c0, .int .i64 a1, .func (.func 35) #[] #[]] w fun e w' => e = .returned (.tuple #[.int .i64 r1, .bool r2]) ∧ Below w.heap.size w w' := by
 have hu47 := Tryd.underlying47;have HR0 := As hr0;have HC0 := As hc0;clear hr0 hc0;have HB := As (Below.refl w.heap.size w);have H : (dF34.l0 k l0 a1 (l0.length : Int) 0 (l0.length : Int)) = some (r1, r2) := h;clear h;have H' := As H;clear H
 go_enter Tryd.func34, Tryd.ntmps34
 go_wp2
 go_loopg [9, 10] k (fun kq v9 v10 w' => ∃ (x9_1 : Int) (x10_1 : Int), v9 = .int .i64 x9_1 ∧ v10 = .int .i64 x10_1 ∧ Aside0 (dF34.l0 kq l0 a1 (l0.length : Int) x9_1 x10_1 = some (r1, r2)) ∧ Aside0 (kq ≤ k) ∧ Aside0 (Below w.heap.size w w'))
 case atStart => exact ⟨(0), ((l0.length : Int)), (by first | rfl | (simp; done) | (simp [*]; done) | (simp; unfold wrap64; omega)), (by first | rfl | (simp; done) | (simp [*]; done) | (simp; unfold wrap64; omega)), H', ⟨Nat.le_refl _⟩, ⟨by repeat (first | (with_reducible first | exact HB.out | apply XA | apply XN | apply XD) | exact HB.out)⟩⟩
 case round =>
  clear H'
  try clear p2
  obtain ⟨x9_1, x10_1, rfl, rfl, HA, HK1, HB⟩ := hrel
  cases gk with
  | zero => exact absurd HA.out (by simp [dF34.l0])
  | succ k1 =>
   have H := HA.out;clear HA;simp only [dF34.l0] at H
   by_cases c4 : x9_1 < x10_1
   ·rw [if_pos c4] at H;have c4b0 : decide (x9_1 < x10_1) = true := dY c4;clear c4
    obtain ⟨ji5, hji5⟩ : ∃ j_ : Int, (wrap64 ((IntKind.u64.wrap (wrap64 (x9_1 + x10_1))) / 2)) = j_ := ⟨_, rfl⟩
    replace H : (if 0 ≤ (ji5) then (if (ji5) < (l0.length : Int) then ((dF1.f ((rd_T47 l0 (ji5)).f0) ((rd_T47 l0 (ji5)).f1) ((rd_T47 l0 (ji5)).f2) ((rd_T47 l0 (ji5)).f3) ((rd_T47 l0 (ji5)).f4) ((rd_T47 l0 (ji5)).f5) ((rd_T47 l0 (ji5)).f6) ((rd_T47 l0 (ji5)).f7) a1).bind fun t107 => (if t107 < 0 then (dF34.l0 k1 l0 a1 (l0.length : Int) (wrap64 ((ji5) + 1)) x10_1) else (dF34.l0 k1 l0 a1 (l0.length : Int) x9_1 ji5))) else (none)) else (none)) = some (r1, r2) := by first | (rw [hji5] at H; exact H) | (simp only [hji5] at H ⊢; exact H)
    have hji5w : (IntKind.i64.wrap ((IntKind.u64.wrap (wrap64 (x9_1 + x10_1))) / 2)) = ji5 := (i64_w _).trans hji5
    by_cases c6 : 0 ≤ (ji5)
    rotate_left
    ·rw [if_neg c6] at H;exact absurd H (by simp)
    rw [if_pos c6] at H;have c6b0 : decide (0 ≤ (ji5)) = true := dY c6;clear c6
    by_cases c7 : (ji5) < (l0.length : Int)
    rotate_left
    ·rw [if_neg c7] at H;exact absurd H (by simp)
    rw [if_pos c7] at H;have c7b0 : decide ((ji5) < (l0.length : Int)) = true := dY c7;clear c7;replace H := bE H;obtain ⟨t107, A80, H⟩ := H;replace H : (if t107 < 0 then (dF34.l0 k1 l0 a1 (l0.length : Int) (wrap64 ((ji5) + 1)) x10_1) else (dF34.l0 k1 l0 a1 (l0.length : Int) x9_1 ji5)) = some (r1, r2) := H;have A8 := As A80;clear A80
    by_cases c9 : t107 < 0
    rw [if_pos c9] at H;have c9b0 : decide (t107 < 0) = true := dY c9;clear c9;have H' := As H;clear H;have p106 : 0 ≤ ((ji5) : Int) := dT (by first | (with_reducible assumption) | assumption);have q106 : (ji5) < (l0.length : Int) := dT (by first | (with_reducible assumption) | assumption);obtain ⟨ad106, e106, hx106_0, hx106_1, hx106_2, hx106_3, hx106_4, hx106_5, hx106_6, hx106_7⟩ := at_T47 HR0.out (ji5) p106 q106
    cases e106
    replace hx106_0 := (HB.out.cell (BL w _ hx106_0)).trans hx106_0;replace hx106_1 := (HB.out.cell (BL w _ hx106_1)).trans hx106_1;replace hx106_2 := (HB.out.cell (BL w _ hx106_2)).trans hx106_2;replace hx106_3 := (HB.out.cell (BL w _ hx106_3)).trans hx106_3;replace hx106_4 := (HB.out.cell (BL w _ hx106_4)).trans hx106_4;replace hx106_5 := (HB.out.cell (BL w _ hx106_5)).trans hx106_5;replace hx106_6 := (HB.out.cell (BL w _ hx106_6)).trans hx106_6;replace hx106_7 := (HB.out.cell (BL w _ hx106_7)).trans hx106_7;replace p106 := eq_true p106;replace q106 := eq_true q106
    rotate_left
    rw [if_neg c9] at H;have c9b0 : decide (t107 < 0) = false := dN c9;clear c9;have H' := As H;clear H;have p106 : 0 ≤ ((ji5) : Int) := dT (by first | (with_reducible assumption) | assumption);have q106 : (ji5) < (l0.length : Int) := dT (by first | (with_reducible assumption) | assumption);obtain ⟨ad106, e106, hx106_0, hx106_1, hx106_2, hx106_3, hx106_4, hx106_5, hx106_6, hx106_7⟩ := at_T47 HR0.out (ji5) p106 q106
    cases e106
    replace hx106_0 := (HB.out.cell (BL w _ hx106_0)).trans hx106_0;replace hx106_1 := (HB.out.cell (BL w _ hx106_1)).trans hx106_1;replace hx106_2 := (HB.out.cell (BL w _ hx106_2)).trans hx106_2;replace hx106_3 := (HB.out.cell (BL w _ hx106_3)).trans hx106_3;replace hx106_4 := (HB.out.cell (BL w _ hx106_4)).trans hx106_4;replace hx106_5 := (HB.out.cell (BL w _ hx106_5)).trans hx106_5;replace hx106_6 := (HB.out.cell (BL w _ hx106_6)).trans hx106_6;replace hx106_7 := (HB.out.cell (BL w _ hx106_7)).trans hx106_7;replace p106 := eq_true p106;replace q106 := eq_true q106
    all_goals go_wp2_with (first | ((with_reducible refine gate_dst (N := 30) rfl ?_); refine goesT_ (some 30) rfl rfl Tryd.func35 (by kernel_rfl) rfl #[.agg #[.int .i64 ((rd_T47 l0 (ji5)).f0), .int .i64 ((rd_T47 l0 (ji5)).f1), .int .i64 ((rd_T47 l0 (ji5)).f2), .int .i64 ((rd_T47 l0 (ji5)).f3), .bool ((rd_T47 l0 (ji5)).f4), .int .i64 ((rd_T47 l0 (ji5)).f5), .int .i64 ((rd_T47 l0 (ji5)).f6), .int .i64 ((rd_T47 l0 (ji5)).f7)], .int .i64 a1] rfl rfl (by (try simp only [List.map_toArray, List.map_cons, List.map_nil]); first | done | (simp only [hji5]; rfl) | rfl | (simp only [List.length_drop, List.length_take]; rfl)) ?_; (with_reducible refine (dF1.calls ((rd_T47 l0 (ji5)).f0) ((rd_T47 l0 (ji5)).f1) ((rd_T47 l0 (ji5)).f2) ((rd_T47 l0 (ji5)).f3) ((rd_T47 l0 (ji5)).f4) ((rd_T47 l0 (ji5)).f5) ((rd_T47 l0 (ji5)).f6) ((rd_T47 l0 (ji5)).f7) a1 t107 _ A8.out).mono ?_); rintro e w10 ⟨rfl, hb⟩; refine ⟨_, rfl, ?_⟩; have n0_ := As (XT (by repeat (first | (with_reducible first | exact HB.out | apply XA | apply XN | apply XD) | exact HB.out)) hb); clear HB; have HB := n0_; clear n0_; (try clear hb); (try clear hb2); (try clear hk); (try clear hi)))
    ·go_roundg k1
     case measure => have := HK1.out; omega
     case rel => exact ⟨(x9_1), (ji5), (by first | rfl | (simp; done) | (simp [*]; done) | (simp; unfold wrap64; omega)), (by first | rfl | (simp; done) | (simp only [← hji5] <;> (first | rfl | simp)) | (simp [*]; done)), H', ⟨by have := HK1.out; omega⟩, ⟨by repeat (first | (with_reducible first | exact HB.out | apply XA | apply XN | apply XD) | exact HB.out)⟩⟩
    ·go_roundg k1
     case measure => have := HK1.out; omega
     case rel => exact ⟨(wrap64 ((ji5) + 1)), (x10_1), (by first | rfl | (simp; done) | (simp only [← hji5] <;> (first | rfl | simp)) | (simp [*]; done)), (by first | rfl | (simp; done) | (simp [*]; done) | (simp; unfold wrap64; omega)), H', ⟨by have := HK1.out; omega⟩, ⟨by repeat (first | (with_reducible first | exact HB.out | apply XA | apply XN | apply XD) | exact HB.out)⟩⟩
   ·rw [if_neg c4] at H;have c4b0 : decide (x9_1 < x10_1) = false := dN c4;clear c4
    by_cases c12 : x9_1 < (l0.length : Int)
    ·rw [if_pos c12] at H;have c12b0 : decide (x9_1 < (l0.length : Int)) = true := dY c12;clear c12
     by_cases c13 : 0 ≤ x9_1
     rotate_left
     ·rw [if_neg c13] at H;exact absurd H (by simp)
     rw [if_pos c13] at H;have c13b0 : decide (0 ≤ x9_1) = true := dY c13;clear c13
     by_cases c14 : x9_1 < (l0.length : Int)
     rotate_left
     ·rw [if_neg c14] at H;exact absurd H (by simp)
     rw [if_pos c14] at H;have c14b0 : decide (x9_1 < (l0.length : Int)) = true := dY c14;clear c14;replace H := bE H;obtain ⟨t109, A150, H⟩ := H;replace H : (some (x9_1, (t109 == 0))) = some (r1, r2) := H;have A15 := As A150;clear A150;simp only [Option.some.injEq, Prod.mk.injEq] at H;obtain ⟨rfl, rfl⟩ := H;have p108 : 0 ≤ (x9_1 : Int) := dT (by first | (with_reducible assumption) | assumption);have q108 : x9_1 < (l0.length : Int) := dT (by first | (with_reducible assumption) | assumption);obtain ⟨ad108, e108, hx108_0, hx108_1, hx108_2, hx108_3, hx108_4, hx108_5, hx108_6, hx108_7⟩ := at_T47 HR0.out x9_1 p108 q108
     cases e108
     replace hx108_0 := (HB.out.cell (BL w _ hx108_0)).trans hx108_0;replace hx108_1 := (HB.out.cell (BL w _ hx108_1)).trans hx108_1;replace hx108_2 := (HB.out.cell (BL w _ hx108_2)).trans hx108_2;replace hx108_3 := (HB.out.cell (BL w _ hx108_3)).trans hx108_3;replace hx108_4 := (HB.out.cell (BL w _ hx108_4)).trans hx108_4;replace hx108_5 := (HB.out.cell (BL w _ hx108_5)).trans hx108_5;replace hx108_6 := (HB.out.cell (BL w _ hx108_6)).trans hx108_6;replace hx108_7 := (HB.out.cell (BL w _ hx108_7)).trans hx108_7;replace p108 := eq_true p108;replace q108 := eq_true q108
     go_wp2_with (first | (go_at_call 35; (with_reducible refine (dF1.calls ((rd_T47 l0 x9_1).f0) ((rd_T47 l0 x9_1).f1) ((rd_T47 l0 x9_1).f2) ((rd_T47 l0 x9_1).f3) ((rd_T47 l0 x9_1).f4) ((rd_T47 l0 x9_1).f5) ((rd_T47 l0 x9_1).f6) ((rd_T47 l0 x9_1).f7) a1 t109 _ A15.out).mono ?_); rintro e w16 ⟨rfl, hb⟩; have n0_ := As (XT (by repeat (first | (with_reducible first | exact HB.out | apply XA | apply XN | apply XD) | exact HB.out)) hb); clear HB; have HB := n0_; clear n0_; (try clear hb); (try clear hb2); (try clear hk); (try clear hi)))
     go_ret2
     exact ⟨by first | rfl | (simp [errW_none, errW_some] <;> rfl) | (simp [*, errW_none, errW_some] <;> rfl), by repeat (first | (with_reducible first | exact HB.out | apply XA | apply XN | apply XD) | exact HB.out)⟩
    ·rw [if_neg c12] at H;have c12b0 : decide (x9_1 < (l0.length : Int)) = false := dN c12;clear c12;simp only [Option.some.injEq, Prod.mk.injEq] at H;obtain ⟨rfl, rfl⟩ := H
     go_wp2
     go_ret2
     exact ⟨by first | rfl | (simp [errW_none, errW_some] <;> rfl) | (simp [*, errW_none, errW_some] <;> rfl), by repeat (first | (with_reducible first | exact HB.out | apply XA | apply XN | apply XD) | exact HB.out)⟩

/-! ### dLF: function 18 -/
def dLF.f (k : Nat) (a0_0 : Int) (l0_1 : List (S47)) (a1 : Int) : Option (Int × Bool) := (dF34.f k l0_1 a1).bind fun bt111 => (some (bt111.1, bt111.2))
theorem dLF.mono : ∀ a0 a1 a2 k, LeO (dLF.f k a0 a1 a2) (dLF.f (k + 1) a0 a1 a2) := by
 intro a0 a1 a2 k;unfold dLF.f
 repeat' first
   | (with_reducible exact dF34.mono _ _ _)
   | (with_reducible exact LeO.refl _)
   | (with_reducible exact LeO.none _)
   | (with_reducible refine LeO.ite ?_ ?_)
   | (with_reducible refine LeO.bind ?_ (fun _ => ?_))
   | exact dF34.mono _ _ _
   | exact LeO.none _
   | refine LeO.ite ?_ ?_
   | refine LeO.bind ?_ (fun _ => ?_)
set_option maxHeartbeats 8000000 in
set_option maxRecDepth 100000 in
theorem dLF.calls (k : Nat) (a0_0 : Int) (A0_1 : Option Addr) (c0_1 : Nat) (l0_1 : List (S47)) (a1 : Int) (r1 : Int) (r2 : Bool) (w : World) (hr0_1 : Kd.C k47 w A0_1 l0_1.length l0_1) (hc0_1 : l0_1.length ≤ c0_1) (h : dLF.f k a0_0 l0_1 a1 = some (r1, r2)) :
  Calls Tryd.prog 18 #[.agg #[.int .i64 a0_0, .slice A0_1 l0_1.length c0_1], .int .i64 a1] w fun e w' => e = .returned (.tuple #[.int .i64 r1, .bool r2]) ∧ Below w.heap.size w w' := by
 have hu25 := Tryd.underlying25;have HR0_1 := As hr0_1;have HC0_1 := As hc0_1;clear hr0_1 hc0_1;have HB := As (Below.refl w.heap.size w);have H : ((dF34.f k l0_1 a1).bind fun bt111 => (some (bt111.1, bt111.2))) = some (r1, r2) := h;clear h;replace H := bE H;obtain ⟨⟨t111, t112⟩, A30, H⟩ := H;replace H : (some (t111, t112)) = some (r1, r2) := H;have A3 := As A30;clear A30;simp only [Option.some.injEq, Prod.mk.injEq] at H;obtain ⟨rfl, rfl⟩ := H
 go_enter Tryd.func18, Tryd.ntmps18
 go_wp2_with (first | ((with_reducible refine gate_dst (N := 2) rfl ?_); refine box_event ?hg (N := 2) ?hd (cs := #[.int .i64 a0_0, .slice A0_1 l0_1.length c0_1]) (t := 25) ?hr ?_; (case hd => rfl); (case hg => rfl); (case hr => first | (go_simp; done) | (go_simp; rfl)); intro gb110 hg w4 hbox hb; have n0_ := As (XT (by repeat (first | (with_reducible first | exact HB.out | apply XA | apply XN | apply XD) | exact HB.out)) hb); have n1_ := As (hbox); have n2_ := As ((by rw [hg]; exact (XZ (by repeat (first | (with_reducible first | exact HB.out | apply XA | apply XN | apply XD) | exact HB.out))) : w.heap.size ≤ gb110)); have n3_ := As ((by rw [hg]; exact (XZ (by repeat (first | (with_reducible first | exact HB.out | apply XA | apply XN | apply XD) | exact HB.out))) : w.heap.size ≤ gb110)); clear HB; have HB := n0_; have BK110 := n1_; have GW110 := n2_; have GE110 := n3_; clear n0_ n1_ n2_ n3_; clear hb hbox hg; obtain ⟨hcz5_0, hcz5_1, hfz5_0, hfz5_1⟩ := cz2 BK110.out) | ((with_reducible refine gate_callee (f := 34) rfl ?_); refine goesL_ (some 9) rfl rfl Tryd.func34 (by kernel_rfl) rfl #[.slice A0_1 l0_1.length c0_1, .int .i64 a1, .func (.func 35) #[] #[]] rfl (by (try simp only [List.map_toArray, List.map_cons, List.map_nil]); first | done | rfl | (simp only [List.length_drop, List.length_take]; rfl)) ?_; (with_reducible refine (dF34.calls k _ _ l0_1 a1  t111 t112 _ ?side1 ?side2 A3.out).mono ?_); (case side1 => repeat (first | exact (Kd.C_below HR0_1.out HB.out) | (with_reducible refine Kd.C_alloc ?_ _) | (with_reducible refine Kd.C_drewN ?_ _) | (with_reducible refine Kd.C_drew ?_))); (case side2 => exact HC0_1.out); rintro e w6 ⟨rfl, hb⟩; refine ⟨_, rfl, ?_⟩; have n0_ := As (YB (g := gb110) (o := .cells #[.int .i64 a0_0, .slice A0_1 l0_1.length c0_1] 25 (0, 0)) (by (with_reducible repeat (first | refine YN ?_ _ | refine YD ?_ | refine YA ?_ _)); exact BK110.out) hb); have n1_ := As (XT (by repeat (first | (with_reducible first | exact HB.out | apply XA | apply XN | apply XD | refine XS ?_ GE110.out) | exact HB.out)) hb); clear BK110; clear HB; have BK110 := n0_; have HB := n1_; clear n0_ n1_; (try clear hb); (try clear hb2); (try clear hk); (try clear hi)))
 go_ret2
 exact ⟨by first | rfl | (simp [errW_none, errW_some] <;> rfl) | (simp [*, errW_none, errW_some] <;> rfl), by repeat (first | (with_reducible first | exact HB.out | apply XA | apply XN | apply XD | refine XS ?_ GE110.out) | exact HB.out)⟩

end Go.Proofs.YtgmdaaenhmclfaaDoor.P
-- SHRUNK
-- PACKED
-- PACKED2
