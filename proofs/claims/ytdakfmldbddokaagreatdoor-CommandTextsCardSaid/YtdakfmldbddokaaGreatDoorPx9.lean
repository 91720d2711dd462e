-- written by myprint.py (this claim's own program, after the kit's print)
import Derived.Test.YtdakfmldbddokaaGreatDoorCmWord
import Derived.Test.YtdakfmldbddokaaGreatDoorCmEq5
import Derived.Test.YtdakfmldbddokaaGreatDoorPx0
import Derived.Test.YtdakfmldbddokaaGreatDoorPx2
import Derived.Test.YtdakfmldbddokaaGreatDoorPx6
import Derived.Test.YtdakfmldbddokaaGreatDoorPx8
import Derived.Test.YtdakfmldbddokaaGreatDoorGl
import Derived.Test.YtdakfmldbddokaaGreatDoorRuItoa
import Derived.Test.YtdakfmldbddokaaGreatDoorVaShelf
import Derived.Test.YtdakfmldbddokaaGreatDoorPack
namespace Go.Proofs.YtdakfmldbddokaaGreatDoor.P
open Go.RowKit Go.Proofs.YtdakfmldbddokaaGreatDoorW.PrintWords Go.Proofs.YtdakfmldbddokaaGreatDoorW.PrintLast Go.Proofs.YtdakfmldbddokaaGreatDoorW.PrintMore
attribute [local go_sem] max2_int min2_int max_two min_two max_three min_three max_four min_four   -- for this text's walks alone
set_option linter.unusedVariables false
set_option linter.unusedSimpArgs false
attribute [local go_sem] arr5_eq

/-! ### cT: function 9 -/
def cT.l0 : Nat → List ByteArray → Int → List Int → Int → Int → Int → ByteArray → Int → Int → Int → Int → Int → ByteArray → Option (ByteArray × Option Int)
 | 0, _, _, _, _, _, _, _, _, _, _, _, _, _ => none
 | k + 1, x5, x6, x26, x27, x28, xa, xb, xc, xd, xe, xf, xg, xh => if x28 < x27 then (if 0 ≤ x28 then (if x28 < (x26.length : Int) then (if (rd x26 x28) = 0 then (if x5.length < 8796093022208 then (cT.l0 k (x5 ++ [xb]) x6 x26 x27 (wrap64 (x28 + 1)) xa xb xc xd xe xf xg xh) else (none)) else (if (rd x26 x28) = 9 then (if x5.length < 8796093022208 then (cT.l0 k (x5 ++ [xh]) x6 x26 x27 (wrap64 (x28 + 1)) xa xb xc xd xe xf xg xh) else (none)) else (if (rd x26 x28) = 6 then (if x6 = (0 : Int) then ((oL.f k xc (⟨#[97, 99, 102]⟩ : ByteArray)).bind fun bt252 => (if bt252.2.isNone = true then (if x5.length < 8796093022208 then (cT.l0 k (x5 ++ [bt252.1]) (wrap64 (x6 + 1)) x26 x27 (wrap64 (x28 + 1)) xa xb xc xd xe xf xg xh) else (none)) else (some ((⟨#[]⟩ : ByteArray), some 1)))) else (if x6 = (1 : Int) then ((oL.f k xd (⟨#[97, 99, 102]⟩ : ByteArray)).bind fun bt258 => (if bt258.2.isNone = true then (if x5.length < 8796093022208 then (cT.l0 k (x5 ++ [bt258.1]) (wrap64 (x6 + 1)) x26 x27 (wrap64 (x28 + 1)) xa xb xc xd xe xf xg xh) else (none)) else (some ((⟨#[]⟩ : ByteArray), some 1)))) else (if x6 = (2 : Int) then ((oL.f k xe (⟨#[97, 99, 102]⟩ : ByteArray)).bind fun bt264 => (if bt264.2.isNone = true then (if x5.length < 8796093022208 then (cT.l0 k (x5 ++ [bt264.1]) (wrap64 (x6 + 1)) x26 x27 (wrap64 (x28 + 1)) xa xb xc xd xe xf xg xh) else (none)) else (some ((⟨#[]⟩ : ByteArray), some 1)))) else (if x6 = (3 : Int) then ((oL.f k xf (⟨#[97, 99, 102]⟩ : ByteArray)).bind fun bt270 => (if bt270.2.isNone = true then (if x5.length < 8796093022208 then (cT.l0 k (x5 ++ [bt270.1]) (wrap64 (x6 + 1)) x26 x27 (wrap64 (x28 + 1)) xa xb xc xd xe xf xg xh) else (none)) else (some ((⟨#[]⟩ : ByteArray), some 1)))) else (if x6 = (4 : Int) then ((oL.f k xg (⟨#[97, 99, 102]⟩ : ByteArray)).bind fun bt276 => (if bt276.2.isNone = true then (if x5.length < 8796093022208 then (cT.l0 k (x5 ++ [bt276.1]) (wrap64 (x6 + 1)) x26 x27 (wrap64 (x28 + 1)) xa xb xc xd xe xf xg xh) else (none)) else (some ((⟨#[]⟩ : ByteArray), some 1)))) else (none)))))) else (if x6 = (0 : Int) then ((sItoa.f xc).bind fun t282 => (if x5.length < 8796093022208 then (cT.l0 k (x5 ++ [t282]) (wrap64 (x6 + 1)) x26 x27 (wrap64 (x28 + 1)) xa xb xc xd xe xf xg xh) else (none))) else (if x6 = (1 : Int) then ((sItoa.f xd).bind fun t286 => (if x5.length < 8796093022208 then (cT.l0 k (x5 ++ [t286]) (wrap64 (x6 + 1)) x26 x27 (wrap64 (x28 + 1)) xa xb xc xd xe xf xg xh) else (none))) else (if x6 = (2 : Int) then ((sItoa.f xe).bind fun t290 => (if x5.length < 8796093022208 then (cT.l0 k (x5 ++ [t290]) (wrap64 (x6 + 1)) x26 x27 (wrap64 (x28 + 1)) xa xb xc xd xe xf xg xh) else (none))) else (if x6 = (3 : Int) then ((sItoa.f xf).bind fun t294 => (if x5.length < 8796093022208 then (cT.l0 k (x5 ++ [t294]) (wrap64 (x6 + 1)) x26 x27 (wrap64 (x28 + 1)) xa xb xc xd xe xf xg xh) else (none))) else (if x6 = (4 : Int) then ((sItoa.f xg).bind fun t298 => (if x5.length < 8796093022208 then (cT.l0 k (x5 ++ [t298]) (wrap64 (x6 + 1)) x26 x27 (wrap64 (x28 + 1)) xa xb xc xd xe xf xg xh) else (none))) else (none))))))))) else (none)) else (none)) else ((stJ.f x5 (⟨#[59]⟩ : ByteArray)).bind fun t302 => ((cP.f k t302).bind fun bt303 => (if bt303.2.2.2.2.2.2.2.2.isNone = true then (if bt303.1 = xa then (if bt303.2.1.toList = xb.toList then (if bt303.2.2.1 = xc then (if bt303.2.2.2.1 = xd then (if bt303.2.2.2.2.1 = xe then (if bt303.2.2.2.2.2.1 = xf then (if bt303.2.2.2.2.2.2.1 = xg then (if bt303.2.2.2.2.2.2.2.1.toList = xh.toList then (some (t302, none)) else (some ((⟨#[]⟩ : ByteArray), some 1))) else (some ((⟨#[]⟩ : ByteArray), some 1))) else (some ((⟨#[]⟩ : ByteArray), some 1))) else (some ((⟨#[]⟩ : ByteArray), some 1))) else (some ((⟨#[]⟩ : ByteArray), some 1))) else (some ((⟨#[]⟩ : ByteArray), some 1))) else (some ((⟨#[]⟩ : ByteArray), some 1))) else (some ((⟨#[]⟩ : ByteArray), some 1))) else (some ((⟨#[]⟩ : ByteArray), some 1)))))
def cT.f (k : Nat) (a0_0 : Int) (a0_1 : ByteArray) (a0_2 : Int) (a0_3 : Int) (a0_4 : Int) (a0_5 : Int) (a0_6 : Int) (a0_7 : ByteArray) : Option (ByteArray × Option Int) := (cF.f k a0_0).bind fun t238 => (if (t238.length : Int) = 0 then (some ((⟨#[]⟩ : ByteArray), some 1)) else ((sSm.f a0_0).bind fun t241 => (cT.l0 k (([t241] : List ByteArray)) 0 t238 (t238.length : Int) 0 a0_0 a0_1 a0_2 a0_3 a0_4 a0_5 a0_6 a0_7)))
theorem cT.mono_l : ∀ k, (∀ y0 y1 y2 y3 y4 y5 y6 y7 y8 y9 y10 y11 y12, LeO (cT.l0 k y0 y1 y2 y3 y4 y5 y6 y7 y8 y9 y10 y11 y12) (cT.l0 (k + 1) y0 y1 y2 y3 y4 y5 y6 y7 y8 y9 y10 y11 y12))
 | 0 => fun _ _ _ _ _ _ _ _ _ _ _ _ _ r h => by simp [cT.l0] at h
 | k + 1 => by
  have ih0 := cT.mono_l k
  ·intro y0 y1 y2 y3 y4 y5 y6 y7 y8 y9 y10 y11 y12;unfold cT.l0
   repeat' (with_reducible first|apply ih0|apply cP.mono|apply cF.mono|apply oL.mono|apply LeO.refl|apply LeO.none|refine LeO.ite ?_ ?_|refine LeO.bind ?_ (fun _=>?_))
theorem cT.mono : ∀ a0 a1 a2 a3 a4 a5 a6 a7 k, LeO (cT.f k a0 a1 a2 a3 a4 a5 a6 a7) (cT.f (k + 1) a0 a1 a2 a3 a4 a5 a6 a7) := by
 intro a0 a1 a2 a3 a4 a5 a6 a7 k;have ih0 := cT.mono_l k;unfold cT.f
 repeat' (with_reducible first|apply ih0|apply cP.mono|apply cF.mono|apply oL.mono|apply LeO.refl|apply LeO.none|refine LeO.ite ?_ ?_|refine LeO.bind ?_ (fun _=>?_))
set_option maxHeartbeats 8000000 in
set_option maxRecDepth 100000 in
theorem cT.calls (k : Nat) (a0_0 : Int) (a0_1 : ByteArray) (a0_2 : Int) (a0_3 : Int) (a0_4 : Int) (a0_5 : Int) (a0_6 : Int) (a0_7 : ByteArray) (r1 : ByteArray) (r2 : Option Int) (w : World) (h : cT.f k a0_0 a0_1 a0_2 a0_3 a0_4 a0_5 a0_6 a0_7 = some (r1, r2)) (hG : GL w) :
  Calls Tryz.prog 9 #[.agg #[.int .i64 a0_0, .string a0_1, .int .i64 a0_2, .int .i64 a0_3, .int .i64 a0_4, .int .i64 a0_5, .int .i64 a0_6, .string a0_7]] w fun e w' => e = .returned (.tuple #[.string r1, errW r2]) ∧ Below w.heap.size w w' := by
 have hu30 := Tryz.underlying30;have hu27 := Tryz.underlying27;have hu45 := Tryz.underlying45;have HB := As (Below.refl w.heap.size w);have H : ((cF.f k a0_0).bind fun t238 => (if (t238.length : Int) = 0 then (some ((⟨#[]⟩ : ByteArray), some 1)) else ((sSm.f a0_0).bind fun t241 => (cT.l0 k (([t241] : List ByteArray)) 0 t238 (t238.length : Int) 0 a0_0 a0_1 a0_2 a0_3 a0_4 a0_5 a0_6 a0_7)))) = some (r1, r2) := h;clear h;replace H := bE H;obtain ⟨t238, A20, H⟩ := H;replace H : (if (t238.length : Int) = 0 then (some ((⟨#[]⟩ : ByteArray), some 1)) else ((sSm.f a0_0).bind fun t241 => (cT.l0 k (([t241] : List ByteArray)) 0 t238 (t238.length : Int) 0 a0_0 a0_1 a0_2 a0_3 a0_4 a0_5 a0_6 a0_7))) = some (r1, r2) := H;have A2 := As A20;clear A20
 by_cases c3 : (t238.length : Int) = 0
 ·rw [if_pos c3] at H;have c3b0 : ((t238.length : Int) == 0) = true := beq_iff_eq.mpr c3;have c3b1 : ((t238.length : Int) != 0) = false := bne_eq_false_iff_eq.mpr c3;clear c3;simp only [Option.some.injEq, Prod.mk.injEq] at H;obtain ⟨rfl, rfl⟩ := H
  go_enter Tryz.func9, Tryz.ntmps9
  go_wp2_with (first | ((with_reducible refine gate_dst (N := 1) rfl ?_); refine box_event ?hg (N := 1) ?hd (cs := #[.int .i64 a0_0, .string a0_1, .int .i64 a0_2, .int .i64 a0_3, .int .i64 a0_4, .int .i64 a0_5, .int .i64 a0_6, .string a0_7]) (t := 30) ?hr ?_; (case hd => rfl); (case hg => rfl); (case hr => first | (go_simp; done) | (go_simp; rfl)); intro gb237 hg w4 hbox hb; have BK237 := As (hbox); have GW237 := As ((gz hg (be HB.out) : w.heap.size ≤ gb237)); have GE237 := As ((gz hg (be HB.out) : w.heap.size ≤ gb237)); replace HB := As (XT (be HB.out) hb); clear hb hbox hg; obtain ⟨hcz5_0, hcz5_1, hcz5_2, hcz5_3, hcz5_4, hcz5_5, hcz5_6, hcz5_7, hfz5_0, hfz5_1, hfz5_2, hfz5_3, hfz5_4, hfz5_5, hfz5_6, hfz5_7⟩ := cz8 BK237.out) | ((with_reducible refine gate_callee (f := 16) rfl ?_); refine goesL_ (some 16) rfl rfl Tryz.func16 kr rfl #[.int .i64 a0_0] rfl sa ?_; (with_reducible refine (cF.calls k a0_0 _ _ A2.out).mono ?_); rintro e w6 ⟨v239, rfl, ho0, hb⟩; refine ⟨_, rfl, ?_⟩; have HO240 := As (Kd.R_lower ho0 (XZ (be HB.out))); replace BK237 := As (YB (g := gb237) (o := .cells #[.int .i64 a0_0, .string a0_1, .int .i64 a0_2, .int .i64 a0_3, .int .i64 a0_4, .int .i64 a0_5, .int .i64 a0_6, .string a0_7] 30 (0, 0)) (bk BK237.out) hb); replace HB := As (XT (be HB.out) hb); (try clear hb); (try clear hb2); (try clear hk); (try clear hi); (try clear ho0); obtain ⟨Ao7, co7, eo7⟩ := Kd.R_slice HO240.out; subst eo7))
  go_ret2
  exact ⟨by first | rfl | (simp [errW_none, errW_some] <;> rfl) | (simp [*, errW_none, errW_some] <;> rfl), by repeat (first | (with_reducible first | exact HB.out | apply XA | apply XN | apply XD | refine XS ?_ GE237.out) | exact HB.out)⟩
 ·rw [if_neg c3] at H;have c3b0 : ((t238.length : Int) == 0) = false := beq_eq_false_iff_ne.mpr c3;have c3b1 : ((t238.length : Int) != 0) = true := bne_iff_ne.mpr c3
  have c3b2 : ¬ (t238 = []) := fun h_ => c3 (by rw [h_]; rfl)
  replace H := bE H;obtain ⟨t241, A80, H⟩ := H;replace H : (cT.l0 k (([t241] : List ByteArray)) 0 t238 (t238.length : Int) 0 a0_0 a0_1 a0_2 a0_3 a0_4 a0_5 a0_6 a0_7) = some (r1, r2) := H;have A8 := As A80;clear A80
  obtain ⟨y242, hy242⟩ : ∃ y_ : List ByteArray, y_ = (([t241] : List ByteArray)) := ⟨_, rfl⟩
  replace H : (cT.l0 k y242 0 t238 (t238.length : Int) 0 a0_0 a0_1 a0_2 a0_3 a0_4 a0_5 a0_6 a0_7) = some (r1, r2) := by first | (rw [hy242]; with_reducible exact H) | (have H2_ := (Option.bind_some _ _).symm.trans H; rw [hy242]; with_reducible exact H2_) | (have H2_ := (Option.bind_some _ _).symm.trans H; with_reducible exact H2_) | with_reducible exact H | (rw [hy242]; exact H) | exact H
  have Ny242 := As hy242;clear hy242;have H' := As H;clear H;have hwr0 := (word_rng A8.out).1;have hwr1 := (word_rng A8.out).2
  have hwr2 : a0_0.toNat < 10 := by omega
  go_enter Tryz.func9, Tryz.ntmps9
  go_wp2_with (first | ((with_reducible refine gate_dst (N := 1) rfl ?_); refine box_event ?hg (N := 1) ?hd (cs := #[.int .i64 a0_0, .string a0_1, .int .i64 a0_2, .int .i64 a0_3, .int .i64 a0_4, .int .i64 a0_5, .int .i64 a0_6, .string a0_7]) (t := 30) ?hr ?_; (case hd => rfl); (case hg => rfl); (case hr => first | (go_simp; done) | (go_simp; rfl)); intro gb237 hg w9 hbox hb; have BK237 := As (hbox); have GW237 := As ((gz hg (be HB.out) : w.heap.size ≤ gb237)); have GE237 := As ((gz hg (be HB.out) : w.heap.size ≤ gb237)); replace HB := As (XT (be HB.out) hb); clear hb hbox hg; obtain ⟨hcz10_0, hcz10_1, hcz10_2, hcz10_3, hcz10_4, hcz10_5, hcz10_6, hcz10_7, hfz10_0, hfz10_1, hfz10_2, hfz10_3, hfz10_4, hfz10_5, hfz10_6, hfz10_7⟩ := cz8 BK237.out) | ((with_reducible refine gate_callee (f := 16) rfl ?_); refine goesL_ (some 16) rfl rfl Tryz.func16 kr rfl #[.int .i64 a0_0] rfl sa ?_; (with_reducible refine (cF.calls k a0_0 _ _ A2.out).mono ?_); rintro e w11 ⟨v239, rfl, ho0, hb⟩; refine ⟨_, rfl, ?_⟩; have HO240 := As (Kd.R_lower ho0 (XZ (be HB.out))); replace BK237 := As (YB (g := gb237) (o := .cells #[.int .i64 a0_0, .string a0_1, .int .i64 a0_2, .int .i64 a0_3, .int .i64 a0_4, .int .i64 a0_5, .int .i64 a0_6, .string a0_7] 30 (0, 0)) (bk BK237.out) hb); replace HB := As (XT (be HB.out) hb); (try clear hb); (try clear hb2); (try clear hk); (try clear hi); (try clear ho0); obtain ⟨Ao12, co12, eo12⟩ := Kd.R_slice HO240.out; subst eo12; obtain ⟨hcz13_0, hcz13_1, hcz13_2, hcz13_3, hcz13_4, hcz13_5, hcz13_6, hcz13_7, hfz13_0, hfz13_1, hfz13_2, hfz13_3, hfz13_4, hfz13_5, hfz13_6, hfz13_7⟩ := cz8 BK237.out; have hcw := word_load (GL.below hG HB.out) A8.out) | ((with_reducible refine gate_callee (f := 74) rfl ?_); refine goesL_ (some 24) rfl rfl Tryz.func74 kr rfl #[.int .i64 a0_0] rfl sa ?_; (with_reducible refine (sSm.calls a0_0 _ _ A8.out).mono ?_); rintro e w' ⟨rfl, ⟨nd, rfl⟩⟩; refine ⟨_, rfl, ?_⟩) | ((with_reducible refine gate_dst (N := 25) rfl ?_); refine Kd.R_lit Kd.string _ 9 ?hg (N := 25) ?hd (xs := ([t241] : List ByteArray)) (inner := [.string t241]) (ok := fun _ => True) (okp := fun _ => True) ?hr ?hp (fun _ hk => hk) trivial (Below.refl _ _) (Nat.le_refl _) (by simp) ?_; (case hd => rfl); (case hg => rfl); (case hr => first | (go_simp; done) | (go_simp; rfl)); (case hp => exact (Reps.one (show Kd.M Kd.string _ _ _ t241 [.string t241] from rfl) (Reps.none _ _))); intro v243 w14 ho15 hb hg_ hnew_; clear hg_ hnew_; (first | rw [← Ny242.out] at ho15 | (simp only [Int.reduceToNat] at ho15; rw [← Ny242.out] at ho15)); replace HO240 := As (RB (ro HO240.out) hb); have HO244 := As (Kd.R_lower ho15 (XZ (be HB.out))); replace BK237 := As (YB (g := gb237) (o := .cells #[.int .i64 a0_0, .string a0_1, .int .i64 a0_2, .int .i64 a0_3, .int .i64 a0_4, .int .i64 a0_5, .int .i64 a0_6, .string a0_7] 30 (0, 0)) (bk BK237.out) hb); replace HB := As (XT (be HB.out) hb); clear hb ho15))
  go_loopg [5, 6, 28] k (fun kq v5 v6 v28 w' => ∃ (x5_1 : List ByteArray) (x6_1 : Int) (x28_1 : Int), v6 = .int .i64 x6_1 ∧ v28 = .int .i64 x28_1 ∧ Aside0 (cT.l0 kq x5_1 x6_1 t238 (t238.length : Int) x28_1 a0_0 a0_1 a0_2 a0_3 a0_4 a0_5 a0_6 a0_7 = some (r1, r2)) ∧ Aside0 (kq ≤ k) ∧ Aside0 (Kd.R Kd.string 9 w' w.heap.size (fun _ => True) v5 x5_1) ∧ Aside0 (Kd.R (Kd.int .i64) 48 w' w.heap.size (fun _ => True) (.slice Ao12 t238.length co12) t238) ∧ Aside0 (w'.heap[gb237]? = some (.cells #[.int .i64 a0_0, .string a0_1, .int .i64 a0_2, .int .i64 a0_3, .int .i64 a0_4, .int .i64 a0_5, .int .i64 a0_6, .string a0_7] 30 (0, 0))) ∧ Aside0 (Below w.heap.size w w'))
  case atStart => exact ⟨(y242), (0), (0), sw, sw, H', ⟨Nat.le_refl _⟩, ⟨by (with_reducible repeat (first | apply RA | apply RN | apply RD)); exact HO244.out⟩, ⟨by (with_reducible repeat (first | apply RA | apply RN | apply RD)); exact HO240.out⟩, ⟨by (with_reducible repeat (first | refine YN ?_ _ | refine YD ?_ | refine YA ?_ _)); exact BK237.out⟩, ⟨by repeat (first | (with_reducible first | exact HB.out | apply XA | apply XN | apply XD | refine XS ?_ GE237.out) | exact HB.out)⟩⟩
  case round =>
   clear H'
   try clear c1
   try clear p2
   try clear c3
   try clear c3b0
   try clear c3b1
   try clear c3b2
   try clear p6
   try clear c7
   try clear c9
   try clear hcz10_0 hcz10_1 hcz10_2 hcz10_3 hcz10_4 hcz10_5 hcz10_6 hcz10_7
   try clear hcz13_0 hcz13_1 hcz13_2 hcz13_3 hcz13_4 hcz13_5 hcz13_6 hcz13_7
   try clear hcz5_0 hcz5_1 hcz5_2 hcz5_3 hcz5_4 hcz5_5 hcz5_6 hcz5_7
   try clear hfz10_0 hfz10_1 hfz10_2 hfz10_3 hfz10_4 hfz10_5 hfz10_6 hfz10_7
   try clear hfz13_0 hfz13_1 hfz13_2 hfz13_3 hfz13_4 hfz13_5 hfz13_6 hfz13_7
   try clear hfz5_0 hfz5_1 hfz5_2 hfz5_3 hfz5_4 hfz5_5 hfz5_6 hfz5_7
   obtain ⟨x5_1, x6_1, x28_1, rfl, rfl, HA, HK1, HO_5, HO_26, BK237, HB⟩ := hrel
   cases gk with
   | zero => exact absurd HA.out (by simp [cT.l0])
   | succ k1 =>
    have H := HA.out;clear HA;simp only [cT.l0] at H
    by_cases c16 : x28_1 < (t238.length : Int)
    focus
     rw [if_pos c16] at H;have c16b0 : decide (x28_1 < (t238.length : Int)) = true := dY c16;clear c16
     by_cases c17 : 0 ≤ x28_1
     rotate_left
     ·rw [if_neg c17] at H;exact absurd H (by simp)
     rw [if_pos c17] at H;have c17b0 : decide (0 ≤ x28_1) = true := dY c17;clear c17
     by_cases c18 : x28_1 < (t238.length : Int)
     rotate_left
     ·rw [if_neg c18] at H;exact absurd H (by simp)
     rw [if_pos c18] at H;have c18b0 : decide (x28_1 < (t238.length : Int)) = true := dY c18;clear c18
     by_cases c19 : (rd t238 x28_1) = 0
     focus
      rw [if_pos c19] at H;have c19b0 : ((rd t238 x28_1) == 0) = true := beq_iff_eq.mpr c19;have c19b1 : ((rd t238 x28_1) != 0) = false := bne_eq_false_iff_eq.mpr c19;clear c19
      by_cases c20 : x5_1.length < 8796093022208
      rotate_left
      ·rw [if_neg c20] at H;exact absurd H (by simp)
      rw [if_pos c20] at H;have LMc20 := As c20;clear c20
      obtain ⟨y246, hy246⟩ : ∃ y_ : List ByteArray, y_ = (x5_1 ++ [a0_1]) := ⟨_, rfl⟩
      replace H : (cT.l0 k1 y246 x6_1 t238 (t238.length : Int) (wrap64 (x28_1 + 1)) a0_0 a0_1 a0_2 a0_3 a0_4 a0_5 a0_6 a0_7) = some (r1, r2) := by first | (rw [hy246]; with_reducible exact H) | (have H2_ := (Option.bind_some _ _).symm.trans H; rw [hy246]; with_reducible exact H2_) | (have H2_ := (Option.bind_some _ _).symm.trans H; with_reducible exact H2_) | with_reducible exact H | (rw [hy246]; exact H) | exact H
      have Ny246 := As hy246;clear hy246;have H' := As H;clear H;have p245 : 0 ≤ (x28_1 : Int) := dT hy;have q245 : x28_1 < (t238.length : Int) := dT hy;obtain ⟨ad245, e245, hx245_0⟩ := Kd.at_int (RR HO_26.out).2.2 x28_1 p245 q245
      cases e245
      replace p245 := eq_true p245;replace q245 := eq_true q245;obtain ⟨hcz21_0, hcz21_1, hcz21_2, hcz21_3, hcz21_4, hcz21_5, hcz21_6, hcz21_7, hfz21_0, hfz21_1, hfz21_2, hfz21_3, hfz21_4, hfz21_5, hfz21_6, hfz21_7⟩ := cz8 BK237.out
     rotate_left
     focus
      rw [if_neg c19] at H;have c19b0 : ((rd t238 x28_1) == 0) = false := beq_eq_false_iff_ne.mpr c19;have c19b1 : ((rd t238 x28_1) != 0) = true := bne_iff_ne.mpr c19
      by_cases c23 : (rd t238 x28_1) = 9
      focus
       rw [if_pos c23] at H;have c23b0 : ((rd t238 x28_1) == 9) = true := beq_iff_eq.mpr c23;have c23b1 : ((rd t238 x28_1) != 9) = false := bne_eq_false_iff_eq.mpr c23;clear c23
       by_cases c24 : x5_1.length < 8796093022208
       rotate_left
       ·rw [if_neg c24] at H;exact absurd H (by simp)
       rw [if_pos c24] at H;have LMc24 := As c24;clear c24
       obtain ⟨y249, hy249⟩ : ∃ y_ : List ByteArray, y_ = (x5_1 ++ [a0_7]) := ⟨_, rfl⟩
       replace H : (cT.l0 k1 y249 x6_1 t238 (t238.length : Int) (wrap64 (x28_1 + 1)) a0_0 a0_1 a0_2 a0_3 a0_4 a0_5 a0_6 a0_7) = some (r1, r2) := by first | (rw [hy249]; with_reducible exact H) | (have H2_ := (Option.bind_some _ _).symm.trans H; rw [hy249]; with_reducible exact H2_) | (have H2_ := (Option.bind_some _ _).symm.trans H; with_reducible exact H2_) | with_reducible exact H | (rw [hy249]; exact H) | exact H
       have Ny249 := As hy249;clear hy249;have H' := As H;clear H;have p245 : 0 ≤ (x28_1 : Int) := dT hy;have q245 : x28_1 < (t238.length : Int) := dT hy;obtain ⟨ad245, e245, hx245_0⟩ := Kd.at_int (RR HO_26.out).2.2 x28_1 p245 q245
       cases e245
       replace p245 := eq_true p245;replace q245 := eq_true q245;obtain ⟨hcz25_0, hcz25_1, hcz25_2, hcz25_3, hcz25_4, hcz25_5, hcz25_6, hcz25_7, hfz25_0, hfz25_1, hfz25_2, hfz25_3, hfz25_4, hfz25_5, hfz25_6, hfz25_7⟩ := cz8 BK237.out
      rotate_left
      focus
       rw [if_neg c23] at H;have c23b0 : ((rd t238 x28_1) == 9) = false := beq_eq_false_iff_ne.mpr c23;have c23b1 : ((rd t238 x28_1) != 9) = true := bne_iff_ne.mpr c23
       by_cases c27 : (rd t238 x28_1) = 6
       focus
        rw [if_pos c27] at H;have c27b0 : ((rd t238 x28_1) == 6) = true := beq_iff_eq.mpr c27;have c27b1 : ((rd t238 x28_1) != 6) = false := bne_eq_false_iff_eq.mpr c27;clear c27
        by_cases c28 : x6_1 = (0 : Int)
        focus
         rw [if_pos c28] at H;have c28b0 : (x6_1 == (0 : Int)) = true := beq_iff_eq.mpr c28;have c28b1 : (x6_1 != (0 : Int)) = false := bne_eq_false_iff_eq.mpr c28
         have c28b2 : 0 ≤ x6_1 := by omega
         have c28b3 : x6_1 < 1 := by omega
         have c28b4 : x6_1 < 2 := by omega
         have c28b5 : x6_1 < 3 := by omega
         have c28b6 : x6_1 < 4 := by omega
         have c28b7 : x6_1 < 5 := by omega
         have c28b8 : x6_1 < 6 := by omega
         have c28b9 : (x6_1 : Int).toNat = 0 := by omega
         clear c28;replace H := bE H;obtain ⟨⟨t252, t253⟩, A290, H⟩ := H;replace H : (if t253.isNone = true then (if x5_1.length < 8796093022208 then (cT.l0 k1 (x5_1 ++ [t252]) (wrap64 (x6_1 + 1)) t238 (t238.length : Int) (wrap64 (x28_1 + 1)) a0_0 a0_1 a0_2 a0_3 a0_4 a0_5 a0_6 a0_7) else (none)) else (some ((⟨#[]⟩ : ByteArray), some 1))) = some (r1, r2) := H;have A29 := As A290;clear A290
         rcases t253 with _ | q254
         focus
          have H1 : (if x5_1.length < 8796093022208 then (cT.l0 k1 (x5_1 ++ [t252]) (wrap64 (x6_1 + 1)) t238 (t238.length : Int) (wrap64 (x28_1 + 1)) a0_0 a0_1 a0_2 a0_3 a0_4 a0_5 a0_6 a0_7) else (none)) = some (r1, r2) := by rw [if_pos no0] at H; exact H
          clear H;have H := H1;clear H1
          try simp only [errW_none, errW_some]
          by_cases c30 : x5_1.length < 8796093022208
          rotate_left
          ·rw [if_neg c30] at H;exact absurd H (by simp)
          rw [if_pos c30] at H;have LMc30 := As c30;clear c30
          obtain ⟨y255, hy255⟩ : ∃ y_ : List ByteArray, y_ = (x5_1 ++ [t252]) := ⟨_, rfl⟩
          replace H : (cT.l0 k1 y255 (wrap64 (x6_1 + 1)) t238 (t238.length : Int) (wrap64 (x28_1 + 1)) a0_0 a0_1 a0_2 a0_3 a0_4 a0_5 a0_6 a0_7) = some (r1, r2) := by first | (rw [hy255]; with_reducible exact H) | (have H2_ := (Option.bind_some _ _).symm.trans H; rw [hy255]; with_reducible exact H2_) | (have H2_ := (Option.bind_some _ _).symm.trans H; with_reducible exact H2_) | with_reducible exact H | (rw [hy255]; exact H) | exact H
          have Ny255 := As hy255;clear hy255;have H' := As H;clear H;have p245 : 0 ≤ (x28_1 : Int) := dT hy;have q245 : x28_1 < (t238.length : Int) := dT hy;obtain ⟨ad245, e245, hx245_0⟩ := Kd.at_int (RR HO_26.out).2.2 x28_1 p245 q245
          cases e245
          replace p245 := eq_true p245;replace q245 := eq_true q245;obtain ⟨hcz31_0, hcz31_1, hcz31_2, hcz31_3, hcz31_4, hcz31_5, hcz31_6, hcz31_7, hfz31_0, hfz31_1, hfz31_2, hfz31_3, hfz31_4, hfz31_5, hfz31_6, hfz31_7⟩ := cz8 BK237.out
         rotate_left
         have H1 : (some ((⟨#[]⟩ : ByteArray), some 1)) = some (r1, r2) := by rw [if_neg (show ¬ (some q254).isNone = true by simp)] at H; exact H
         clear H;have H := H1;clear H1
         try simp only [errW_none, errW_some]
         simp only [Option.some.injEq, Prod.mk.injEq] at H;obtain ⟨rfl, rfl⟩ := H;have p245 : 0 ≤ (x28_1 : Int) := dT hy;have q245 : x28_1 < (t238.length : Int) := dT hy;obtain ⟨ad245, e245, hx245_0⟩ := Kd.at_int (RR HO_26.out).2.2 x28_1 p245 q245
         cases e245
         replace p245 := eq_true p245;replace q245 := eq_true q245;obtain ⟨hcz34_0, hcz34_1, hcz34_2, hcz34_3, hcz34_4, hcz34_5, hcz34_6, hcz34_7, hfz34_0, hfz34_1, hfz34_2, hfz34_3, hfz34_4, hfz34_5, hfz34_6, hfz34_7⟩ := cz8 BK237.out
        rotate_left 2
        focus
         rw [if_neg c28] at H;have c28b0 : (x6_1 == (0 : Int)) = false := beq_eq_false_iff_ne.mpr c28;have c28b1 : (x6_1 != (0 : Int)) = true := bne_iff_ne.mpr c28
         by_cases c36 : x6_1 = (1 : Int)
         focus
          rw [if_pos c36] at H;have c36b0 : (x6_1 == (1 : Int)) = true := beq_iff_eq.mpr c36;have c36b1 : (x6_1 != (1 : Int)) = false := bne_eq_false_iff_eq.mpr c36
          have c36b2 : 0 ≤ x6_1 := by omega
          have c36b3 : x6_1 < 2 := by omega
          have c36b4 : x6_1 < 3 := by omega
          have c36b5 : x6_1 < 4 := by omega
          have c36b6 : x6_1 < 5 := by omega
          have c36b7 : x6_1 < 6 := by omega
          have c36b8 : (x6_1 : Int).toNat = 1 := by omega
          clear c36;replace H := bE H;obtain ⟨⟨t258, t259⟩, A370, H⟩ := H;replace H : (if t259.isNone = true then (if x5_1.length < 8796093022208 then (cT.l0 k1 (x5_1 ++ [t258]) (wrap64 (x6_1 + 1)) t238 (t238.length : Int) (wrap64 (x28_1 + 1)) a0_0 a0_1 a0_2 a0_3 a0_4 a0_5 a0_6 a0_7) else (none)) else (some ((⟨#[]⟩ : ByteArray), some 1))) = some (r1, r2) := H;have A37 := As A370;clear A370
          rcases t259 with _ | q260
          focus
           have H1 : (if x5_1.length < 8796093022208 then (cT.l0 k1 (x5_1 ++ [t258]) (wrap64 (x6_1 + 1)) t238 (t238.length : Int) (wrap64 (x28_1 + 1)) a0_0 a0_1 a0_2 a0_3 a0_4 a0_5 a0_6 a0_7) else (none)) = some (r1, r2) := by rw [if_pos no0] at H; exact H
           clear H;have H := H1;clear H1
           try simp only [errW_none, errW_some]
           by_cases c38 : x5_1.length < 8796093022208
           rotate_left
           ·rw [if_neg c38] at H;exact absurd H (by simp)
           rw [if_pos c38] at H;have LMc38 := As c38;clear c38
           obtain ⟨y261, hy261⟩ : ∃ y_ : List ByteArray, y_ = (x5_1 ++ [t258]) := ⟨_, rfl⟩
           replace H : (cT.l0 k1 y261 (wrap64 (x6_1 + 1)) t238 (t238.length : Int) (wrap64 (x28_1 + 1)) a0_0 a0_1 a0_2 a0_3 a0_4 a0_5 a0_6 a0_7) = some (r1, r2) := by first | (rw [hy261]; with_reducible exact H) | (have H2_ := (Option.bind_some _ _).symm.trans H; rw [hy261]; with_reducible exact H2_) | (have H2_ := (Option.bind_some _ _).symm.trans H; with_reducible exact H2_) | with_reducible exact H | (rw [hy261]; exact H) | exact H
           have Ny261 := As hy261;clear hy261;have H' := As H;clear H;have p245 : 0 ≤ (x28_1 : Int) := dT hy;have q245 : x28_1 < (t238.length : Int) := dT hy;obtain ⟨ad245, e245, hx245_0⟩ := Kd.at_int (RR HO_26.out).2.2 x28_1 p245 q245
           cases e245
           replace p245 := eq_true p245;replace q245 := eq_true q245;obtain ⟨hcz39_0, hcz39_1, hcz39_2, hcz39_3, hcz39_4, hcz39_5, hcz39_6, hcz39_7, hfz39_0, hfz39_1, hfz39_2, hfz39_3, hfz39_4, hfz39_5, hfz39_6, hfz39_7⟩ := cz8 BK237.out
          rotate_left
          have H1 : (some ((⟨#[]⟩ : ByteArray), some 1)) = some (r1, r2) := by rw [if_neg (show ¬ (some q260).isNone = true by simp)] at H; exact H
          clear H;have H := H1;clear H1
          try simp only [errW_none, errW_some]
          simp only [Option.some.injEq, Prod.mk.injEq] at H;obtain ⟨rfl, rfl⟩ := H;have p245 : 0 ≤ (x28_1 : Int) := dT hy;have q245 : x28_1 < (t238.length : Int) := dT hy;obtain ⟨ad245, e245, hx245_0⟩ := Kd.at_int (RR HO_26.out).2.2 x28_1 p245 q245
          cases e245
          replace p245 := eq_true p245;replace q245 := eq_true q245;obtain ⟨hcz42_0, hcz42_1, hcz42_2, hcz42_3, hcz42_4, hcz42_5, hcz42_6, hcz42_7, hfz42_0, hfz42_1, hfz42_2, hfz42_3, hfz42_4, hfz42_5, hfz42_6, hfz42_7⟩ := cz8 BK237.out
         rotate_left 2
         focus
          rw [if_neg c36] at H;have c36b0 : (x6_1 == (1 : Int)) = false := beq_eq_false_iff_ne.mpr c36;have c36b1 : (x6_1 != (1 : Int)) = true := bne_iff_ne.mpr c36
          by_cases c44 : x6_1 = (2 : Int)
          focus
           rw [if_pos c44] at H;have c44b0 : (x6_1 == (2 : Int)) = true := beq_iff_eq.mpr c44;have c44b1 : (x6_1 != (2 : Int)) = false := bne_eq_false_iff_eq.mpr c44
           have c44b2 : 0 ≤ x6_1 := by omega
           have c44b3 : x6_1 < 3 := by omega
           have c44b4 : x6_1 < 4 := by omega
           have c44b5 : x6_1 < 5 := by omega
           have c44b6 : x6_1 < 6 := by omega
           have c44b7 : (x6_1 : Int).toNat = 2 := by omega
           clear c44;replace H := bE H;obtain ⟨⟨t264, t265⟩, A450, H⟩ := H;replace H : (if t265.isNone = true then (if x5_1.length < 8796093022208 then (cT.l0 k1 (x5_1 ++ [t264]) (wrap64 (x6_1 + 1)) t238 (t238.length : Int) (wrap64 (x28_1 + 1)) a0_0 a0_1 a0_2 a0_3 a0_4 a0_5 a0_6 a0_7) else (none)) else (some ((⟨#[]⟩ : ByteArray), some 1))) = some (r1, r2) := H;have A45 := As A450;clear A450
           rcases t265 with _ | q266
           focus
            have H1 : (if x5_1.length < 8796093022208 then (cT.l0 k1 (x5_1 ++ [t264]) (wrap64 (x6_1 + 1)) t238 (t238.length : Int) (wrap64 (x28_1 + 1)) a0_0 a0_1 a0_2 a0_3 a0_4 a0_5 a0_6 a0_7) else (none)) = some (r1, r2) := by rw [if_pos no0] at H; exact H
            clear H;have H := H1;clear H1
            try simp only [errW_none, errW_some]
            by_cases c46 : x5_1.length < 8796093022208
            rotate_left
            ·rw [if_neg c46] at H;exact absurd H (by simp)
            rw [if_pos c46] at H;have LMc46 := As c46;clear c46
            obtain ⟨y267, hy267⟩ : ∃ y_ : List ByteArray, y_ = (x5_1 ++ [t264]) := ⟨_, rfl⟩
            replace H : (cT.l0 k1 y267 (wrap64 (x6_1 + 1)) t238 (t238.length : Int) (wrap64 (x28_1 + 1)) a0_0 a0_1 a0_2 a0_3 a0_4 a0_5 a0_6 a0_7) = some (r1, r2) := by first | (rw [hy267]; with_reducible exact H) | (have H2_ := (Option.bind_some _ _).symm.trans H; rw [hy267]; with_reducible exact H2_) | (have H2_ := (Option.bind_some _ _).symm.trans H; with_reducible exact H2_) | with_reducible exact H | (rw [hy267]; exact H) | exact H
            have Ny267 := As hy267;clear hy267;have H' := As H;clear H;have p245 : 0 ≤ (x28_1 : Int) := dT hy;have q245 : x28_1 < (t238.length : Int) := dT hy;obtain ⟨ad245, e245, hx245_0⟩ := Kd.at_int (RR HO_26.out).2.2 x28_1 p245 q245
            cases e245
            replace p245 := eq_true p245;replace q245 := eq_true q245;obtain ⟨hcz47_0, hcz47_1, hcz47_2, hcz47_3, hcz47_4, hcz47_5, hcz47_6, hcz47_7, hfz47_0, hfz47_1, hfz47_2, hfz47_3, hfz47_4, hfz47_5, hfz47_6, hfz47_7⟩ := cz8 BK237.out
           rotate_left
           have H1 : (some ((⟨#[]⟩ : ByteArray), some 1)) = some (r1, r2) := by rw [if_neg (show ¬ (some q266).isNone = true by simp)] at H; exact H
           clear H;have H := H1;clear H1
           try simp only [errW_none, errW_some]
           simp only [Option.some.injEq, Prod.mk.injEq] at H;obtain ⟨rfl, rfl⟩ := H;have p245 : 0 ≤ (x28_1 : Int) := dT hy;have q245 : x28_1 < (t238.length : Int) := dT hy;obtain ⟨ad245, e245, hx245_0⟩ := Kd.at_int (RR HO_26.out).2.2 x28_1 p245 q245
           cases e245
           replace p245 := eq_true p245;replace q245 := eq_true q245;obtain ⟨hcz50_0, hcz50_1, hcz50_2, hcz50_3, hcz50_4, hcz50_5, hcz50_6, hcz50_7, hfz50_0, hfz50_1, hfz50_2, hfz50_3, hfz50_4, hfz50_5, hfz50_6, hfz50_7⟩ := cz8 BK237.out
          rotate_left 2
          focus
           rw [if_neg c44] at H;have c44b0 : (x6_1 == (2 : Int)) = false := beq_eq_false_iff_ne.mpr c44;have c44b1 : (x6_1 != (2 : Int)) = true := bne_iff_ne.mpr c44
           by_cases c52 : x6_1 = (3 : Int)
           focus
            rw [if_pos c52] at H;have c52b0 : (x6_1 == (3 : Int)) = true := beq_iff_eq.mpr c52;have c52b1 : (x6_1 != (3 : Int)) = false := bne_eq_false_iff_eq.mpr c52
            have c52b2 : 0 ≤ x6_1 := by omega
            have c52b3 : x6_1 < 4 := by omega
            have c52b4 : x6_1 < 5 := by omega
            have c52b5 : x6_1 < 6 := by omega
            have c52b6 : (x6_1 : Int).toNat = 3 := by omega
            clear c52;replace H := bE H;obtain ⟨⟨t270, t271⟩, A530, H⟩ := H;replace H : (if t271.isNone = true then (if x5_1.length < 8796093022208 then (cT.l0 k1 (x5_1 ++ [t270]) (wrap64 (x6_1 + 1)) t238 (t238.length : Int) (wrap64 (x28_1 + 1)) a0_0 a0_1 a0_2 a0_3 a0_4 a0_5 a0_6 a0_7) else (none)) else (some ((⟨#[]⟩ : ByteArray), some 1))) = some (r1, r2) := H;have A53 := As A530;clear A530
            rcases t271 with _ | q272
            focus
             have H1 : (if x5_1.length < 8796093022208 then (cT.l0 k1 (x5_1 ++ [t270]) (wrap64 (x6_1 + 1)) t238 (t238.length : Int) (wrap64 (x28_1 + 1)) a0_0 a0_1 a0_2 a0_3 a0_4 a0_5 a0_6 a0_7) else (none)) = some (r1, r2) := by rw [if_pos no0] at H; exact H
             clear H;have H := H1;clear H1
             try simp only [errW_none, errW_some]
             by_cases c54 : x5_1.length < 8796093022208
             rotate_left
             ·rw [if_neg c54] at H;exact absurd H (by simp)
             rw [if_pos c54] at H;have LMc54 := As c54;clear c54
             obtain ⟨y273, hy273⟩ : ∃ y_ : List ByteArray, y_ = (x5_1 ++ [t270]) := ⟨_, rfl⟩
             replace H : (cT.l0 k1 y273 (wrap64 (x6_1 + 1)) t238 (t238.length : Int) (wrap64 (x28_1 + 1)) a0_0 a0_1 a0_2 a0_3 a0_4 a0_5 a0_6 a0_7) = some (r1, r2) := by first | (rw [hy273]; with_reducible exact H) | (have H2_ := (Option.bind_some _ _).symm.trans H; rw [hy273]; with_reducible exact H2_) | (have H2_ := (Option.bind_some _ _).symm.trans H; with_reducible exact H2_) | with_reducible exact H | (rw [hy273]; exact H) | exact H
             have Ny273 := As hy273;clear hy273;have H' := As H;clear H;have p245 : 0 ≤ (x28_1 : Int) := dT hy;have q245 : x28_1 < (t238.length : Int) := dT hy;obtain ⟨ad245, e245, hx245_0⟩ := Kd.at_int (RR HO_26.out).2.2 x28_1 p245 q245
             cases e245
             replace p245 := eq_true p245;replace q245 := eq_true q245;obtain ⟨hcz55_0, hcz55_1, hcz55_2, hcz55_3, hcz55_4, hcz55_5, hcz55_6, hcz55_7, hfz55_0, hfz55_1, hfz55_2, hfz55_3, hfz55_4, hfz55_5, hfz55_6, hfz55_7⟩ := cz8 BK237.out
            rotate_left
            have H1 : (some ((⟨#[]⟩ : ByteArray), some 1)) = some (r1, r2) := by rw [if_neg (show ¬ (some q272).isNone = true by simp)] at H; exact H
            clear H;have H := H1;clear H1
            try simp only [errW_none, errW_some]
            simp only [Option.some.injEq, Prod.mk.injEq] at H;obtain ⟨rfl, rfl⟩ := H;have p245 : 0 ≤ (x28_1 : Int) := dT hy;have q245 : x28_1 < (t238.length : Int) := dT hy;obtain ⟨ad245, e245, hx245_0⟩ := Kd.at_int (RR HO_26.out).2.2 x28_1 p245 q245
            cases e245
            replace p245 := eq_true p245;replace q245 := eq_true q245;obtain ⟨hcz58_0, hcz58_1, hcz58_2, hcz58_3, hcz58_4, hcz58_5, hcz58_6, hcz58_7, hfz58_0, hfz58_1, hfz58_2, hfz58_3, hfz58_4, hfz58_5, hfz58_6, hfz58_7⟩ := cz8 BK237.out
           rotate_left 2
           focus
            rw [if_neg c52] at H;have c52b0 : (x6_1 == (3 : Int)) = false := beq_eq_false_iff_ne.mpr c52;have c52b1 : (x6_1 != (3 : Int)) = true := bne_iff_ne.mpr c52
            by_cases c60 : x6_1 = (4 : Int)
            rotate_left
            ·rw [if_neg c60] at H;exact absurd H (by simp)
            rw [if_pos c60] at H;have c60b0 : (x6_1 == (4 : Int)) = true := beq_iff_eq.mpr c60;have c60b1 : (x6_1 != (4 : Int)) = false := bne_eq_false_iff_eq.mpr c60
            have c60b2 : 0 ≤ x6_1 := by omega
            have c60b3 : x6_1 < 5 := by omega
            have c60b4 : x6_1 < 6 := by omega
            have c60b5 : (x6_1 : Int).toNat = 4 := by omega
            clear c60;replace H := bE H;obtain ⟨⟨t276, t277⟩, A610, H⟩ := H;replace H : (if t277.isNone = true then (if x5_1.length < 8796093022208 then (cT.l0 k1 (x5_1 ++ [t276]) (wrap64 (x6_1 + 1)) t238 (t238.length : Int) (wrap64 (x28_1 + 1)) a0_0 a0_1 a0_2 a0_3 a0_4 a0_5 a0_6 a0_7) else (none)) else (some ((⟨#[]⟩ : ByteArray), some 1))) = some (r1, r2) := H;have A61 := As A610;clear A610
            rcases t277 with _ | q278
            focus
             have H1 : (if x5_1.length < 8796093022208 then (cT.l0 k1 (x5_1 ++ [t276]) (wrap64 (x6_1 + 1)) t238 (t238.length : Int) (wrap64 (x28_1 + 1)) a0_0 a0_1 a0_2 a0_3 a0_4 a0_5 a0_6 a0_7) else (none)) = some (r1, r2) := by rw [if_pos no0] at H; exact H
             clear H;have H := H1;clear H1
             try simp only [errW_none, errW_some]
             by_cases c62 : x5_1.length < 8796093022208
             rotate_left
             ·rw [if_neg c62] at H;exact absurd H (by simp)
             rw [if_pos c62] at H;have LMc62 := As c62;clear c62
             obtain ⟨y279, hy279⟩ : ∃ y_ : List ByteArray, y_ = (x5_1 ++ [t276]) := ⟨_, rfl⟩
             replace H : (cT.l0 k1 y279 (wrap64 (x6_1 + 1)) t238 (t238.length : Int) (wrap64 (x28_1 + 1)) a0_0 a0_1 a0_2 a0_3 a0_4 a0_5 a0_6 a0_7) = some (r1, r2) := by first | (rw [hy279]; with_reducible exact H) | (have H2_ := (Option.bind_some _ _).symm.trans H; rw [hy279]; with_reducible exact H2_) | (have H2_ := (Option.bind_some _ _).symm.trans H; with_reducible exact H2_) | with_reducible exact H | (rw [hy279]; exact H) | exact H
             have Ny279 := As hy279;clear hy279;have H' := As H;clear H;have p245 : 0 ≤ (x28_1 : Int) := dT hy;have q245 : x28_1 < (t238.length : Int) := dT hy;obtain ⟨ad245, e245, hx245_0⟩ := Kd.at_int (RR HO_26.out).2.2 x28_1 p245 q245
             cases e245
             replace p245 := eq_true p245;replace q245 := eq_true q245;obtain ⟨hcz63_0, hcz63_1, hcz63_2, hcz63_3, hcz63_4, hcz63_5, hcz63_6, hcz63_7, hfz63_0, hfz63_1, hfz63_2, hfz63_3, hfz63_4, hfz63_5, hfz63_6, hfz63_7⟩ := cz8 BK237.out
            rotate_left
            have H1 : (some ((⟨#[]⟩ : ByteArray), some 1)) = some (r1, r2) := by rw [if_neg (show ¬ (some q278).isNone = true by simp)] at H; exact H
            clear H;have H := H1;clear H1
            try simp only [errW_none, errW_some]
            simp only [Option.some.injEq, Prod.mk.injEq] at H;obtain ⟨rfl, rfl⟩ := H;have p245 : 0 ≤ (x28_1 : Int) := dT hy;have q245 : x28_1 < (t238.length : Int) := dT hy;obtain ⟨ad245, e245, hx245_0⟩ := Kd.at_int (RR HO_26.out).2.2 x28_1 p245 q245
            cases e245
            replace p245 := eq_true p245;replace q245 := eq_true q245;obtain ⟨hcz66_0, hcz66_1, hcz66_2, hcz66_3, hcz66_4, hcz66_5, hcz66_6, hcz66_7, hfz66_0, hfz66_1, hfz66_2, hfz66_3, hfz66_4, hfz66_5, hfz66_6, hfz66_7⟩ := cz8 BK237.out
       rotate_left 10
       focus
        rw [if_neg c27] at H;have c27b0 : ((rd t238 x28_1) == 6) = false := beq_eq_false_iff_ne.mpr c27;have c27b1 : ((rd t238 x28_1) != 6) = true := bne_iff_ne.mpr c27
        by_cases c68 : x6_1 = (0 : Int)
        focus
         rw [if_pos c68] at H;have c68b0 : (x6_1 == (0 : Int)) = true := beq_iff_eq.mpr c68;have c68b1 : (x6_1 != (0 : Int)) = false := bne_eq_false_iff_eq.mpr c68
         have c68b2 : 0 ≤ x6_1 := by omega
         have c68b3 : x6_1 < 1 := by omega
         have c68b4 : x6_1 < 2 := by omega
         have c68b5 : x6_1 < 3 := by omega
         have c68b6 : x6_1 < 4 := by omega
         have c68b7 : x6_1 < 5 := by omega
         have c68b8 : x6_1 < 6 := by omega
         have c68b9 : (x6_1 : Int).toNat = 0 := by omega
         clear c68;replace H := bE H;obtain ⟨t282, A690, H⟩ := H;replace H : (if x5_1.length < 8796093022208 then (cT.l0 k1 (x5_1 ++ [t282]) (wrap64 (x6_1 + 1)) t238 (t238.length : Int) (wrap64 (x28_1 + 1)) a0_0 a0_1 a0_2 a0_3 a0_4 a0_5 a0_6 a0_7) else (none)) = some (r1, r2) := H;have A69 := As A690;clear A690
         by_cases c70 : x5_1.length < 8796093022208
         rotate_left
         ·rw [if_neg c70] at H;exact absurd H (by simp)
         rw [if_pos c70] at H;have LMc70 := As c70;clear c70
         obtain ⟨y283, hy283⟩ : ∃ y_ : List ByteArray, y_ = (x5_1 ++ [t282]) := ⟨_, rfl⟩
         replace H : (cT.l0 k1 y283 (wrap64 (x6_1 + 1)) t238 (t238.length : Int) (wrap64 (x28_1 + 1)) a0_0 a0_1 a0_2 a0_3 a0_4 a0_5 a0_6 a0_7) = some (r1, r2) := by first | (rw [hy283]; with_reducible exact H) | (have H2_ := (Option.bind_some _ _).symm.trans H; rw [hy283]; with_reducible exact H2_) | (have H2_ := (Option.bind_some _ _).symm.trans H; with_reducible exact H2_) | with_reducible exact H | (rw [hy283]; exact H) | exact H
         have Ny283 := As hy283;clear hy283;have H' := As H;clear H;have p245 : 0 ≤ (x28_1 : Int) := dT hy;have q245 : x28_1 < (t238.length : Int) := dT hy;obtain ⟨ad245, e245, hx245_0⟩ := Kd.at_int (RR HO_26.out).2.2 x28_1 p245 q245
         cases e245
         replace p245 := eq_true p245;replace q245 := eq_true q245;obtain ⟨hcz71_0, hcz71_1, hcz71_2, hcz71_3, hcz71_4, hcz71_5, hcz71_6, hcz71_7, hfz71_0, hfz71_1, hfz71_2, hfz71_3, hfz71_4, hfz71_5, hfz71_6, hfz71_7⟩ := cz8 BK237.out
        rotate_left
        focus
         rw [if_neg c68] at H;have c68b0 : (x6_1 == (0 : Int)) = false := beq_eq_false_iff_ne.mpr c68;have c68b1 : (x6_1 != (0 : Int)) = true := bne_iff_ne.mpr c68
         by_cases c74 : x6_1 = (1 : Int)
         focus
          rw [if_pos c74] at H;have c74b0 : (x6_1 == (1 : Int)) = true := beq_iff_eq.mpr c74;have c74b1 : (x6_1 != (1 : Int)) = false := bne_eq_false_iff_eq.mpr c74
          have c74b2 : 0 ≤ x6_1 := by omega
          have c74b3 : x6_1 < 2 := by omega
          have c74b4 : x6_1 < 3 := by omega
          have c74b5 : x6_1 < 4 := by omega
          have c74b6 : x6_1 < 5 := by omega
          have c74b7 : x6_1 < 6 := by omega
          have c74b8 : (x6_1 : Int).toNat = 1 := by omega
          clear c74;replace H := bE H;obtain ⟨t286, A750, H⟩ := H;replace H : (if x5_1.length < 8796093022208 then (cT.l0 k1 (x5_1 ++ [t286]) (wrap64 (x6_1 + 1)) t238 (t238.length : Int) (wrap64 (x28_1 + 1)) a0_0 a0_1 a0_2 a0_3 a0_4 a0_5 a0_6 a0_7) else (none)) = some (r1, r2) := H;have A75 := As A750;clear A750
          by_cases c76 : x5_1.length < 8796093022208
          rotate_left
          ·rw [if_neg c76] at H;exact absurd H (by simp)
          rw [if_pos c76] at H;have LMc76 := As c76;clear c76
          obtain ⟨y287, hy287⟩ : ∃ y_ : List ByteArray, y_ = (x5_1 ++ [t286]) := ⟨_, rfl⟩
          replace H : (cT.l0 k1 y287 (wrap64 (x6_1 + 1)) t238 (t238.length : Int) (wrap64 (x28_1 + 1)) a0_0 a0_1 a0_2 a0_3 a0_4 a0_5 a0_6 a0_7) = some (r1, r2) := by first | (rw [hy287]; with_reducible exact H) | (have H2_ := (Option.bind_some _ _).symm.trans H; rw [hy287]; with_reducible exact H2_) | (have H2_ := (Option.bind_some _ _).symm.trans H; with_reducible exact H2_) | with_reducible exact H | (rw [hy287]; exact H) | exact H
          have Ny287 := As hy287;clear hy287;have H' := As H;clear H;have p245 : 0 ≤ (x28_1 : Int) := dT hy;have q245 : x28_1 < (t238.length : Int) := dT hy;obtain ⟨ad245, e245, hx245_0⟩ := Kd.at_int (RR HO_26.out).2.2 x28_1 p245 q245
          cases e245
          replace p245 := eq_true p245;replace q245 := eq_true q245;obtain ⟨hcz77_0, hcz77_1, hcz77_2, hcz77_3, hcz77_4, hcz77_5, hcz77_6, hcz77_7, hfz77_0, hfz77_1, hfz77_2, hfz77_3, hfz77_4, hfz77_5, hfz77_6, hfz77_7⟩ := cz8 BK237.out
         rotate_left
         focus
          rw [if_neg c74] at H;have c74b0 : (x6_1 == (1 : Int)) = false := beq_eq_false_iff_ne.mpr c74;have c74b1 : (x6_1 != (1 : Int)) = true := bne_iff_ne.mpr c74
          by_cases c80 : x6_1 = (2 : Int)
          focus
           rw [if_pos c80] at H;have c80b0 : (x6_1 == (2 : Int)) = true := beq_iff_eq.mpr c80;have c80b1 : (x6_1 != (2 : Int)) = false := bne_eq_false_iff_eq.mpr c80
           have c80b2 : 0 ≤ x6_1 := by omega
           have c80b3 : x6_1 < 3 := by omega
           have c80b4 : x6_1 < 4 := by omega
           have c80b5 : x6_1 < 5 := by omega
           have c80b6 : x6_1 < 6 := by omega
           have c80b7 : (x6_1 : Int).toNat = 2 := by omega
           clear c80;replace H := bE H;obtain ⟨t290, A810, H⟩ := H;replace H : (if x5_1.length < 8796093022208 then (cT.l0 k1 (x5_1 ++ [t290]) (wrap64 (x6_1 + 1)) t238 (t238.length : Int) (wrap64 (x28_1 + 1)) a0_0 a0_1 a0_2 a0_3 a0_4 a0_5 a0_6 a0_7) else (none)) = some (r1, r2) := H;have A81 := As A810;clear A810
           by_cases c82 : x5_1.length < 8796093022208
           rotate_left
           ·rw [if_neg c82] at H;exact absurd H (by simp)
           rw [if_pos c82] at H;have LMc82 := As c82;clear c82
           obtain ⟨y291, hy291⟩ : ∃ y_ : List ByteArray, y_ = (x5_1 ++ [t290]) := ⟨_, rfl⟩
           replace H : (cT.l0 k1 y291 (wrap64 (x6_1 + 1)) t238 (t238.length : Int) (wrap64 (x28_1 + 1)) a0_0 a0_1 a0_2 a0_3 a0_4 a0_5 a0_6 a0_7) = some (r1, r2) := by first | (rw [hy291]; with_reducible exact H) | (have H2_ := (Option.bind_some _ _).symm.trans H; rw [hy291]; with_reducible exact H2_) | (have H2_ := (Option.bind_some _ _).symm.trans H; with_reducible exact H2_) | with_reducible exact H | (rw [hy291]; exact H) | exact H
           have Ny291 := As hy291;clear hy291;have H' := As H;clear H;have p245 : 0 ≤ (x28_1 : Int) := dT hy;have q245 : x28_1 < (t238.length : Int) := dT hy;obtain ⟨ad245, e245, hx245_0⟩ := Kd.at_int (RR HO_26.out).2.2 x28_1 p245 q245
           cases e245
           replace p245 := eq_true p245;replace q245 := eq_true q245;obtain ⟨hcz83_0, hcz83_1, hcz83_2, hcz83_3, hcz83_4, hcz83_5, hcz83_6, hcz83_7, hfz83_0, hfz83_1, hfz83_2, hfz83_3, hfz83_4, hfz83_5, hfz83_6, hfz83_7⟩ := cz8 BK237.out
          rotate_left
          focus
           rw [if_neg c80] at H;have c80b0 : (x6_1 == (2 : Int)) = false := beq_eq_false_iff_ne.mpr c80;have c80b1 : (x6_1 != (2 : Int)) = true := bne_iff_ne.mpr c80
           by_cases c86 : x6_1 = (3 : Int)
           focus
            rw [if_pos c86] at H;have c86b0 : (x6_1 == (3 : Int)) = true := beq_iff_eq.mpr c86;have c86b1 : (x6_1 != (3 : Int)) = false := bne_eq_false_iff_eq.mpr c86
            have c86b2 : 0 ≤ x6_1 := by omega
            have c86b3 : x6_1 < 4 := by omega
            have c86b4 : x6_1 < 5 := by omega
            have c86b5 : x6_1 < 6 := by omega
            have c86b6 : (x6_1 : Int).toNat = 3 := by omega
            clear c86;replace H := bE H;obtain ⟨t294, A870, H⟩ := H;replace H : (if x5_1.length < 8796093022208 then (cT.l0 k1 (x5_1 ++ [t294]) (wrap64 (x6_1 + 1)) t238 (t238.length : Int) (wrap64 (x28_1 + 1)) a0_0 a0_1 a0_2 a0_3 a0_4 a0_5 a0_6 a0_7) else (none)) = some (r1, r2) := H;have A87 := As A870;clear A870
            by_cases c88 : x5_1.length < 8796093022208
            rotate_left
            ·rw [if_neg c88] at H;exact absurd H (by simp)
            rw [if_pos c88] at H;have LMc88 := As c88;clear c88
            obtain ⟨y295, hy295⟩ : ∃ y_ : List ByteArray, y_ = (x5_1 ++ [t294]) := ⟨_, rfl⟩
            replace H : (cT.l0 k1 y295 (wrap64 (x6_1 + 1)) t238 (t238.length : Int) (wrap64 (x28_1 + 1)) a0_0 a0_1 a0_2 a0_3 a0_4 a0_5 a0_6 a0_7) = some (r1, r2) := by first | (rw [hy295]; with_reducible exact H) | (have H2_ := (Option.bind_some _ _).symm.trans H; rw [hy295]; with_reducible exact H2_) | (have H2_ := (Option.bind_some _ _).symm.trans H; with_reducible exact H2_) | with_reducible exact H | (rw [hy295]; exact H) | exact H
            have Ny295 := As hy295;clear hy295;have H' := As H;clear H;have p245 : 0 ≤ (x28_1 : Int) := dT hy;have q245 : x28_1 < (t238.length : Int) := dT hy;obtain ⟨ad245, e245, hx245_0⟩ := Kd.at_int (RR HO_26.out).2.2 x28_1 p245 q245
            cases e245
            replace p245 := eq_true p245;replace q245 := eq_true q245;obtain ⟨hcz89_0, hcz89_1, hcz89_2, hcz89_3, hcz89_4, hcz89_5, hcz89_6, hcz89_7, hfz89_0, hfz89_1, hfz89_2, hfz89_3, hfz89_4, hfz89_5, hfz89_6, hfz89_7⟩ := cz8 BK237.out
           rotate_left
           focus
            rw [if_neg c86] at H;have c86b0 : (x6_1 == (3 : Int)) = false := beq_eq_false_iff_ne.mpr c86;have c86b1 : (x6_1 != (3 : Int)) = true := bne_iff_ne.mpr c86
            by_cases c92 : x6_1 = (4 : Int)
            rotate_left
            ·rw [if_neg c92] at H;exact absurd H (by simp)
            rw [if_pos c92] at H;have c92b0 : (x6_1 == (4 : Int)) = true := beq_iff_eq.mpr c92;have c92b1 : (x6_1 != (4 : Int)) = false := bne_eq_false_iff_eq.mpr c92
            have c92b2 : 0 ≤ x6_1 := by omega
            have c92b3 : x6_1 < 5 := by omega
            have c92b4 : x6_1 < 6 := by omega
            have c92b5 : (x6_1 : Int).toNat = 4 := by omega
            clear c92;replace H := bE H;obtain ⟨t298, A930, H⟩ := H;replace H : (if x5_1.length < 8796093022208 then (cT.l0 k1 (x5_1 ++ [t298]) (wrap64 (x6_1 + 1)) t238 (t238.length : Int) (wrap64 (x28_1 + 1)) a0_0 a0_1 a0_2 a0_3 a0_4 a0_5 a0_6 a0_7) else (none)) = some (r1, r2) := H;have A93 := As A930;clear A930
            by_cases c94 : x5_1.length < 8796093022208
            rotate_left
            ·rw [if_neg c94] at H;exact absurd H (by simp)
            rw [if_pos c94] at H;have LMc94 := As c94;clear c94
            obtain ⟨y299, hy299⟩ : ∃ y_ : List ByteArray, y_ = (x5_1 ++ [t298]) := ⟨_, rfl⟩
            replace H : (cT.l0 k1 y299 (wrap64 (x6_1 + 1)) t238 (t238.length : Int) (wrap64 (x28_1 + 1)) a0_0 a0_1 a0_2 a0_3 a0_4 a0_5 a0_6 a0_7) = some (r1, r2) := by first | (rw [hy299]; with_reducible exact H) | (have H2_ := (Option.bind_some _ _).symm.trans H; rw [hy299]; with_reducible exact H2_) | (have H2_ := (Option.bind_some _ _).symm.trans H; with_reducible exact H2_) | with_reducible exact H | (rw [hy299]; exact H) | exact H
            have Ny299 := As hy299;clear hy299;have H' := As H;clear H;have p245 : 0 ≤ (x28_1 : Int) := dT hy;have q245 : x28_1 < (t238.length : Int) := dT hy;obtain ⟨ad245, e245, hx245_0⟩ := Kd.at_int (RR HO_26.out).2.2 x28_1 p245 q245
            cases e245
            replace p245 := eq_true p245;replace q245 := eq_true q245;obtain ⟨hcz95_0, hcz95_1, hcz95_2, hcz95_3, hcz95_4, hcz95_5, hcz95_6, hcz95_7, hfz95_0, hfz95_1, hfz95_2, hfz95_3, hfz95_4, hfz95_5, hfz95_6, hfz95_7⟩ := cz8 BK237.out
    rotate_left 17
    focus
     rw [if_neg c16] at H;have c16b0 : decide (x28_1 < (t238.length : Int)) = false := dN c16;clear c16;replace H := bE H;obtain ⟨t302, A980, H⟩ := H;replace H : ((cP.f k1 t302).bind fun bt303 => (if bt303.2.2.2.2.2.2.2.2.isNone = true then (if bt303.1 = a0_0 then (if bt303.2.1.toList = a0_1.toList then (if bt303.2.2.1 = a0_2 then (if bt303.2.2.2.1 = a0_3 then (if bt303.2.2.2.2.1 = a0_4 then (if bt303.2.2.2.2.2.1 = a0_5 then (if bt303.2.2.2.2.2.2.1 = a0_6 then (if bt303.2.2.2.2.2.2.2.1.toList = a0_7.toList then (some (t302, none)) else (some ((⟨#[]⟩ : ByteArray), some 1))) else (some ((⟨#[]⟩ : ByteArray), some 1))) else (some ((⟨#[]⟩ : ByteArray), some 1))) else (some ((⟨#[]⟩ : ByteArray), some 1))) else (some ((⟨#[]⟩ : ByteArray), some 1))) else (some ((⟨#[]⟩ : ByteArray), some 1))) else (some ((⟨#[]⟩ : ByteArray), some 1))) else (some ((⟨#[]⟩ : ByteArray), some 1))) else (some ((⟨#[]⟩ : ByteArray), some 1)))) = some (r1, r2) := H;have A98 := As A980;clear A980;replace H := bE H;obtain ⟨⟨t303, t304, t305, t306, t307, t308, t309, t310, t311⟩, A990, H⟩ := H;replace H : (if t311.isNone = true then (if t303 = a0_0 then (if t304.toList = a0_1.toList then (if t305 = a0_2 then (if t306 = a0_3 then (if t307 = a0_4 then (if t308 = a0_5 then (if t309 = a0_6 then (if t310.toList = a0_7.toList then (some (t302, none)) else (some ((⟨#[]⟩ : ByteArray), some 1))) else (some ((⟨#[]⟩ : ByteArray), some 1))) else (some ((⟨#[]⟩ : ByteArray), some 1))) else (some ((⟨#[]⟩ : ByteArray), some 1))) else (some ((⟨#[]⟩ : ByteArray), some 1))) else (some ((⟨#[]⟩ : ByteArray), some 1))) else (some ((⟨#[]⟩ : ByteArray), some 1))) else (some ((⟨#[]⟩ : ByteArray), some 1))) else (some ((⟨#[]⟩ : ByteArray), some 1))) = some (r1, r2) := H;have A99 := As A990;clear A990
     rcases t311 with _ | q313
     focus
      have H1 : (if t303 = a0_0 then (if t304.toList = a0_1.toList then (if t305 = a0_2 then (if t306 = a0_3 then (if t307 = a0_4 then (if t308 = a0_5 then (if t309 = a0_6 then (if t310.toList = a0_7.toList then (some (t302, none)) else (some ((⟨#[]⟩ : ByteArray), some 1))) else (some ((⟨#[]⟩ : ByteArray), some 1))) else (some ((⟨#[]⟩ : ByteArray), some 1))) else (some ((⟨#[]⟩ : ByteArray), some 1))) else (some ((⟨#[]⟩ : ByteArray), some 1))) else (some ((⟨#[]⟩ : ByteArray), some 1))) else (some ((⟨#[]⟩ : ByteArray), some 1))) else (some ((⟨#[]⟩ : ByteArray), some 1))) = some (r1, r2) := by rw [if_pos no0] at H; exact H
      clear H;have H := H1;clear H1
      try simp only [errW_none, errW_some]
      by_cases c100 : t303 = a0_0
      focus
       rw [if_pos c100] at H;have c100b0 : (t303 == a0_0) = true := beq_iff_eq.mpr c100;have c100b1 : (t303 != a0_0) = false := bne_eq_false_iff_eq.mpr c100;clear c100
       by_cases c101 : t304.toList = a0_1.toList
       focus
        rw [if_pos c101] at H;have c101b0 : (t304.toList == a0_1.toList) = true := beq_iff_eq.mpr c101;have c101b1 : (t304.toList != a0_1.toList) = false := bne_eq_false_iff_eq.mpr c101;clear c101
        by_cases c102 : t305 = a0_2
        focus
         rw [if_pos c102] at H;have c102b0 : (t305 == a0_2) = true := beq_iff_eq.mpr c102;have c102b1 : (t305 != a0_2) = false := bne_eq_false_iff_eq.mpr c102;clear c102
         by_cases c103 : t306 = a0_3
         focus
          rw [if_pos c103] at H;have c103b0 : (t306 == a0_3) = true := beq_iff_eq.mpr c103;have c103b1 : (t306 != a0_3) = false := bne_eq_false_iff_eq.mpr c103;clear c103
          by_cases c104 : t307 = a0_4
          focus
           rw [if_pos c104] at H;have c104b0 : (t307 == a0_4) = true := beq_iff_eq.mpr c104;have c104b1 : (t307 != a0_4) = false := bne_eq_false_iff_eq.mpr c104;clear c104
           by_cases c105 : t308 = a0_5
           focus
            rw [if_pos c105] at H;have c105b0 : (t308 == a0_5) = true := beq_iff_eq.mpr c105;have c105b1 : (t308 != a0_5) = false := bne_eq_false_iff_eq.mpr c105;clear c105
            by_cases c106 : t309 = a0_6
            focus
             rw [if_pos c106] at H;have c106b0 : (t309 == a0_6) = true := beq_iff_eq.mpr c106;have c106b1 : (t309 != a0_6) = false := bne_eq_false_iff_eq.mpr c106;clear c106
             by_cases c107 : t310.toList = a0_7.toList
             rw [if_pos c107] at H;have c107b0 : (t310.toList == a0_7.toList) = true := beq_iff_eq.mpr c107;have c107b1 : (t310.toList != a0_7.toList) = false := bne_eq_false_iff_eq.mpr c107;clear c107;simp only [Option.some.injEq, Prod.mk.injEq] at H;obtain ⟨rfl, rfl⟩ := H;obtain ⟨Ao164, co164, eo108⟩ := Kd.R_slice HO_5.out;subst eo108
             have m9_ := trivial
             rotate_left
             rw [if_neg c107] at H;have c107b0 : (t310.toList == a0_7.toList) = false := beq_eq_false_iff_ne.mpr c107;have c107b1 : (t310.toList != a0_7.toList) = true := bne_iff_ne.mpr c107;simp only [Option.some.injEq, Prod.mk.injEq] at H;obtain ⟨rfl, rfl⟩ := H;obtain ⟨Ao164, co164, eo115⟩ := Kd.R_slice HO_5.out;subst eo115
             have m8_ := trivial
            rotate_left 2
            rw [if_neg c106] at H;have c106b0 : (t309 == a0_6) = false := beq_eq_false_iff_ne.mpr c106;have c106b1 : (t309 != a0_6) = true := bne_iff_ne.mpr c106;simp only [Option.some.injEq, Prod.mk.injEq] at H;obtain ⟨rfl, rfl⟩ := H;obtain ⟨Ao164, co164, eo122⟩ := Kd.R_slice HO_5.out;subst eo122
            have m7_ := trivial
           rotate_left 3
           rw [if_neg c105] at H;have c105b0 : (t308 == a0_5) = false := beq_eq_false_iff_ne.mpr c105;have c105b1 : (t308 != a0_5) = true := bne_iff_ne.mpr c105;simp only [Option.some.injEq, Prod.mk.injEq] at H;obtain ⟨rfl, rfl⟩ := H;obtain ⟨Ao164, co164, eo129⟩ := Kd.R_slice HO_5.out;subst eo129
           have m6_ := trivial
          rotate_left 4
          rw [if_neg c104] at H;have c104b0 : (t307 == a0_4) = false := beq_eq_false_iff_ne.mpr c104;have c104b1 : (t307 != a0_4) = true := bne_iff_ne.mpr c104;simp only [Option.some.injEq, Prod.mk.injEq] at H;obtain ⟨rfl, rfl⟩ := H;obtain ⟨Ao164, co164, eo136⟩ := Kd.R_slice HO_5.out;subst eo136
          have m5_ := trivial
         rotate_left 5
         rw [if_neg c103] at H;have c103b0 : (t306 == a0_3) = false := beq_eq_false_iff_ne.mpr c103;have c103b1 : (t306 != a0_3) = true := bne_iff_ne.mpr c103;simp only [Option.some.injEq, Prod.mk.injEq] at H;obtain ⟨rfl, rfl⟩ := H;obtain ⟨Ao164, co164, eo143⟩ := Kd.R_slice HO_5.out;subst eo143
         have m4_ := trivial
        rotate_left 6
        rw [if_neg c102] at H;have c102b0 : (t305 == a0_2) = false := beq_eq_false_iff_ne.mpr c102;have c102b1 : (t305 != a0_2) = true := bne_iff_ne.mpr c102;simp only [Option.some.injEq, Prod.mk.injEq] at H;obtain ⟨rfl, rfl⟩ := H;obtain ⟨Ao164, co164, eo150⟩ := Kd.R_slice HO_5.out;subst eo150
        have m3_ := trivial
       rotate_left 7
       rw [if_neg c101] at H;have c101b0 : (t304.toList == a0_1.toList) = false := beq_eq_false_iff_ne.mpr c101;have c101b1 : (t304.toList != a0_1.toList) = true := bne_iff_ne.mpr c101;simp only [Option.some.injEq, Prod.mk.injEq] at H;obtain ⟨rfl, rfl⟩ := H;obtain ⟨Ao164, co164, eo157⟩ := Kd.R_slice HO_5.out;subst eo157
       have m2_ := trivial
      rotate_left 8
      rw [if_neg c100] at H;have c100b0 : (t303 == a0_0) = false := beq_eq_false_iff_ne.mpr c100;have c100b1 : (t303 != a0_0) = true := bne_iff_ne.mpr c100;simp only [Option.some.injEq, Prod.mk.injEq] at H;obtain ⟨rfl, rfl⟩ := H;obtain ⟨Ao164, co164, eo164⟩ := Kd.R_slice HO_5.out;subst eo164
      have m1_ := trivial
     rotate_left 9
     have H1 : (some ((⟨#[]⟩ : ByteArray), some 1)) = some (r1, r2) := by rw [if_neg (show ¬ (some q313).isNone = true by simp)] at H; exact H
     clear H;have H := H1;clear H1
     try simp only [errW_none, errW_some]
     simp only [Option.some.injEq, Prod.mk.injEq] at H;obtain ⟨rfl, rfl⟩ := H;obtain ⟨Ao171, co171, eo171⟩ := Kd.R_slice HO_5.out;subst eo171
    all_goals try
     first | (clear m1_; have m1_ := trivial) | (clear m2_; have m2_ := trivial) | (clear m3_; have m3_ := trivial) | (clear m4_; have m4_ := trivial) | (clear m5_; have m5_ := trivial) | (clear m6_; have m6_ := trivial) | (clear m7_; have m7_ := trivial) | (clear m8_; have m8_ := trivial) | (clear m9_; have m9_ := trivial)
     go_wp2_with (first | ((with_reducible refine gate_callee (f := 19) rfl ?_); refine goesL_ (some 78) rfl rfl Tryz.func19 kr rfl #[.slice Ao164 x5_1.length co164, .string (⟨#[59]⟩ : ByteArray)] rfl sa ?_; (with_reducible refine (stJ.calls _ _ x5_1 (⟨#[59]⟩ : ByteArray) _ _ ?side1 ?side2 A98.out).mono ?_); (case side1 => repeat (first | exact (RR HO_5.out).2.2 | (with_reducible refine Kd.C_alloc ?_ _) | (with_reducible refine Kd.C_drewN ?_ _) | (with_reducible refine Kd.C_drew ?_))); (case side2 => exact (RR HO_5.out).2.1); rintro e w165 ⟨rfl, hb⟩; refine ⟨_, rfl, ?_⟩; replace HO_5 := As (RB (ro HO_5.out) hb); replace HO_26 := As (RB (ro HO_26.out) hb); replace BK237 := As (YB (g := gb237) (o := .cells #[.int .i64 a0_0, .string a0_1, .int .i64 a0_2, .int .i64 a0_3, .int .i64 a0_4, .int .i64 a0_5, .int .i64 a0_6, .string a0_7] 30 (0, 0)) (bk BK237.out) hb); replace HB := As (XT (be HB.out) hb); (try clear hb); (try clear hb2); (try clear hk); (try clear hi)) | ((with_reducible refine gate_callee (f := 10) rfl ?_); refine goesL_ (some 81) rfl rfl Tryz.func10 kr rfl #[.string t302] rfl sa ?_; (with_reducible refine (cP.calls k1 t302 t303 t304 t305 t306 t307 t308 t309 t310 none _ A99.out ?side1).mono ?_); (case side1 => first | exact hG | exact GL.below hG (be HB.out) | (repeat (first | exact hG | apply GL.drewN | apply GL.drew | apply GL.alloc))); rintro e w166 ⟨rfl, hb⟩; refine ⟨_, rfl, ?_⟩; replace HO_5 := As (RB (ro HO_5.out) hb); replace HO_26 := As (RB (ro HO_26.out) hb); replace BK237 := As (YB (g := gb237) (o := .cells #[.int .i64 a0_0, .string a0_1, .int .i64 a0_2, .int .i64 a0_3, .int .i64 a0_4, .int .i64 a0_5, .int .i64 a0_6, .string a0_7] 30 (0, 0)) (bk BK237.out) hb); replace HB := As (XT (be HB.out) hb); (try clear hb); (try clear hb2); (try clear hk); (try clear hi); (try simp only [errW_none, errW_some])) | ((with_reducible refine gate_dst (N := 12) rfl ?_); refine box_event ?hg (N := 12) ?hd (cs := #[.int .i64 0, .string (⟨#[]⟩ : ByteArray), .int .i64 0, .int .i64 0, .int .i64 0, .int .i64 0, .int .i64 0, .string (⟨#[]⟩ : ByteArray)]) (t := 30) ?hr ?_; (case hd => rfl); (case hg => rfl); (case hr => first | (go_simp; done) | (go_simp; rfl)); intro gb312 hg w167 hbox hb; replace HO_5 := As (RB (ro HO_5.out) hb); replace HO_26 := As (RB (ro HO_26.out) hb); have BK312 := As (hbox); have GW312 := As ((gz hg (be HB.out) : w.heap.size ≤ gb312)); have GE312 := As ((gz hg (be HB.out) : w.heap.size ≤ gb312)); replace HB := As (XT (be HB.out) hb); have NB237_312 := As ((nl hg (bk BK237.out) : gb237 ≠ gb312)); have NB312_237 := As ((ng hg (bk BK237.out) : gb312 ≠ gb237)); replace BK237 := As (YB (g := gb237) (o := .cells #[.int .i64 a0_0, .string a0_1, .int .i64 a0_2, .int .i64 a0_3, .int .i64 a0_4, .int .i64 a0_5, .int .i64 a0_6, .string a0_7] 30 (0, 0)) (bk BK237.out) hb); clear hb hbox hg; have hnb168 := NB312_237.out; have hnc168 := NB237_312.out; obtain ⟨hcz169_0, hcz169_1, hcz169_2, hcz169_3, hcz169_4, hcz169_5, hcz169_6, hcz169_7, hfz169_0, hfz169_1, hfz169_2, hfz169_3, hfz169_4, hfz169_5, hfz169_6, hfz169_7⟩ := cz8 BK312.out; obtain ⟨hcz170_0, hcz170_1, hcz170_2, hcz170_3, hcz170_4, hcz170_5, hcz170_6, hcz170_7, hfz170_0, hfz170_1, hfz170_2, hfz170_3, hfz170_4, hfz170_5, hfz170_6, hfz170_7⟩ := cz8 BK237.out))
     go_ret2
     exact ⟨by first | rfl | (simp [errW_none, errW_some] <;> rfl) | (simp [*, errW_none, errW_some] <;> rfl), by repeat (first | (with_reducible first | exact HB.out | apply XA | apply XN | apply XD | refine XS ?_ GE237.out | refine XS ?_ GE312.out) | exact HB.out)⟩
    ·go_wp2_with (first | ((with_reducible refine gate_callee (f := 19) rfl ?_); refine goesL_ (some 78) rfl rfl Tryz.func19 kr rfl #[.slice Ao171 x5_1.length co171, .string (⟨#[59]⟩ : ByteArray)] rfl sa ?_; (with_reducible refine (stJ.calls _ _ x5_1 (⟨#[59]⟩ : ByteArray) _ _ ?side1 ?side2 A98.out).mono ?_); (case side1 => repeat (first | exact (RR HO_5.out).2.2 | (with_reducible refine Kd.C_alloc ?_ _) | (with_reducible refine Kd.C_drewN ?_ _) | (with_reducible refine Kd.C_drew ?_))); (case side2 => exact (RR HO_5.out).2.1); rintro e w172 ⟨rfl, hb⟩; refine ⟨_, rfl, ?_⟩; replace HO_5 := As (RB (ro HO_5.out) hb); replace HO_26 := As (RB (ro HO_26.out) hb); replace BK237 := As (YB (g := gb237) (o := .cells #[.int .i64 a0_0, .string a0_1, .int .i64 a0_2, .int .i64 a0_3, .int .i64 a0_4, .int .i64 a0_5, .int .i64 a0_6, .string a0_7] 30 (0, 0)) (bk BK237.out) hb); replace HB := As (XT (be HB.out) hb); (try clear hb); (try clear hb2); (try clear hk); (try clear hi)) | ((with_reducible refine gate_callee (f := 10) rfl ?_); refine goesL_ (some 81) rfl rfl Tryz.func10 kr rfl #[.string t302] rfl sa ?_; (with_reducible refine (cP.calls k1 t302 t303 t304 t305 t306 t307 t308 t309 t310 (some q313) _ A99.out ?side1).mono ?_); (case side1 => first | exact hG | exact GL.below hG (be HB.out) | (repeat (first | exact hG | apply GL.drewN | apply GL.drew | apply GL.alloc))); rintro e w173 ⟨rfl, hb⟩; refine ⟨_, rfl, ?_⟩; replace HO_5 := As (RB (ro HO_5.out) hb); replace HO_26 := As (RB (ro HO_26.out) hb); replace BK237 := As (YB (g := gb237) (o := .cells #[.int .i64 a0_0, .string a0_1, .int .i64 a0_2, .int .i64 a0_3, .int .i64 a0_4, .int .i64 a0_5, .int .i64 a0_6, .string a0_7] 30 (0, 0)) (bk BK237.out) hb); replace HB := As (XT (be HB.out) hb); (try clear hb); (try clear hb2); (try clear hk); (try clear hi); (try simp only [errW_none, errW_some])) | ((with_reducible refine gate_dst (N := 12) rfl ?_); refine box_event ?hg (N := 12) ?hd (cs := #[.int .i64 0, .string (⟨#[]⟩ : ByteArray), .int .i64 0, .int .i64 0, .int .i64 0, .int .i64 0, .int .i64 0, .string (⟨#[]⟩ : ByteArray)]) (t := 30) ?hr ?_; (case hd => rfl); (case hg => rfl); (case hr => first | (go_simp; done) | (go_simp; rfl)); intro gb312 hg w174 hbox hb; replace HO_5 := As (RB (ro HO_5.out) hb); replace HO_26 := As (RB (ro HO_26.out) hb); have BK312 := As (hbox); have GW312 := As ((gz hg (be HB.out) : w.heap.size ≤ gb312)); have GE312 := As ((gz hg (be HB.out) : w.heap.size ≤ gb312)); replace HB := As (XT (be HB.out) hb); have NB237_312 := As ((nl hg (bk BK237.out) : gb237 ≠ gb312)); have NB312_237 := As ((ng hg (bk BK237.out) : gb312 ≠ gb237)); replace BK237 := As (YB (g := gb237) (o := .cells #[.int .i64 a0_0, .string a0_1, .int .i64 a0_2, .int .i64 a0_3, .int .i64 a0_4, .int .i64 a0_5, .int .i64 a0_6, .string a0_7] 30 (0, 0)) (bk BK237.out) hb); clear hb hbox hg; have hnb175 := NB312_237.out; have hnc175 := NB237_312.out; obtain ⟨hcz176_0, hcz176_1, hcz176_2, hcz176_3, hcz176_4, hcz176_5, hcz176_6, hcz176_7, hfz176_0, hfz176_1, hfz176_2, hfz176_3, hfz176_4, hfz176_5, hfz176_6, hfz176_7⟩ := cz8 BK312.out))
     go_ret2
     exact ⟨by first | rfl | (simp [errW_none, errW_some] <;> rfl) | (simp [*, errW_none, errW_some] <;> rfl), by repeat (first | (with_reducible first | exact HB.out | apply XA | apply XN | apply XD | refine XS ?_ GE237.out | refine XS ?_ GE312.out) | exact HB.out)⟩
    ·go_wp2_with (first | ((with_reducible refine gate_callee (f := 18) rfl ?_); refine goesL_ (some 38) rfl rfl Tryz.func18 kr rfl #[.int .i64 a0_6] rfl sa ?_; (with_reducible refine (sItoa.calls a0_6 t298 _ A93.out ?side1).mono ?_); (case side1 => first | exact hG | exact GL.below hG (be HB.out) | (repeat (first | exact hG | apply GL.drewN | apply GL.drew | apply GL.alloc))); rintro e w96 ⟨rfl, hb⟩; refine ⟨_, rfl, ?_⟩; replace HO_5 := As (RB (ro HO_5.out) hb); replace HO_26 := As (RB (ro HO_26.out) hb); replace BK237 := As (YB (g := gb237) (o := .cells #[.int .i64 a0_0, .string a0_1, .int .i64 a0_2, .int .i64 a0_3, .int .i64 a0_4, .int .i64 a0_5, .int .i64 a0_6, .string a0_7] 30 (0, 0)) (bk BK237.out) hb); replace HB := As (XT (be HB.out) hb); (try clear hb); (try clear hb2); (try clear hk); (try clear hi)) | ((with_reducible refine gate_builtin (b := .append) (xs := #[.tmp 33, .tmp 39]) rfl ?_); at_builtin; refine Kd.R_append Kd.string (w0 := w) w.heap.size rfl (.tmp 33) (.tmp 39) 47 9 (.string ⟨#[]⟩) 16 rfl Tryz.underlying47 info9 rfl (by decide) (by omega) u5 x5_1 t298 [.string t298] (fun _ => True) (fun _ => False) rfl rfl ?aP (fun _ hk => hk.elim) ?aF ?aO ?aB ?aS ?aL ?_; (case aP => exact rfl); (case aB => exact (be HB.out)); (case aF => exact (fun _ _ => trivial)); (case aO => exact (ro HO_5.out)); (case aS => exact (XZ (be HB.out))); (case aL => have := LMc94.out; omega); intro v300 w97 ho hb hg hat; rw [← Ny299.out] at ho; have n0_ := As (Kd.R_over' (ro HO_26.out) (Kd.R_typed (ro HO_5.out)) (by decide) hg); have n1_ := As (blk_grown (g := gb237) (o := .cells #[.int .i64 a0_0, .string a0_1, .int .i64 a0_2, .int .i64 a0_3, .int .i64 a0_4, .int .i64 a0_5, .int .i64 a0_6, .string a0_7] 30 (0, 0)) (bk BK237.out) hg (Kd.R_ne HO_5.out BK237.out (by decide))); have n2_ := As (hb); have n3_ := As (ho); clear HO_26; clear BK237; clear HB; clear HO_5; have HO_26 := n0_; have BK237 := n1_; have HB := n2_; have HO301 := n3_; clear n0_ n1_ n2_ n3_; clear ho hb hg hat))
     go_roundg k1
     case measure => have := HK1.out; omega
     case rel => exact ⟨(y299), (wrap64 (x6_1 + 1)), (wrap64 (x28_1 + 1)), sw, sw, H', ⟨by have := HK1.out; omega⟩, ⟨by (with_reducible repeat (first | apply RA | apply RN | apply RD)); exact HO301.out⟩, ⟨by (with_reducible repeat (first | apply RA | apply RN | apply RD)); exact HO_26.out⟩, ⟨by (with_reducible repeat (first | refine YN ?_ _ | refine YD ?_ | refine YA ?_ _)); exact BK237.out⟩, ⟨by repeat (first | (with_reducible first | exact HB.out | apply XA | apply XN | apply XD | refine XS ?_ GE237.out) | exact HB.out)⟩⟩
    ·go_wp2_with (first | ((with_reducible refine gate_callee (f := 18) rfl ?_); refine goesL_ (some 38) rfl rfl Tryz.func18 kr rfl #[.int .i64 a0_5] rfl sa ?_; (with_reducible refine (sItoa.calls a0_5 t294 _ A87.out ?side1).mono ?_); (case side1 => first | exact hG | exact GL.below hG (be HB.out) | (repeat (first | exact hG | apply GL.drewN | apply GL.drew | apply GL.alloc))); rintro e w90 ⟨rfl, hb⟩; refine ⟨_, rfl, ?_⟩; replace HO_5 := As (RB (ro HO_5.out) hb); replace HO_26 := As (RB (ro HO_26.out) hb); replace BK237 := As (YB (g := gb237) (o := .cells #[.int .i64 a0_0, .string a0_1, .int .i64 a0_2, .int .i64 a0_3, .int .i64 a0_4, .int .i64 a0_5, .int .i64 a0_6, .string a0_7] 30 (0, 0)) (bk BK237.out) hb); replace HB := As (XT (be HB.out) hb); (try clear hb); (try clear hb2); (try clear hk); (try clear hi)) | ((with_reducible refine gate_builtin (b := .append) (xs := #[.tmp 33, .tmp 39]) rfl ?_); at_builtin; refine Kd.R_append Kd.string (w0 := w) w.heap.size rfl (.tmp 33) (.tmp 39) 47 9 (.string ⟨#[]⟩) 16 rfl Tryz.underlying47 info9 rfl (by decide) (by omega) u5 x5_1 t294 [.string t294] (fun _ => True) (fun _ => False) rfl rfl ?aP (fun _ hk => hk.elim) ?aF ?aO ?aB ?aS ?aL ?_; (case aP => exact rfl); (case aB => exact (be HB.out)); (case aF => exact (fun _ _ => trivial)); (case aO => exact (ro HO_5.out)); (case aS => exact (XZ (be HB.out))); (case aL => have := LMc88.out; omega); intro v296 w91 ho hb hg hat; rw [← Ny295.out] at ho; have n0_ := As (Kd.R_over' (ro HO_26.out) (Kd.R_typed (ro HO_5.out)) (by decide) hg); have n1_ := As (blk_grown (g := gb237) (o := .cells #[.int .i64 a0_0, .string a0_1, .int .i64 a0_2, .int .i64 a0_3, .int .i64 a0_4, .int .i64 a0_5, .int .i64 a0_6, .string a0_7] 30 (0, 0)) (bk BK237.out) hg (Kd.R_ne HO_5.out BK237.out (by decide))); have n2_ := As (hb); have n3_ := As (ho); clear HO_26; clear BK237; clear HB; clear HO_5; have HO_26 := n0_; have BK237 := n1_; have HB := n2_; have HO297 := n3_; clear n0_ n1_ n2_ n3_; clear ho hb hg hat))
     go_roundg k1
     case measure => have := HK1.out; omega
     case rel => exact ⟨(y295), (wrap64 (x6_1 + 1)), (wrap64 (x28_1 + 1)), sw, sw, H', ⟨by have := HK1.out; omega⟩, ⟨by (with_reducible repeat (first | apply RA | apply RN | apply RD)); exact HO297.out⟩, ⟨by (with_reducible repeat (first | apply RA | apply RN | apply RD)); exact HO_26.out⟩, ⟨by (with_reducible repeat (first | refine YN ?_ _ | refine YD ?_ | refine YA ?_ _)); exact BK237.out⟩, ⟨by repeat (first | (with_reducible first | exact HB.out | apply XA | apply XN | apply XD | refine XS ?_ GE237.out) | exact HB.out)⟩⟩
    ·go_wp2_with (first | ((with_reducible refine gate_callee (f := 18) rfl ?_); refine goesL_ (some 38) rfl rfl Tryz.func18 kr rfl #[.int .i64 a0_4] rfl sa ?_; (with_reducible refine (sItoa.calls a0_4 t290 _ A81.out ?side1).mono ?_); (case side1 => first | exact hG | exact GL.below hG (be HB.out) | (repeat (first | exact hG | apply GL.drewN | apply GL.drew | apply GL.alloc))); rintro e w84 ⟨rfl, hb⟩; refine ⟨_, rfl, ?_⟩; replace HO_5 := As (RB (ro HO_5.out) hb); replace HO_26 := As (RB (ro HO_26.out) hb); replace BK237 := As (YB (g := gb237) (o := .cells #[.int .i64 a0_0, .string a0_1, .int .i64 a0_2, .int .i64 a0_3, .int .i64 a0_4, .int .i64 a0_5, .int .i64 a0_6, .string a0_7] 30 (0, 0)) (bk BK237.out) hb); replace HB := As (XT (be HB.out) hb); (try clear hb); (try clear hb2); (try clear hk); (try clear hi)) | ((with_reducible refine gate_builtin (b := .append) (xs := #[.tmp 33, .tmp 39]) rfl ?_); at_builtin; refine Kd.R_append Kd.string (w0 := w) w.heap.size rfl (.tmp 33) (.tmp 39) 47 9 (.string ⟨#[]⟩) 16 rfl Tryz.underlying47 info9 rfl (by decide) (by omega) u5 x5_1 t290 [.string t290] (fun _ => True) (fun _ => False) rfl rfl ?aP (fun _ hk => hk.elim) ?aF ?aO ?aB ?aS ?aL ?_; (case aP => exact rfl); (case aB => exact (be HB.out)); (case aF => exact (fun _ _ => trivial)); (case aO => exact (ro HO_5.out)); (case aS => exact (XZ (be HB.out))); (case aL => have := LMc82.out; omega); intro v292 w85 ho hb hg hat; rw [← Ny291.out] at ho; have n0_ := As (Kd.R_over' (ro HO_26.out) (Kd.R_typed (ro HO_5.out)) (by decide) hg); have n1_ := As (blk_grown (g := gb237) (o := .cells #[.int .i64 a0_0, .string a0_1, .int .i64 a0_2, .int .i64 a0_3, .int .i64 a0_4, .int .i64 a0_5, .int .i64 a0_6, .string a0_7] 30 (0, 0)) (bk BK237.out) hg (Kd.R_ne HO_5.out BK237.out (by decide))); have n2_ := As (hb); have n3_ := As (ho); clear HO_26; clear BK237; clear HB; clear HO_5; have HO_26 := n0_; have BK237 := n1_; have HB := n2_; have HO293 := n3_; clear n0_ n1_ n2_ n3_; clear ho hb hg hat))
     go_roundg k1
     case measure => have := HK1.out; omega
     case rel => exact ⟨(y291), (wrap64 (x6_1 + 1)), (wrap64 (x28_1 + 1)), sw, sw, H', ⟨by have := HK1.out; omega⟩, ⟨by (with_reducible repeat (first | apply RA | apply RN | apply RD)); exact HO293.out⟩, ⟨by (with_reducible repeat (first | apply RA | apply RN | apply RD)); exact HO_26.out⟩, ⟨by (with_reducible repeat (first | refine YN ?_ _ | refine YD ?_ | refine YA ?_ _)); exact BK237.out⟩, ⟨by repeat (first | (with_reducible first | exact HB.out | apply XA | apply XN | apply XD | refine XS ?_ GE237.out) | exact HB.out)⟩⟩
    ·go_wp2_with (first | ((with_reducible refine gate_callee (f := 18) rfl ?_); refine goesL_ (some 38) rfl rfl Tryz.func18 kr rfl #[.int .i64 a0_3] rfl sa ?_; (with_reducible refine (sItoa.calls a0_3 t286 _ A75.out ?side1).mono ?_); (case side1 => first | exact hG | exact GL.below hG (be HB.out) | (repeat (first | exact hG | apply GL.drewN | apply GL.drew | apply GL.alloc))); rintro e w78 ⟨rfl, hb⟩; refine ⟨_, rfl, ?_⟩; replace HO_5 := As (RB (ro HO_5.out) hb); replace HO_26 := As (RB (ro HO_26.out) hb); replace BK237 := As (YB (g := gb237) (o := .cells #[.int .i64 a0_0, .string a0_1, .int .i64 a0_2, .int .i64 a0_3, .int .i64 a0_4, .int .i64 a0_5, .int .i64 a0_6, .string a0_7] 30 (0, 0)) (bk BK237.out) hb); replace HB := As (XT (be HB.out) hb); (try clear hb); (try clear hb2); (try clear hk); (try clear hi)) | ((with_reducible refine gate_builtin (b := .append) (xs := #[.tmp 33, .tmp 39]) rfl ?_); at_builtin; refine Kd.R_append Kd.string (w0 := w) w.heap.size rfl (.tmp 33) (.tmp 39) 47 9 (.string ⟨#[]⟩) 16 rfl Tryz.underlying47 info9 rfl (by decide) (by omega) u5 x5_1 t286 [.string t286] (fun _ => True) (fun _ => False) rfl rfl ?aP (fun _ hk => hk.elim) ?aF ?aO ?aB ?aS ?aL ?_; (case aP => exact rfl); (case aB => exact (be HB.out)); (case aF => exact (fun _ _ => trivial)); (case aO => exact (ro HO_5.out)); (case aS => exact (XZ (be HB.out))); (case aL => have := LMc76.out; omega); intro v288 w79 ho hb hg hat; rw [← Ny287.out] at ho; have n0_ := As (Kd.R_over' (ro HO_26.out) (Kd.R_typed (ro HO_5.out)) (by decide) hg); have n1_ := As (blk_grown (g := gb237) (o := .cells #[.int .i64 a0_0, .string a0_1, .int .i64 a0_2, .int .i64 a0_3, .int .i64 a0_4, .int .i64 a0_5, .int .i64 a0_6, .string a0_7] 30 (0, 0)) (bk BK237.out) hg (Kd.R_ne HO_5.out BK237.out (by decide))); have n2_ := As (hb); have n3_ := As (ho); clear HO_26; clear BK237; clear HB; clear HO_5; have HO_26 := n0_; have BK237 := n1_; have HB := n2_; have HO289 := n3_; clear n0_ n1_ n2_ n3_; clear ho hb hg hat))
     go_roundg k1
     case measure => have := HK1.out; omega
     case rel => exact ⟨(y287), (wrap64 (x6_1 + 1)), (wrap64 (x28_1 + 1)), sw, sw, H', ⟨by have := HK1.out; omega⟩, ⟨by (with_reducible repeat (first | apply RA | apply RN | apply RD)); exact HO289.out⟩, ⟨by (with_reducible repeat (first | apply RA | apply RN | apply RD)); exact HO_26.out⟩, ⟨by (with_reducible repeat (first | refine YN ?_ _ | refine YD ?_ | refine YA ?_ _)); exact BK237.out⟩, ⟨by repeat (first | (with_reducible first | exact HB.out | apply XA | apply XN | apply XD | refine XS ?_ GE237.out) | exact HB.out)⟩⟩
    ·go_wp2_with (first | ((with_reducible refine gate_callee (f := 18) rfl ?_); refine goesL_ (some 38) rfl rfl Tryz.func18 kr rfl #[.int .i64 a0_2] rfl sa ?_; (with_reducible refine (sItoa.calls a0_2 t282 _ A69.out ?side1).mono ?_); (case side1 => first | exact hG | exact GL.below hG (be HB.out) | (repeat (first | exact hG | apply GL.drewN | apply GL.drew | apply GL.alloc))); rintro e w72 ⟨rfl, hb⟩; refine ⟨_, rfl, ?_⟩; replace HO_5 := As (RB (ro HO_5.out) hb); replace HO_26 := As (RB (ro HO_26.out) hb); replace BK237 := As (YB (g := gb237) (o := .cells #[.int .i64 a0_0, .string a0_1, .int .i64 a0_2, .int .i64 a0_3, .int .i64 a0_4, .int .i64 a0_5, .int .i64 a0_6, .string a0_7] 30 (0, 0)) (bk BK237.out) hb); replace HB := As (XT (be HB.out) hb); (try clear hb); (try clear hb2); (try clear hk); (try clear hi)) | ((with_reducible refine gate_builtin (b := .append) (xs := #[.tmp 33, .tmp 39]) rfl ?_); at_builtin; refine Kd.R_append Kd.string (w0 := w) w.heap.size rfl (.tmp 33) (.tmp 39) 47 9 (.string ⟨#[]⟩) 16 rfl Tryz.underlying47 info9 rfl (by decide) (by omega) u5 x5_1 t282 [.string t282] (fun _ => True) (fun _ => False) rfl rfl ?aP (fun _ hk => hk.elim) ?aF ?aO ?aB ?aS ?aL ?_; (case aP => exact rfl); (case aB => exact (be HB.out)); (case aF => exact (fun _ _ => trivial)); (case aO => exact (ro HO_5.out)); (case aS => exact (XZ (be HB.out))); (case aL => have := LMc70.out; omega); intro v284 w73 ho hb hg hat; rw [← Ny283.out] at ho; have n0_ := As (Kd.R_over' (ro HO_26.out) (Kd.R_typed (ro HO_5.out)) (by decide) hg); have n1_ := As (blk_grown (g := gb237) (o := .cells #[.int .i64 a0_0, .string a0_1, .int .i64 a0_2, .int .i64 a0_3, .int .i64 a0_4, .int .i64 a0_5, .int .i64 a0_6, .string a0_7] 30 (0, 0)) (bk BK237.out) hg (Kd.R_ne HO_5.out BK237.out (by decide))); have n2_ := As (hb); have n3_ := As (ho); clear HO_26; clear BK237; clear HB; clear HO_5; have HO_26 := n0_; have BK237 := n1_; have HB := n2_; have HO285 := n3_; clear n0_ n1_ n2_ n3_; clear ho hb hg hat))
     go_roundg k1
     case measure => have := HK1.out; omega
     case rel => exact ⟨(y283), (wrap64 (x6_1 + 1)), (wrap64 (x28_1 + 1)), sw, sw, H', ⟨by have := HK1.out; omega⟩, ⟨by (with_reducible repeat (first | apply RA | apply RN | apply RD)); exact HO285.out⟩, ⟨by (with_reducible repeat (first | apply RA | apply RN | apply RD)); exact HO_26.out⟩, ⟨by (with_reducible repeat (first | refine YN ?_ _ | refine YD ?_ | refine YA ?_ _)); exact BK237.out⟩, ⟨by repeat (first | (with_reducible first | exact HB.out | apply XA | apply XN | apply XD | refine XS ?_ GE237.out) | exact HB.out)⟩⟩
    ·go_wp2_with (first | ((with_reducible refine gate_callee (f := 17) rfl ?_); refine goesL_ (some 64) rfl rfl Tryz.func17 kr rfl #[.int .i64 a0_6, .string (⟨#[97, 99, 102]⟩ : ByteArray)] rfl sa ?_; (with_reducible refine (oL.calls k1 a0_6 (⟨#[97, 99, 102]⟩ : ByteArray) t276 (some q278) _ A61.out ?side1).mono ?_); (case side1 => first | exact hG | exact GL.below hG (be HB.out) | (repeat (first | exact hG | apply GL.drewN | apply GL.drew | apply GL.alloc))); rintro e w67 ⟨rfl, hb⟩; refine ⟨_, rfl, ?_⟩; replace HO_5 := As (RB (ro HO_5.out) hb); replace HO_26 := As (RB (ro HO_26.out) hb); replace BK237 := As (YB (g := gb237) (o := .cells #[.int .i64 a0_0, .string a0_1, .int .i64 a0_2, .int .i64 a0_3, .int .i64 a0_4, .int .i64 a0_5, .int .i64 a0_6, .string a0_7] 30 (0, 0)) (bk BK237.out) hb); replace HB := As (XT (be HB.out) hb); (try clear hb); (try clear hb2); (try clear hk); (try clear hi); (try simp only [errW_none, errW_some])))
     go_ret2
     exact ⟨by first | rfl | (simp [errW_none, errW_some] <;> rfl) | (simp [*, errW_none, errW_some] <;> rfl), by repeat (first | (with_reducible first | exact HB.out | apply XA | apply XN | apply XD | refine XS ?_ GE237.out) | exact HB.out)⟩
    ·go_wp2_with (first | ((with_reducible refine gate_callee (f := 17) rfl ?_); refine goesL_ (some 64) rfl rfl Tryz.func17 kr rfl #[.int .i64 a0_6, .string (⟨#[97, 99, 102]⟩ : ByteArray)] rfl sa ?_; (with_reducible refine (oL.calls k1 a0_6 (⟨#[97, 99, 102]⟩ : ByteArray) t276 none _ A61.out ?side1).mono ?_); (case side1 => first | exact hG | exact GL.below hG (be HB.out) | (repeat (first | exact hG | apply GL.drewN | apply GL.drew | apply GL.alloc))); rintro e w64 ⟨rfl, hb⟩; refine ⟨_, rfl, ?_⟩; replace HO_5 := As (RB (ro HO_5.out) hb); replace HO_26 := As (RB (ro HO_26.out) hb); replace BK237 := As (YB (g := gb237) (o := .cells #[.int .i64 a0_0, .string a0_1, .int .i64 a0_2, .int .i64 a0_3, .int .i64 a0_4, .int .i64 a0_5, .int .i64 a0_6, .string a0_7] 30 (0, 0)) (bk BK237.out) hb); replace HB := As (XT (be HB.out) hb); (try clear hb); (try clear hb2); (try clear hk); (try clear hi); (try simp only [errW_none, errW_some])) | ((with_reducible refine gate_builtin (b := .append) (xs := #[.tmp 70, .tmp 72]) rfl ?_); at_builtin; refine Kd.R_append Kd.string (w0 := w) w.heap.size rfl (.tmp 70) (.tmp 72) 47 9 (.string ⟨#[]⟩) 16 rfl Tryz.underlying47 info9 rfl (by decide) (by omega) u5 x5_1 t276 [.string t276] (fun _ => True) (fun _ => False) rfl rfl ?aP (fun _ hk => hk.elim) ?aF ?aO ?aB ?aS ?aL ?_; (case aP => exact rfl); (case aB => exact (be HB.out)); (case aF => exact (fun _ _ => trivial)); (case aO => exact (ro HO_5.out)); (case aS => exact (XZ (be HB.out))); (case aL => have := LMc62.out; omega); intro v280 w65 ho hb hg hat; rw [← Ny279.out] at ho; have n0_ := As (Kd.R_over' (ro HO_26.out) (Kd.R_typed (ro HO_5.out)) (by decide) hg); have n1_ := As (blk_grown (g := gb237) (o := .cells #[.int .i64 a0_0, .string a0_1, .int .i64 a0_2, .int .i64 a0_3, .int .i64 a0_4, .int .i64 a0_5, .int .i64 a0_6, .string a0_7] 30 (0, 0)) (bk BK237.out) hg (Kd.R_ne HO_5.out BK237.out (by decide))); have n2_ := As (hb); have n3_ := As (ho); clear HO_26; clear BK237; clear HB; clear HO_5; have HO_26 := n0_; have BK237 := n1_; have HB := n2_; have HO281 := n3_; clear n0_ n1_ n2_ n3_; clear ho hb hg hat))
     go_roundg k1
     case measure => have := HK1.out; omega
     case rel => exact ⟨(y279), (wrap64 (x6_1 + 1)), (wrap64 (x28_1 + 1)), sw, sw, H', ⟨by have := HK1.out; omega⟩, ⟨by (with_reducible repeat (first | apply RA | apply RN | apply RD)); exact HO281.out⟩, ⟨by (with_reducible repeat (first | apply RA | apply RN | apply RD)); exact HO_26.out⟩, ⟨by (with_reducible repeat (first | refine YN ?_ _ | refine YD ?_ | refine YA ?_ _)); exact BK237.out⟩, ⟨by repeat (first | (with_reducible first | exact HB.out | apply XA | apply XN | apply XD | refine XS ?_ GE237.out) | exact HB.out)⟩⟩
    ·go_wp2_with (first | ((with_reducible refine gate_callee (f := 17) rfl ?_); refine goesL_ (some 64) rfl rfl Tryz.func17 kr rfl #[.int .i64 a0_5, .string (⟨#[97, 99, 102]⟩ : ByteArray)] rfl sa ?_; (with_reducible refine (oL.calls k1 a0_5 (⟨#[97, 99, 102]⟩ : ByteArray) t270 (some q272) _ A53.out ?side1).mono ?_); (case side1 => first | exact hG | exact GL.below hG (be HB.out) | (repeat (first | exact hG | apply GL.drewN | apply GL.drew | apply GL.alloc))); rintro e w59 ⟨rfl, hb⟩; refine ⟨_, rfl, ?_⟩; replace HO_5 := As (RB (ro HO_5.out) hb); replace HO_26 := As (RB (ro HO_26.out) hb); replace BK237 := As (YB (g := gb237) (o := .cells #[.int .i64 a0_0, .string a0_1, .int .i64 a0_2, .int .i64 a0_3, .int .i64 a0_4, .int .i64 a0_5, .int .i64 a0_6, .string a0_7] 30 (0, 0)) (bk BK237.out) hb); replace HB := As (XT (be HB.out) hb); (try clear hb); (try clear hb2); (try clear hk); (try clear hi); (try simp only [errW_none, errW_some])))
     go_ret2
     exact ⟨by first | rfl | (simp [errW_none, errW_some] <;> rfl) | (simp [*, errW_none, errW_some] <;> rfl), by repeat (first | (with_reducible first | exact HB.out | apply XA | apply XN | apply XD | refine XS ?_ GE237.out) | exact HB.out)⟩
    ·go_wp2_with (first | ((with_reducible refine gate_callee (f := 17) rfl ?_); refine goesL_ (some 64) rfl rfl Tryz.func17 kr rfl #[.int .i64 a0_5, .string (⟨#[97, 99, 102]⟩ : ByteArray)] rfl sa ?_; (with_reducible refine (oL.calls k1 a0_5 (⟨#[97, 99, 102]⟩ : ByteArray) t270 none _ A53.out ?side1).mono ?_); (case side1 => first | exact hG | exact GL.below hG (be HB.out) | (repeat (first | exact hG | apply GL.drewN | apply GL.drew | apply GL.alloc))); rintro e w56 ⟨rfl, hb⟩; refine ⟨_, rfl, ?_⟩; replace HO_5 := As (RB (ro HO_5.out) hb); replace HO_26 := As (RB (ro HO_26.out) hb); replace BK237 := As (YB (g := gb237) (o := .cells #[.int .i64 a0_0, .string a0_1, .int .i64 a0_2, .int .i64 a0_3, .int .i64 a0_4, .int .i64 a0_5, .int .i64 a0_6, .string a0_7] 30 (0, 0)) (bk BK237.out) hb); replace HB := As (XT (be HB.out) hb); (try clear hb); (try clear hb2); (try clear hk); (try clear hi); (try simp only [errW_none, errW_some])) | ((with_reducible refine gate_builtin (b := .append) (xs := #[.tmp 70, .tmp 72]) rfl ?_); at_builtin; refine Kd.R_append Kd.string (w0 := w) w.heap.size rfl (.tmp 70) (.tmp 72) 47 9 (.string ⟨#[]⟩) 16 rfl Tryz.underlying47 info9 rfl (by decide) (by omega) u5 x5_1 t270 [.string t270] (fun _ => True) (fun _ => False) rfl rfl ?aP (fun _ hk => hk.elim) ?aF ?aO ?aB ?aS ?aL ?_; (case aP => exact rfl); (case aB => exact (be HB.out)); (case aF => exact (fun _ _ => trivial)); (case aO => exact (ro HO_5.out)); (case aS => exact (XZ (be HB.out))); (case aL => have := LMc54.out; omega); intro v274 w57 ho hb hg hat; rw [← Ny273.out] at ho; have n0_ := As (Kd.R_over' (ro HO_26.out) (Kd.R_typed (ro HO_5.out)) (by decide) hg); have n1_ := As (blk_grown (g := gb237) (o := .cells #[.int .i64 a0_0, .string a0_1, .int .i64 a0_2, .int .i64 a0_3, .int .i64 a0_4, .int .i64 a0_5, .int .i64 a0_6, .string a0_7] 30 (0, 0)) (bk BK237.out) hg (Kd.R_ne HO_5.out BK237.out (by decide))); have n2_ := As (hb); have n3_ := As (ho); clear HO_26; clear BK237; clear HB; clear HO_5; have HO_26 := n0_; have BK237 := n1_; have HB := n2_; have HO275 := n3_; clear n0_ n1_ n2_ n3_; clear ho hb hg hat))
     go_roundg k1
     case measure => have := HK1.out; omega
     case rel => exact ⟨(y273), (wrap64 (x6_1 + 1)), (wrap64 (x28_1 + 1)), sw, sw, H', ⟨by have := HK1.out; omega⟩, ⟨by (with_reducible repeat (first | apply RA | apply RN | apply RD)); exact HO275.out⟩, ⟨by (with_reducible repeat (first | apply RA | apply RN | apply RD)); exact HO_26.out⟩, ⟨by (with_reducible repeat (first | refine YN ?_ _ | refine YD ?_ | refine YA ?_ _)); exact BK237.out⟩, ⟨by repeat (first | (with_reducible first | exact HB.out | apply XA | apply XN | apply XD | refine XS ?_ GE237.out) | exact HB.out)⟩⟩
    ·go_wp2_with (first | ((with_reducible refine gate_callee (f := 17) rfl ?_); refine goesL_ (some 64) rfl rfl Tryz.func17 kr rfl #[.int .i64 a0_4, .string (⟨#[97, 99, 102]⟩ : ByteArray)] rfl sa ?_; (with_reducible refine (oL.calls k1 a0_4 (⟨#[97, 99, 102]⟩ : ByteArray) t264 (some q266) _ A45.out ?side1).mono ?_); (case side1 => first | exact hG | exact GL.below hG (be HB.out) | (repeat (first | exact hG | apply GL.drewN | apply GL.drew | apply GL.alloc))); rintro e w51 ⟨rfl, hb⟩; refine ⟨_, rfl, ?_⟩; replace HO_5 := As (RB (ro HO_5.out) hb); replace HO_26 := As (RB (ro HO_26.out) hb); replace BK237 := As (YB (g := gb237) (o := .cells #[.int .i64 a0_0, .string a0_1, .int .i64 a0_2, .int .i64 a0_3, .int .i64 a0_4, .int .i64 a0_5, .int .i64 a0_6, .string a0_7] 30 (0, 0)) (bk BK237.out) hb); replace HB := As (XT (be HB.out) hb); (try clear hb); (try clear hb2); (try clear hk); (try clear hi); (try simp only [errW_none, errW_some])))
     go_ret2
     exact ⟨by first | rfl | (simp [errW_none, errW_some] <;> rfl) | (simp [*, errW_none, errW_some] <;> rfl), by repeat (first | (with_reducible first | exact HB.out | apply XA | apply XN | apply XD | refine XS ?_ GE237.out) | exact HB.out)⟩
    ·go_wp2_with (first | ((with_reducible refine gate_callee (f := 17) rfl ?_); refine goesL_ (some 64) rfl rfl Tryz.func17 kr rfl #[.int .i64 a0_4, .string (⟨#[97, 99, 102]⟩ : ByteArray)] rfl sa ?_; (with_reducible refine (oL.calls k1 a0_4 (⟨#[97, 99, 102]⟩ : ByteArray) t264 none _ A45.out ?side1).mono ?_); (case side1 => first | exact hG | exact GL.below hG (be HB.out) | (repeat (first | exact hG | apply GL.drewN | apply GL.drew | apply GL.alloc))); rintro e w48 ⟨rfl, hb⟩; refine ⟨_, rfl, ?_⟩; replace HO_5 := As (RB (ro HO_5.out) hb); replace HO_26 := As (RB (ro HO_26.out) hb); replace BK237 := As (YB (g := gb237) (o := .cells #[.int .i64 a0_0, .string a0_1, .int .i64 a0_2, .int .i64 a0_3, .int .i64 a0_4, .int .i64 a0_5, .int .i64 a0_6, .string a0_7] 30 (0, 0)) (bk BK237.out) hb); replace HB := As (XT (be HB.out) hb); (try clear hb); (try clear hb2); (try clear hk); (try clear hi); (try simp only [errW_none, errW_some])) | ((with_reducible refine gate_builtin (b := .append) (xs := #[.tmp 70, .tmp 72]) rfl ?_); at_builtin; refine Kd.R_append Kd.string (w0 := w) w.heap.size rfl (.tmp 70) (.tmp 72) 47 9 (.string ⟨#[]⟩) 16 rfl Tryz.underlying47 info9 rfl (by decide) (by omega) u5 x5_1 t264 [.string t264] (fun _ => True) (fun _ => False) rfl rfl ?aP (fun _ hk => hk.elim) ?aF ?aO ?aB ?aS ?aL ?_; (case aP => exact rfl); (case aB => exact (be HB.out)); (case aF => exact (fun _ _ => trivial)); (case aO => exact (ro HO_5.out)); (case aS => exact (XZ (be HB.out))); (case aL => have := LMc46.out; omega); intro v268 w49 ho hb hg hat; rw [← Ny267.out] at ho; have n0_ := As (Kd.R_over' (ro HO_26.out) (Kd.R_typed (ro HO_5.out)) (by decide) hg); have n1_ := As (blk_grown (g := gb237) (o := .cells #[.int .i64 a0_0, .string a0_1, .int .i64 a0_2, .int .i64 a0_3, .int .i64 a0_4, .int .i64 a0_5, .int .i64 a0_6, .string a0_7] 30 (0, 0)) (bk BK237.out) hg (Kd.R_ne HO_5.out BK237.out (by decide))); have n2_ := As (hb); have n3_ := As (ho); clear HO_26; clear BK237; clear HB; clear HO_5; have HO_26 := n0_; have BK237 := n1_; have HB := n2_; have HO269 := n3_; clear n0_ n1_ n2_ n3_; clear ho hb hg hat))
     go_roundg k1
     case measure => have := HK1.out; omega
     case rel => exact ⟨(y267), (wrap64 (x6_1 + 1)), (wrap64 (x28_1 + 1)), sw, sw, H', ⟨by have := HK1.out; omega⟩, ⟨by (with_reducible repeat (first | apply RA | apply RN | apply RD)); exact HO269.out⟩, ⟨by (with_reducible repeat (first | apply RA | apply RN | apply RD)); exact HO_26.out⟩, ⟨by (with_reducible repeat (first | refine YN ?_ _ | refine YD ?_ | refine YA ?_ _)); exact BK237.out⟩, ⟨by repeat (first | (with_reducible first | exact HB.out | apply XA | apply XN | apply XD | refine XS ?_ GE237.out) | exact HB.out)⟩⟩
    ·go_wp2_with (first | ((with_reducible refine gate_callee (f := 17) rfl ?_); refine goesL_ (some 64) rfl rfl Tryz.func17 kr rfl #[.int .i64 a0_3, .string (⟨#[97, 99, 102]⟩ : ByteArray)] rfl sa ?_; (with_reducible refine (oL.calls k1 a0_3 (⟨#[97, 99, 102]⟩ : ByteArray) t258 (some q260) _ A37.out ?side1).mono ?_); (case side1 => first | exact hG | exact GL.below hG (be HB.out) | (repeat (first | exact hG | apply GL.drewN | apply GL.drew | apply GL.alloc))); rintro e w43 ⟨rfl, hb⟩; refine ⟨_, rfl, ?_⟩; replace HO_5 := As (RB (ro HO_5.out) hb); replace HO_26 := As (RB (ro HO_26.out) hb); replace BK237 := As (YB (g := gb237) (o := .cells #[.int .i64 a0_0, .string a0_1, .int .i64 a0_2, .int .i64 a0_3, .int .i64 a0_4, .int .i64 a0_5, .int .i64 a0_6, .string a0_7] 30 (0, 0)) (bk BK237.out) hb); replace HB := As (XT (be HB.out) hb); (try clear hb); (try clear hb2); (try clear hk); (try clear hi); (try simp only [errW_none, errW_some])))
     go_ret2
     exact ⟨by first | rfl | (simp [errW_none, errW_some] <;> rfl) | (simp [*, errW_none, errW_some] <;> rfl), by repeat (first | (with_reducible first | exact HB.out | apply XA | apply XN | apply XD | refine XS ?_ GE237.out) | exact HB.out)⟩
    ·go_wp2_with (first | ((with_reducible refine gate_callee (f := 17) rfl ?_); refine goesL_ (some 64) rfl rfl Tryz.func17 kr rfl #[.int .i64 a0_3, .string (⟨#[97, 99, 102]⟩ : ByteArray)] rfl sa ?_; (with_reducible refine (oL.calls k1 a0_3 (⟨#[97, 99, 102]⟩ : ByteArray) t258 none _ A37.out ?side1).mono ?_); (case side1 => first | exact hG | exact GL.below hG (be HB.out) | (repeat (first | exact hG | apply GL.drewN | apply GL.drew | apply GL.alloc))); rintro e w40 ⟨rfl, hb⟩; refine ⟨_, rfl, ?_⟩; replace HO_5 := As (RB (ro HO_5.out) hb); replace HO_26 := As (RB (ro HO_26.out) hb); replace BK237 := As (YB (g := gb237) (o := .cells #[.int .i64 a0_0, .string a0_1, .int .i64 a0_2, .int .i64 a0_3, .int .i64 a0_4, .int .i64 a0_5, .int .i64 a0_6, .string a0_7] 30 (0, 0)) (bk BK237.out) hb); replace HB := As (XT (be HB.out) hb); (try clear hb); (try clear hb2); (try clear hk); (try clear hi); (try simp only [errW_none, errW_some])) | ((with_reducible refine gate_builtin (b := .append) (xs := #[.tmp 70, .tmp 72]) rfl ?_); at_builtin; refine Kd.R_append Kd.string (w0 := w) w.heap.size rfl (.tmp 70) (.tmp 72) 47 9 (.string ⟨#[]⟩) 16 rfl Tryz.underlying47 info9 rfl (by decide) (by omega) u5 x5_1 t258 [.string t258] (fun _ => True) (fun _ => False) rfl rfl ?aP (fun _ hk => hk.elim) ?aF ?aO ?aB ?aS ?aL ?_; (case aP => exact rfl); (case aB => exact (be HB.out)); (case aF => exact (fun _ _ => trivial)); (case aO => exact (ro HO_5.out)); (case aS => exact (XZ (be HB.out))); (case aL => have := LMc38.out; omega); intro v262 w41 ho hb hg hat; rw [← Ny261.out] at ho; have n0_ := As (Kd.R_over' (ro HO_26.out) (Kd.R_typed (ro HO_5.out)) (by decide) hg); have n1_ := As (blk_grown (g := gb237) (o := .cells #[.int .i64 a0_0, .string a0_1, .int .i64 a0_2, .int .i64 a0_3, .int .i64 a0_4, .int .i64 a0_5, .int .i64 a0_6, .string a0_7] 30 (0, 0)) (bk BK237.out) hg (Kd.R_ne HO_5.out BK237.out (by decide))); have n2_ := As (hb); have n3_ := As (ho); clear HO_26; clear BK237; clear HB; clear HO_5; have HO_26 := n0_; have BK237 := n1_; have HB := n2_; have HO263 := n3_; clear n0_ n1_ n2_ n3_; clear ho hb hg hat))
     go_roundg k1
     case measure => have := HK1.out; omega
     case rel => exact ⟨(y261), (wrap64 (x6_1 + 1)), (wrap64 (x28_1 + 1)), sw, sw, H', ⟨by have := HK1.out; omega⟩, ⟨by (with_reducible repeat (first | apply RA | apply RN | apply RD)); exact HO263.out⟩, ⟨by (with_reducible repeat (first | apply RA | apply RN | apply RD)); exact HO_26.out⟩, ⟨by (with_reducible repeat (first | refine YN ?_ _ | refine YD ?_ | refine YA ?_ _)); exact BK237.out⟩, ⟨by repeat (first | (with_reducible first | exact HB.out | apply XA | apply XN | apply XD | refine XS ?_ GE237.out) | exact HB.out)⟩⟩
    ·go_wp2_with (first | ((with_reducible refine gate_callee (f := 17) rfl ?_); refine goesL_ (some 64) rfl rfl Tryz.func17 kr rfl #[.int .i64 a0_2, .string (⟨#[97, 99, 102]⟩ : ByteArray)] rfl sa ?_; (with_reducible refine (oL.calls k1 a0_2 (⟨#[97, 99, 102]⟩ : ByteArray) t252 (some q254) _ A29.out ?side1).mono ?_); (case side1 => first | exact hG | exact GL.below hG (be HB.out) | (repeat (first | exact hG | apply GL.drewN | apply GL.drew | apply GL.alloc))); rintro e w35 ⟨rfl, hb⟩; refine ⟨_, rfl, ?_⟩; replace HO_5 := As (RB (ro HO_5.out) hb); replace HO_26 := As (RB (ro HO_26.out) hb); replace BK237 := As (YB (g := gb237) (o := .cells #[.int .i64 a0_0, .string a0_1, .int .i64 a0_2, .int .i64 a0_3, .int .i64 a0_4, .int .i64 a0_5, .int .i64 a0_6, .string a0_7] 30 (0, 0)) (bk BK237.out) hb); replace HB := As (XT (be HB.out) hb); (try clear hb); (try clear hb2); (try clear hk); (try clear hi); (try simp only [errW_none, errW_some])))
     go_ret2
     exact ⟨by first | rfl | (simp [errW_none, errW_some] <;> rfl) | (simp [*, errW_none, errW_some] <;> rfl), by repeat (first | (with_reducible first | exact HB.out | apply XA | apply XN | apply XD | refine XS ?_ GE237.out) | exact HB.out)⟩
    ·go_wp2_with (first | ((with_reducible refine gate_callee (f := 17) rfl ?_); refine goesL_ (some 64) rfl rfl Tryz.func17 kr rfl #[.int .i64 a0_2, .string (⟨#[97, 99, 102]⟩ : ByteArray)] rfl sa ?_; (with_reducible refine (oL.calls k1 a0_2 (⟨#[97, 99, 102]⟩ : ByteArray) t252 none _ A29.out ?side1).mono ?_); (case side1 => first | exact hG | exact GL.below hG (be HB.out) | (repeat (first | exact hG | apply GL.drewN | apply GL.drew | apply GL.alloc))); rintro e w32 ⟨rfl, hb⟩; refine ⟨_, rfl, ?_⟩; replace HO_5 := As (RB (ro HO_5.out) hb); replace HO_26 := As (RB (ro HO_26.out) hb); replace BK237 := As (YB (g := gb237) (o := .cells #[.int .i64 a0_0, .string a0_1, .int .i64 a0_2, .int .i64 a0_3, .int .i64 a0_4, .int .i64 a0_5, .int .i64 a0_6, .string a0_7] 30 (0, 0)) (bk BK237.out) hb); replace HB := As (XT (be HB.out) hb); (try clear hb); (try clear hb2); (try clear hk); (try clear hi); (try simp only [errW_none, errW_some])) | ((with_reducible refine gate_builtin (b := .append) (xs := #[.tmp 70, .tmp 72]) rfl ?_); at_builtin; refine Kd.R_append Kd.string (w0 := w) w.heap.size rfl (.tmp 70) (.tmp 72) 47 9 (.string ⟨#[]⟩) 16 rfl Tryz.underlying47 info9 rfl (by decide) (by omega) u5 x5_1 t252 [.string t252] (fun _ => True) (fun _ => False) rfl rfl ?aP (fun _ hk => hk.elim) ?aF ?aO ?aB ?aS ?aL ?_; (case aP => exact rfl); (case aB => exact (be HB.out)); (case aF => exact (fun _ _ => trivial)); (case aO => exact (ro HO_5.out)); (case aS => exact (XZ (be HB.out))); (case aL => have := LMc30.out; omega); intro v256 w33 ho hb hg hat; rw [← Ny255.out] at ho; have n0_ := As (Kd.R_over' (ro HO_26.out) (Kd.R_typed (ro HO_5.out)) (by decide) hg); have n1_ := As (blk_grown (g := gb237) (o := .cells #[.int .i64 a0_0, .string a0_1, .int .i64 a0_2, .int .i64 a0_3, .int .i64 a0_4, .int .i64 a0_5, .int .i64 a0_6, .string a0_7] 30 (0, 0)) (bk BK237.out) hg (Kd.R_ne HO_5.out BK237.out (by decide))); have n2_ := As (hb); have n3_ := As (ho); clear HO_26; clear BK237; clear HB; clear HO_5; have HO_26 := n0_; have BK237 := n1_; have HB := n2_; have HO257 := n3_; clear n0_ n1_ n2_ n3_; clear ho hb hg hat))
     go_roundg k1
     case measure => have := HK1.out; omega
     case rel => exact ⟨(y255), (wrap64 (x6_1 + 1)), (wrap64 (x28_1 + 1)), sw, sw, H', ⟨by have := HK1.out; omega⟩, ⟨by (with_reducible repeat (first | apply RA | apply RN | apply RD)); exact HO257.out⟩, ⟨by (with_reducible repeat (first | apply RA | apply RN | apply RD)); exact HO_26.out⟩, ⟨by (with_reducible repeat (first | refine YN ?_ _ | refine YD ?_ | refine YA ?_ _)); exact BK237.out⟩, ⟨by repeat (first | (with_reducible first | exact HB.out | apply XA | apply XN | apply XD | refine XS ?_ GE237.out) | exact HB.out)⟩⟩
    ·go_wp2_with (first | ((with_reducible refine gate_builtin (b := .append) (xs := #[.tmp 52, .tmp 55]) rfl ?_); at_builtin; refine Kd.R_append Kd.string (w0 := w) w.heap.size rfl (.tmp 52) (.tmp 55) 47 9 (.string ⟨#[]⟩) 16 rfl Tryz.underlying47 info9 rfl (by decide) (by omega) u5 x5_1 a0_7 [.string a0_7] (fun _ => True) (fun _ => False) rfl rfl ?aP (fun _ hk => hk.elim) ?aF ?aO ?aB ?aS ?aL ?_; (case aP => exact rfl); (case aB => exact (be HB.out)); (case aF => exact (fun _ _ => trivial)); (case aO => exact (ro HO_5.out)); (case aS => exact (XZ (be HB.out))); (case aL => have := LMc24.out; omega); intro v250 w26 ho hb hg hat; rw [← Ny249.out] at ho; have n0_ := As (Kd.R_over' (ro HO_26.out) (Kd.R_typed (ro HO_5.out)) (by decide) hg); have n1_ := As (blk_grown (g := gb237) (o := .cells #[.int .i64 a0_0, .string a0_1, .int .i64 a0_2, .int .i64 a0_3, .int .i64 a0_4, .int .i64 a0_5, .int .i64 a0_6, .string a0_7] 30 (0, 0)) (bk BK237.out) hg (Kd.R_ne HO_5.out BK237.out (by decide))); have n2_ := As (hb); have n3_ := As (ho); clear HO_26; clear BK237; clear HB; clear HO_5; have HO_26 := n0_; have BK237 := n1_; have HB := n2_; have HO251 := n3_; clear n0_ n1_ n2_ n3_; clear ho hb hg hat))
     go_roundg k1
     case measure => have := HK1.out; omega
     case rel => exact ⟨(y249), (x6_1), (wrap64 (x28_1 + 1)), sw, sw, H', ⟨by have := HK1.out; omega⟩, ⟨by (with_reducible repeat (first | apply RA | apply RN | apply RD)); exact HO251.out⟩, ⟨by (with_reducible repeat (first | apply RA | apply RN | apply RD)); exact HO_26.out⟩, ⟨by (with_reducible repeat (first | refine YN ?_ _ | refine YD ?_ | refine YA ?_ _)); exact BK237.out⟩, ⟨by repeat (first | (with_reducible first | exact HB.out | apply XA | apply XN | apply XD | refine XS ?_ GE237.out) | exact HB.out)⟩⟩
    ·go_wp2_with (first | ((with_reducible refine gate_builtin (b := .append) (xs := #[.tmp 45, .tmp 48]) rfl ?_); at_builtin; refine Kd.R_append Kd.string (w0 := w) w.heap.size rfl (.tmp 45) (.tmp 48) 47 9 (.string ⟨#[]⟩) 16 rfl Tryz.underlying47 info9 rfl (by decide) (by omega) u5 x5_1 a0_1 [.string a0_1] (fun _ => True) (fun _ => False) rfl rfl ?aP (fun _ hk => hk.elim) ?aF ?aO ?aB ?aS ?aL ?_; (case aP => exact rfl); (case aB => exact (be HB.out)); (case aF => exact (fun _ _ => trivial)); (case aO => exact (ro HO_5.out)); (case aS => exact (XZ (be HB.out))); (case aL => have := LMc20.out; omega); intro v247 w22 ho hb hg hat; rw [← Ny246.out] at ho; have n0_ := As (Kd.R_over' (ro HO_26.out) (Kd.R_typed (ro HO_5.out)) (by decide) hg); have n1_ := As (blk_grown (g := gb237) (o := .cells #[.int .i64 a0_0, .string a0_1, .int .i64 a0_2, .int .i64 a0_3, .int .i64 a0_4, .int .i64 a0_5, .int .i64 a0_6, .string a0_7] 30 (0, 0)) (bk BK237.out) hg (Kd.R_ne HO_5.out BK237.out (by decide))); have n2_ := As (hb); have n3_ := As (ho); clear HO_26; clear BK237; clear HB; clear HO_5; have HO_26 := n0_; have BK237 := n1_; have HB := n2_; have HO248 := n3_; clear n0_ n1_ n2_ n3_; clear ho hb hg hat))
     go_roundg k1
     case measure => have := HK1.out; omega
     case rel => exact ⟨(y246), (x6_1), (wrap64 (x28_1 + 1)), sw, sw, H', ⟨by have := HK1.out; omega⟩, ⟨by (with_reducible repeat (first | apply RA | apply RN | apply RD)); exact HO248.out⟩, ⟨by (with_reducible repeat (first | apply RA | apply RN | apply RD)); exact HO_26.out⟩, ⟨by (with_reducible repeat (first | refine YN ?_ _ | refine YD ?_ | refine YA ?_ _)); exact BK237.out⟩, ⟨by repeat (first | (with_reducible first | exact HB.out | apply XA | apply XN | apply XD | refine XS ?_ GE237.out) | exact HB.out)⟩⟩

end Go.Proofs.YtdakfmldbddokaaGreatDoor.P
-- SHRUNK
-- PACKED
-- PACKED2
