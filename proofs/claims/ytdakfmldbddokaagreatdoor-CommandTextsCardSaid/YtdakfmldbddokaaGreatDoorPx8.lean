-- written by myprint.py (this claim's own program, after the kit's print)
import Derived.Test.YtdakfmldbddokaaGreatDoorPx0
import Derived.Test.YtdakfmldbddokaaGreatDoorVaMay
import Derived.Test.YtdakfmldbddokaaGreatDoorVaShelf
import Derived.Test.YtdakfmldbddokaaGreatDoorPack
namespace Go.Proofs.YtdakfmldbddokaaGreatDoor.P
open Go.RowKit Go.Proofs.YtdakfmldbddokaaGreatDoorW.PrintWords Go.Proofs.YtdakfmldbddokaaGreatDoorW.PrintLast Go.Proofs.YtdakfmldbddokaaGreatDoorW.PrintMore
attribute [local go_sem] max2_int min2_int max_two min_two max_three min_three max_four min_four   -- for this text's walks alone
set_option linter.unusedVariables false
set_option linter.unusedSimpArgs false

/-! ### oL: function 17 -/
mutual
def oL.j0 : Nat → Int → ByteArray → Bool → Option (ByteArray × Option Int)
 | 0, _, _, _ => none
 | k + 1, x0, x1, x25 => if x25 = true then (some ((⟨#[]⟩ : ByteArray), some 1)) else (oL.l0 k x0 x1 ([] : List ByteArray) (x1.size : Int) 0)
def oL.l0 : Nat → Int → ByteArray → List ByteArray → Int → Int → Option (ByteArray × Option Int)
 | 0, _, _, _, _, _ => none
 | k + 1, x0, x1, x6, x28, x29 => if x29 < x28 then (if 0 ≤ x29 then (if (Go.bits .and .i64 (shr .i64 x0 x29) 1) = 1 then (if x29 ≤ (wrap64 (x29 + 1)) then (if (wrap64 (x29 + 1)) ≤ (x1.size : Int) then (if x6.length < 8796093022208 then (oL.l0 k x0 x1 (x6 ++ [x1.extract (x29 : Int).toNat ((wrap64 (x29 + 1)) : Int).toNat]) x28 (wrap64 (x29 + 1))) else (none)) else (none)) else (none)) else (oL.l0 k x0 x1 x6 x28 (wrap64 (x29 + 1)))) else (none)) else (if (x6.length : Int) = 0 then (some ((⟨#[110]⟩ : ByteArray), none)) else ((stJ.f x6 (⟨#[44]⟩ : ByteArray)).bind fun t236 => (some (t236, none))))
end
def oL.f (k : Nat) (a0 : Int) (a1 : ByteArray) : Option (ByteArray × Option Int) := (vMay.f a1).bind fun t231 => (if t231 = true then ((stC.f a1 (⟨#[110]⟩ : ByteArray)).bind fun t232 => (if t232 = true then (oL.j0 k a0 a1 true) else (if a0 < 0 then (oL.j0 k a0 a1 true) else (oL.j0 k a0 a1 (decide (a0 ≥ (shl .i64 1 (a1.size : Int)))))))) else (oL.j0 k a0 a1 true))
theorem oL.mono_l : ∀ k, (∀ y0 y1 y2, LeO (oL.j0 k y0 y1 y2) (oL.j0 (k + 1) y0 y1 y2)) ∧ (∀ y0 y1 y2 y3 y4, LeO (oL.l0 k y0 y1 y2 y3 y4) (oL.l0 (k + 1) y0 y1 y2 y3 y4))
 | 0 => ⟨fun _ _ _ r h => by simp [oL.j0] at h, fun _ _ _ _ _ r h => by simp [oL.l0] at h⟩
 | k + 1 => by
  obtain ⟨ih0, ih1⟩ := oL.mono_l k;refine ⟨?_, ?_⟩
  ·intro y0 y1 y2;unfold oL.j0
   repeat' (with_reducible first|apply ih0|apply ih1|apply LeO.refl|apply LeO.none|refine LeO.ite ?_ ?_|refine LeO.bind ?_ (fun _=>?_))
  ·intro y0 y1 y2 y3 y4;unfold oL.l0
   repeat' (with_reducible first|apply ih0|apply ih1|apply LeO.refl|apply LeO.none|refine LeO.ite ?_ ?_|refine LeO.bind ?_ (fun _=>?_))
theorem oL.mono : ∀ a0 a1 k, LeO (oL.f k a0 a1) (oL.f (k + 1) a0 a1) := by
 intro a0 a1 k;obtain ⟨ih0, ih1⟩ := oL.mono_l k;unfold oL.f
 repeat' (with_reducible first|apply ih0|apply ih1|apply LeO.refl|apply LeO.none|refine LeO.ite ?_ ?_|refine LeO.bind ?_ (fun _=>?_))
set_option maxHeartbeats 8000000 in
set_option maxRecDepth 100000 in
theorem oL.calls (k : Nat) (a0 : Int) (a1 : ByteArray) (r1 : ByteArray) (r2 : Option Int) (w : World) (h : oL.f k a0 a1 = some (r1, r2)) (hG : GL w) :
  Calls Tryz.prog 17 #[.int .i64 a0, .string a1] w fun e w' => e = .returned (.tuple #[.string r1, errW r2]) ∧ Below w.heap.size w w' := by
 have hu27 := Tryz.underlying27;have hu45 := Tryz.underlying45;have HB := As (Below.refl w.heap.size w);have H : ((vMay.f a1).bind fun t231 => (if t231 = true then ((stC.f a1 (⟨#[110]⟩ : ByteArray)).bind fun t232 => (if t232 = true then (oL.j0 k a0 a1 true) else (if a0 < 0 then (oL.j0 k a0 a1 true) else (oL.j0 k a0 a1 (decide (a0 ≥ (shl .i64 1 (a1.size : Int)))))))) else (oL.j0 k a0 a1 true))) = some (r1, r2) := h;clear h;have HC3 := As H;clear H
 go_enter Tryz.func17, Tryz.ntmps17
 go_upto_region 1 with (fail)
 go_cut [25] (fun v25 wc => ∃ (kq : Nat) (x25_2 : Bool), v25 = .bool x25_2 ∧ Aside0 (oL.j0 kq a0 a1 x25_2 = some (r1, r2)) ∧ Aside0 (kq ≤ k) ∧ Aside0 (Below w.heap.size w wc))
 case first =>
  have H := HC3.out;clear HC3;replace H := bE H;obtain ⟨t231, A40, H⟩ := H;replace H : (if t231 = true then ((stC.f a1 (⟨#[110]⟩ : ByteArray)).bind fun t232 => (if t232 = true then (oL.j0 k a0 a1 true) else (if a0 < 0 then (oL.j0 k a0 a1 true) else (oL.j0 k a0 a1 (decide (a0 ≥ (shl .i64 1 (a1.size : Int)))))))) else (oL.j0 k a0 a1 true)) = some (r1, r2) := H;have A4 := As A40;clear A40
  by_cases c5 : t231 = true
  focus
   subst c5
   have H1 : ((stC.f a1 (⟨#[110]⟩ : ByteArray)).bind fun t232 => (if t232 = true then (oL.j0 k a0 a1 true) else (if a0 < 0 then (oL.j0 k a0 a1 true) else (oL.j0 k a0 a1 (decide (a0 ≥ (shl .i64 1 (a1.size : Int)))))))) = some (r1, r2) := by rw [if_pos rfl] at H; exact H
   clear H;have H := H1;clear H1;replace H := bE H;obtain ⟨t232, A60, H⟩ := H;replace H : (if t232 = true then (oL.j0 k a0 a1 true) else (if a0 < 0 then (oL.j0 k a0 a1 true) else (oL.j0 k a0 a1 (decide (a0 ≥ (shl .i64 1 (a1.size : Int))))))) = some (r1, r2) := H;have A6 := As A60;clear A60
   by_cases c7 : t232 = true
   subst c7
   have H1 : (oL.j0 k a0 a1 true) = some (r1, r2) := by rw [if_pos rfl] at H; exact H
   clear H;have H := H1;clear H1;have H' := As H;clear H
   rotate_left
   focus
    replace c7 := Bool.eq_false_iff.mpr c7;subst c7
    have H1 : (if a0 < 0 then (oL.j0 k a0 a1 true) else (oL.j0 k a0 a1 (decide (a0 ≥ (shl .i64 1 (a1.size : Int)))))) = some (r1, r2) := by rw [if_neg (show ¬ (false = true) by decide)] at H; exact H
    clear H;have H := H1;clear H1
    by_cases c9 : a0 < 0
    rw [if_pos c9] at H;have c9b0 : decide (a0 < 0) = true := dY c9;clear c9
    (first | rw [c9b0] | (simp only [i64_w, i32_w]; rw [c9b0]) | skip)
    have H' := As H;clear H
    have m2_ := trivial
    rotate_left
    rw [if_neg c9] at H;have c9b0 : decide (a0 < 0) = false := dN c9;clear c9
    (first | rw [c9b0] | (simp only [i64_w, i32_w]; rw [c9b0]) | skip)
    obtain ⟨ji11, hji11⟩ : ∃ j_ : Int, (shl .i64 1 (a1.size : Int)) = j_ := ⟨_, rfl⟩
    replace H : (oL.j0 k a0 a1 (decide (a0 ≥ (ji11)))) = some (r1, r2) := by first | (rw [hji11] at H; exact H) | (simp only [hji11] at H ⊢; exact H)
    (try rw [hji11] at A4)
    (try rw [hji11] at A6)
    have hji11_ : (IntKind.i64.wrap (1 * 2 ^ min (a1.size : Int).toNat 64)) = ji11 := hji11;have hji11z : (a1.size : Int) ≤ 64 → (IntKind.i64.wrap (1 * 2 ^ (a1.size : Int).toNat)) = ji11 := shl_small hji11
    have hji11u : (IntKind.i64.wrap (2 ^ min (a1.size : Int).toNat 64)) = ji11 := by have h_ := hji11_; rw [Int.one_mul] at h_; exact h_
    have hji11v : (a1.size : Int) ≤ 64 → (IntKind.i64.wrap (2 ^ (a1.size : Int).toNat)) = ji11 := fun hle_ => by have h_ := hji11z hle_; rw [Int.one_mul] at h_; exact h_
    have hji11y : (wrap64 (1 * 2 ^ min (a1.size : Int).toNat 64)) = ji11 := (i64_w _).symm.trans hji11_
    have hji11x : (a1.size : Int) ≤ 64 → (wrap64 (1 * 2 ^ (a1.size : Int).toNat)) = ji11 := fun h_ => (i64_w _).symm.trans (hji11z h_)
    have H' := As H;clear H
    have m1_ := trivial
  rotate_left 3
  replace c5 := Bool.eq_false_iff.mpr c5;subst c5
  have H1 : (oL.j0 k a0 a1 true) = some (r1, r2) := by rw [if_neg (show ¬ (false = true) by decide)] at H; exact H
  clear H;have H := H1;clear H1;have H' := As H;clear H
  have m3_ := trivial
  all_goals try
   first | (clear m1_; have m1_ := trivial) | (clear m2_; have m2_ := trivial) | (clear m3_; have m3_ := trivial)
   go_wp2_with (first | ((with_reducible refine gate_callee (f := 31) rfl ?_); refine goesL_ (some 9) rfl rfl Tryz.func31 kr rfl #[.string a1] rfl sa ?_; (with_reducible refine (vMay.calls a1 _ _ A4.out).mono ?_); rintro e w12 ⟨rfl, hb⟩; refine ⟨_, rfl, ?_⟩; replace HB := As (XT (be HB.out) hb); (try clear hb); (try clear hb2); (try clear hk); (try clear hi)) | (go_at_call 32; (with_reducible refine (stC.calls a1 (⟨#[110]⟩ : ByteArray) false _ A6.out ?side1).mono ?_); (case side1 => first | exact hG | exact GL.below hG (be HB.out) | (repeat (first | exact hG | apply GL.drewN | apply GL.drew | apply GL.alloc))); rintro e w' ⟨rfl, ⟨nd, rfl⟩⟩))
   go_meet
  all_goals try
   first | (clear m2_; have m2_ := trivial) | (clear m3_; have m3_ := trivial)
   case rel => exact ⟨_, (true), sw, H', ⟨by first | omega | exact Nat.le_refl _⟩, ⟨by repeat (first | (with_reducible first | exact HB.out | apply XA | apply XN | apply XD) | exact HB.out)⟩⟩
  ·case rel => exact ⟨_, (decide (a0 ≥ (ji11))), (by first | rfl | (simp; done) | (have e_ := hji11y; rw [Int.one_mul, Int.toNat_natCast] at e_; simp [e_]; done) | (simp only [← hji11] <;> (first | rfl | simp)) | (simp [*]; done)), H', ⟨by first | omega | exact Nat.le_refl _⟩, ⟨by repeat (first | (with_reducible first | exact HB.out | apply XA | apply XN | apply XD) | exact HB.out)⟩⟩
  ·go_wp2_with (first | ((with_reducible refine gate_callee (f := 31) rfl ?_); refine goesL_ (some 9) rfl rfl Tryz.func31 kr rfl #[.string a1] rfl sa ?_; (with_reducible refine (vMay.calls a1 _ _ A4.out).mono ?_); rintro e w8 ⟨rfl, hb⟩; refine ⟨_, rfl, ?_⟩; replace HB := As (XT (be HB.out) hb); (try clear hb); (try clear hb2); (try clear hk); (try clear hi)) | (go_at_call 32; (with_reducible refine (stC.calls a1 (⟨#[110]⟩ : ByteArray) true _ A6.out ?side1).mono ?_); (case side1 => first | exact hG | exact GL.below hG (be HB.out) | (repeat (first | exact hG | apply GL.drewN | apply GL.drew | apply GL.alloc))); rintro e w' ⟨rfl, ⟨nd, rfl⟩⟩))
   go_meet
   case rel => exact ⟨_, (true), sw, H', ⟨by first | omega | exact Nat.le_refl _⟩, ⟨by repeat (first | (with_reducible first | exact HB.out | apply XA | apply XN | apply XD) | exact HB.out)⟩⟩
 case rest =>
  clear HC3
  try clear c1
  try clear p2
  try clear c3
  try clear c5
  try clear p6
  try clear c7
  try clear c9
  try clear c9b0
  obtain ⟨kq, x25_2, rfl, HA, HJ2, HB⟩ := hcut
  cases kq with
  | zero => exact absurd HA.out (by simp [oL.j0])
  | succ kj2 =>
   have H := HA.out;clear HA;simp only [oL.j0] at H
   by_cases c14 : x25_2 = true
   ·subst c14
    have H1 : (some ((⟨#[]⟩ : ByteArray), some 1)) = some (r1, r2) := by rw [if_pos rfl] at H; exact H
    clear H;have H := H1;clear H1;simp only [Option.some.injEq, Prod.mk.injEq] at H;obtain ⟨rfl, rfl⟩ := H
    go_wp2
    go_ret2
    exact ⟨by first | rfl | (simp [errW_none, errW_some] <;> rfl) | (simp [*, errW_none, errW_some] <;> rfl), by repeat (first | (with_reducible first | exact HB.out | apply XA | apply XN | apply XD) | exact HB.out)⟩
   ·replace c14 := Bool.eq_false_iff.mpr c14;subst c14
    have H1 : (oL.l0 kj2 a0 a1 ([] : List ByteArray) (a1.size : Int) 0) = some (r1, r2) := by rw [if_neg (show ¬ (false = true) by decide)] at H; exact H
    clear H;have H := H1;clear H1;have H' := As H;clear H
    go_wp2
    go_loopg [6, 29] kj2 (fun kq v6 v29 w' => ∃ (x6_2 : List ByteArray) (x29_2 : Int), v29 = .int .i64 x29_2 ∧ Aside0 (oL.l0 kq a0 a1 x6_2 (a1.size : Int) x29_2 = some (r1, r2)) ∧ Aside0 (kq ≤ kj2) ∧ Aside0 (Kd.R Kd.string 9 w' w.heap.size (fun _ => True) v6 x6_2) ∧ Aside0 (Below w.heap.size w w'))
    case atStart => exact ⟨(([] : List ByteArray)), (0), sw, H', ⟨Nat.le_refl _⟩, ⟨by first | exact Kd.R_nil _ _ _ _ _ | exact Kd.N_nil _ _ _ _ _ | exact Kd.V_nil _ _ _ _ _ | exact Kd.Q_nil _ _ _ _ _ | exact Kd.S_nil _ _ _ _ _⟩, ⟨by repeat (first | (with_reducible first | exact HB.out | apply XA | apply XN | apply XD) | exact HB.out)⟩⟩
    case round =>
     clear H'
     try clear c1
     try clear p2
     try clear c3
     try clear c5
     try clear p6
     try clear c7
     try clear c9
     try clear c9b0
     try clear c14
     try clear p2
     try clear p6
     obtain ⟨x6_2, x29_2, rfl, HA, HK2, HO_6, HB⟩ := hrel
     cases gk with
     | zero => exact absurd HA.out (by simp [oL.l0])
     | succ k2 =>
      have H := HA.out;clear HA;simp only [oL.l0] at H
      by_cases c15 : x29_2 < (a1.size : Int)
      ·rw [if_pos c15] at H;have c15b0 : decide (x29_2 < (a1.size : Int)) = true := dY c15;clear c15
       by_cases c16 : 0 ≤ x29_2
       ·rw [if_pos c16] at H;have c16b0 := eq_true c16;have c16b1 : decide (0 ≤ x29_2) = true := dY c16;clear c16
        obtain ⟨ji17, hji17⟩ : ∃ j_ : Int, (shr .i64 a0 x29_2) = j_ := ⟨_, rfl⟩
        replace H : (if (Go.bits .and .i64 (ji17) 1) = 1 then (if x29_2 ≤ (wrap64 (x29_2 + 1)) then (if (wrap64 (x29_2 + 1)) ≤ (a1.size : Int) then (if x6_2.length < 8796093022208 then (oL.l0 k2 a0 a1 (x6_2 ++ [a1.extract (x29_2 : Int).toNat ((wrap64 (x29_2 + 1)) : Int).toNat]) (a1.size : Int) (wrap64 (x29_2 + 1))) else (none)) else (none)) else (none)) else (oL.l0 k2 a0 a1 x6_2 (a1.size : Int) (wrap64 (x29_2 + 1)))) = some (r1, r2) := by first | (rw [hji17] at H; exact H) | (simp only [hji17] at H ⊢; exact H)
        have hji17_ : (a0 / 2 ^ min x29_2.toNat 64) = ji17 := hji17;have hji17z : x29_2 ≤ 64 → (a0 / 2 ^ x29_2.toNat) = ji17 := shr_small hji17
        by_cases c18 : (Go.bits .and .i64 (ji17) 1) = 1
        ·rw [if_pos c18] at H;have c18b0 : ((Go.bits .and .i64 (ji17) 1) == 1) = true := beq_iff_eq.mpr c18;have c18b1 : ((Go.bits .and .i64 (ji17) 1) != 1) = false := bne_eq_false_iff_eq.mpr c18;clear c18;have c19b0 := eq_true (dT hy : 0 ≤ x29_2)
         by_cases c20 : x29_2 ≤ (wrap64 (x29_2 + 1))
         ·rw [if_pos c20] at H;have c20b0 := eq_true c20;have c20b1 : decide (x29_2 ≤ (wrap64 (x29_2 + 1))) = true := dY c20
          by_cases c21 : (wrap64 (x29_2 + 1)) ≤ (a1.size : Int)
          ·rw [if_pos c21] at H;have c21b0 := eq_true c21;have c21b1 : decide ((wrap64 (x29_2 + 1)) ≤ (a1.size : Int)) = true := dY c21
           by_cases c22 : x6_2.length < 8796093022208
           ·rw [if_pos c22] at H;have LMc22 := As c22;clear c22
            obtain ⟨y233, hy233⟩ : ∃ y_ : List ByteArray, y_ = (x6_2 ++ [a1.extract (x29_2 : Int).toNat ((wrap64 (x29_2 + 1)) : Int).toNat]) := ⟨_, rfl⟩
            replace H : (oL.l0 k2 a0 a1 y233 (a1.size : Int) (wrap64 (x29_2 + 1))) = some (r1, r2) := by first | (rw [hy233]; with_reducible exact H) | (have H2_ := (Option.bind_some _ _).symm.trans H; rw [hy233]; with_reducible exact H2_) | (have H2_ := (Option.bind_some _ _).symm.trans H; with_reducible exact H2_) | with_reducible exact H | (rw [hy233]; exact H) | exact H
            have Ny233 := As hy233;clear hy233;have H' := As H;clear H
            go_wp2_with (first | ((with_reducible refine gate_builtin (b := .append) (xs := #[.tmp 37, .tmp 43]) rfl ?_); (try (refine gate_guard (by rfl) ?_; dsimp only)); at_builtin; refine Kd.R_append Kd.string (w0 := w) w.heap.size rfl (.tmp 37) (.tmp 43) 47 9 (.string ⟨#[]⟩) 16 rfl Tryz.underlying47 info9 rfl (by decide) (by omega) u6 x6_2 (a1.extract (x29_2 : Int).toNat ((wrap64 (x29_2 + 1)) : Int).toNat) [.string (a1.extract (x29_2 : Int).toNat ((wrap64 (x29_2 + 1)) : Int).toNat)] (fun _ => True) (fun _ => False) rfl rfl ?aP (fun _ hk => hk.elim) ?aF ?aO ?aB ?aS ?aL ?_; (case aP => exact rfl); (case aB => exact (be HB.out)); (case aF => exact (fun _ _ => trivial)); (case aO => exact (ro HO_6.out)); (case aS => exact (XZ (be HB.out))); (case aL => have := LMc22.out; omega); intro v234 w23 ho hb hg hat; rw [← Ny233.out] at ho; have n0_ := As (hb); have n1_ := As (ho); clear HB; clear HO_6; have HB := n0_; have HO235 := n1_; clear n0_ n1_; clear ho hb hg hat))
            go_roundg k2
            case measure => have := HJ2.out; have := HK2.out; omega
            case rel => exact ⟨(y233), (wrap64 (x29_2 + 1)), sw, H', ⟨by have := HJ2.out; have := HK2.out; omega⟩, ⟨by (with_reducible repeat (first | apply RA | apply RN | apply RD)); exact HO235.out⟩, ⟨by repeat (first | (with_reducible first | exact HB.out | apply XA | apply XN | apply XD) | exact HB.out)⟩⟩
           ·rw [if_neg c22] at H;exact absurd H (by simp)
          ·rw [if_neg c21] at H;exact absurd H (by simp)
         ·rw [if_neg c20] at H;exact absurd H (by simp)
        ·rw [if_neg c18] at H;have c18b0 : ((Go.bits .and .i64 (ji17) 1) == 1) = false := beq_eq_false_iff_ne.mpr c18;have c18b1 : ((Go.bits .and .i64 (ji17) 1) != 1) = true := bne_iff_ne.mpr c18;have H' := As H;clear H
         go_wp2
         go_roundg k2
         case measure => have := HJ2.out; have := HK2.out; omega
         case rel => exact ⟨(x6_2), (wrap64 (x29_2 + 1)), sw, H', ⟨by have := HJ2.out; have := HK2.out; omega⟩, ⟨by (with_reducible repeat (first | apply RA | apply RN | apply RD)); exact HO_6.out⟩, ⟨by repeat (first | (with_reducible first | exact HB.out | apply XA | apply XN | apply XD) | exact HB.out)⟩⟩
       ·rw [if_neg c16] at H;exact absurd H (by simp)
      ·rw [if_neg c15] at H;have c15b0 : decide (x29_2 < (a1.size : Int)) = false := dN c15;clear c15
       by_cases c24 : (x6_2.length : Int) = 0
       ·rw [if_pos c24] at H;have c24b0 : ((x6_2.length : Int) == 0) = true := beq_iff_eq.mpr c24;have c24b1 : ((x6_2.length : Int) != 0) = false := bne_eq_false_iff_eq.mpr c24;clear c24;simp only [Option.some.injEq, Prod.mk.injEq] at H;obtain ⟨rfl, rfl⟩ := H;obtain ⟨Ao25, co25, eo25⟩ := Kd.R_slice HO_6.out;subst eo25
        go_wp2
        go_ret2
        exact ⟨by first | rfl | (simp [errW_none, errW_some] <;> rfl) | (simp [*, errW_none, errW_some] <;> rfl), by repeat (first | (with_reducible first | exact HB.out | apply XA | apply XN | apply XD) | exact HB.out)⟩
       ·rw [if_neg c24] at H;have c24b0 : ((x6_2.length : Int) == 0) = false := beq_eq_false_iff_ne.mpr c24;have c24b1 : ((x6_2.length : Int) != 0) = true := bne_iff_ne.mpr c24
        have c24b2 : ¬ (x6_2 = []) := fun h_ => c24 (by rw [h_]; rfl)
        replace H := bE H;obtain ⟨t236, A260, H⟩ := H;replace H : (some (t236, none)) = some (r1, r2) := H;have A26 := As A260;clear A260;simp only [Option.some.injEq, Prod.mk.injEq] at H;obtain ⟨rfl, rfl⟩ := H;obtain ⟨Ao27, co27, eo27⟩ := Kd.R_slice HO_6.out;subst eo27
        go_wp2_with (first | ((with_reducible refine gate_callee (f := 19) rfl ?_); refine goesL_ (some 50) rfl rfl Tryz.func19 kr rfl #[.slice Ao27 x6_2.length co27, .string (⟨#[44]⟩ : ByteArray)] rfl sa ?_; (with_reducible refine (stJ.calls _ _ x6_2 (⟨#[44]⟩ : ByteArray) _ _ ?side1 ?side2 A26.out).mono ?_); (case side1 => repeat (first | exact (RR HO_6.out).2.2 | (with_reducible refine Kd.C_alloc ?_ _) | (with_reducible refine Kd.C_drewN ?_ _) | (with_reducible refine Kd.C_drew ?_))); (case side2 => exact (RR HO_6.out).2.1); rintro e w28 ⟨rfl, hb⟩; refine ⟨_, rfl, ?_⟩; replace HO_6 := As (RB (ro HO_6.out) hb); replace HB := As (XT (be HB.out) hb); (try clear hb); (try clear hb2); (try clear hk); (try clear hi)))
        go_ret2
        exact ⟨by first | rfl | (simp [errW_none, errW_some] <;> rfl) | (simp [*, errW_none, errW_some] <;> rfl), by repeat (first | (with_reducible first | exact HB.out | apply XA | apply XN | apply XD) | exact HB.out)⟩

end Go.Proofs.YtdakfmldbddokaaGreatDoor.P
-- SHRUNK
-- PACKED
-- PACKED2
