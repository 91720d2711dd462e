-- written by myprint.py (this claim's own program, after the kit's print)
import Derived.Test.YtahjnjlkpbjfnaaGreatDoorPx0
import Derived.Test.YtahjnjlkpbjfnaaGreatDoorPx8
import Derived.Test.YtahjnjlkpbjfnaaGreatDoorPx9
import Derived.Test.YtahjnjlkpbjfnaaGreatDoorPx10
import Derived.Test.YtahjnjlkpbjfnaaGreatDoorNumP
import Derived.Test.YtahjnjlkpbjfnaaGreatDoorVaMayB
import Derived.Test.YtahjnjlkpbjfnaaGreatDoorVaShelf
import Derived.Test.YtahjnjlkpbjfnaaGreatDoorPack
namespace Go.Proofs.YtahjnjlkpbjfnaaGreatDoor.P
open Go.RowKit Go.Proofs.YtahjnjlkpbjfnaaGreatDoorW.PrintWords Go.Proofs.YtahjnjlkpbjfnaaGreatDoorW.PrintLast Go.Proofs.YtahjnjlkpbjfnaaGreatDoorW.PrintMore
attribute [local go_sem] max2_int min2_int max_two min_two max_three min_three max_four min_four   -- for this text's walks alone
set_option linter.unusedVariables false
set_option linter.unusedSimpArgs false

/-! ### value_Letters: function 18 -/
mutual
def value_Letters.j0 : Nat → Int → ByteArray → Bool → Option (ByteArray × Option Int)
 | 0, _, _, _ => none
 | k + 1, x0, x1, x25 => if x25 = true then (some ((⟨#[]⟩ : ByteArray), some 1)) else (value_Letters.l0 k x0 x1 ([] : List ByteArray) (x1.size : Int) 0)
def value_Letters.l0 : Nat → Int → ByteArray → List ByteArray → Int → Int → Option (ByteArray × Option Int)
 | 0, _, _, _, _, _ => none
 | k + 1, x0, x1, x6, x28, x29 => if x29 < x28 then (if 0 ≤ x29 then (if (Go.bits .and .i64 (shr .i64 x0 x29) 1) = 1 then (if x29 ≤ (wrap64 (x29 + 1)) then (if (wrap64 (x29 + 1)) ≤ (x1.size : Int) then (if x6.length < 8796093022208 then (value_Letters.l0 k x0 x1 (x6 ++ [x1.extract (x29 : Int).toNat ((wrap64 (x29 + 1)) : Int).toNat]) x28 (wrap64 (x29 + 1))) else (none)) else (none)) else (none)) else (value_Letters.l0 k x0 x1 x6 x28 (wrap64 (x29 + 1)))) else (none)) else (if (x6.length : Int) = 0 then (some ((⟨#[110]⟩ : ByteArray), none)) else ((strings_Join.f x6 (⟨#[44]⟩ : ByteArray)).bind fun t232 => (some (t232, none))))
end
def value_Letters.f (k : Nat) (a0 : Int) (a1 : ByteArray) : Option (ByteArray × Option Int) := (value_may.f a1).bind fun t227 => (if t227 = true then ((strings_Contains.f a1 (⟨#[110]⟩ : ByteArray)).bind fun t228 => (if t228 = true then (value_Letters.j0 k a0 a1 true) else (if a0 < 0 then (value_Letters.j0 k a0 a1 true) else (value_Letters.j0 k a0 a1 (decide (a0 ≥ (shl .i64 1 (a1.size : Int)))))))) else (value_Letters.j0 k a0 a1 true))
theorem value_Letters.mono_l : ∀ k, (∀ y0 y1 y2, LeO (value_Letters.j0 k y0 y1 y2) (value_Letters.j0 (k + 1) y0 y1 y2)) ∧ (∀ y0 y1 y2 y3 y4, LeO (value_Letters.l0 k y0 y1 y2 y3 y4) (value_Letters.l0 (k + 1) y0 y1 y2 y3 y4))
 | 0 => ⟨fun _ _ _ r h => by simp [value_Letters.j0] at h, fun _ _ _ _ _ r h => by simp [value_Letters.l0] at h⟩
 | k + 1 => by
  obtain ⟨ih0, ih1⟩ := value_Letters.mono_l k;refine ⟨?_, ?_⟩
  ·intro y0 y1 y2;unfold value_Letters.j0
   repeat' first
   | (with_reducible exact ih0 _ _ _)
   | (with_reducible exact ih1 _ _ _ _ _)
   | (with_reducible exact LeO.refl _)
   | (with_reducible exact LeO.none _)
   | (with_reducible refine LeO.ite ?_ ?_)
   | (with_reducible refine LeO.bind ?_ (fun _ => ?_))
   | exact ih0 _ _ _
   | exact ih1 _ _ _ _ _
   | exact LeO.none _
   | refine LeO.ite ?_ ?_
   | refine LeO.bind ?_ (fun _ => ?_)
  ·intro y0 y1 y2 y3 y4;unfold value_Letters.l0
   repeat' first
   | (with_reducible exact ih0 _ _ _)
   | (with_reducible exact ih1 _ _ _ _ _)
   | (with_reducible exact LeO.refl _)
   | (with_reducible exact LeO.none _)
   | (with_reducible refine LeO.ite ?_ ?_)
   | (with_reducible refine LeO.bind ?_ (fun _ => ?_))
   | exact ih0 _ _ _
   | exact ih1 _ _ _ _ _
   | exact LeO.none _
   | refine LeO.ite ?_ ?_
   | refine LeO.bind ?_ (fun _ => ?_)
theorem value_Letters.mono : ∀ a0 a1 k, LeO (value_Letters.f k a0 a1) (value_Letters.f (k + 1) a0 a1) := by
 intro a0 a1 k;obtain ⟨ih0, ih1⟩ := value_Letters.mono_l k;unfold value_Letters.f
 repeat' first
   | (with_reducible exact ih0 _ _ _)
   | (with_reducible exact ih1 _ _ _ _ _)
   | (with_reducible exact LeO.refl _)
   | (with_reducible exact LeO.none _)
   | (with_reducible refine LeO.ite ?_ ?_)
   | (with_reducible refine LeO.bind ?_ (fun _ => ?_))
   | exact ih0 _ _ _
   | exact ih1 _ _ _ _ _
   | exact LeO.none _
   | refine LeO.ite ?_ ?_
   | refine LeO.bind ?_ (fun _ => ?_)
set_option maxHeartbeats 8000000 in
set_option maxRecDepth 100000 in
theorem value_Letters.calls (k : Nat) (a0 : Int) (a1 : ByteArray) (r1 : ByteArray) (r2 : Option Int) (w : World) (h : value_Letters.f k a0 a1 = some (r1, r2)) (hG : GL w) :
  Calls Tryz.prog 18 #[.int .i64 a0, .string a1] w fun e w' => e = .returned (.tuple #[.string r1, errW r2]) ∧ Below w.heap.size w w' := by
 have hu26 := Tryz.underlying26;have hu58 := Tryz.underlying58;have HB := As (Below.refl w.heap.size w);have H : ((value_may.f a1).bind fun t227 => (if t227 = true then ((strings_Contains.f a1 (⟨#[110]⟩ : ByteArray)).bind fun t228 => (if t228 = true then (value_Letters.j0 k a0 a1 true) else (if a0 < 0 then (value_Letters.j0 k a0 a1 true) else (value_Letters.j0 k a0 a1 (decide (a0 ≥ (shl .i64 1 (a1.size : Int)))))))) else (value_Letters.j0 k a0 a1 true))) = some (r1, r2) := h;clear h;have HC3 := As H;clear H
 go_enter Tryz.func18, Tryz.ntmps18
 go_upto_region 1 with (fail)
 go_cut [25] (fun v25 wc => ∃ (kq : Nat) (x25_2 : Bool), v25 = .bool x25_2 ∧ Aside0 (value_Letters.j0 kq a0 a1 x25_2 = some (r1, r2)) ∧ Aside0 (kq ≤ k) ∧ Aside0 (Below w.heap.size w wc))
 case first =>
  have H := HC3.out;clear HC3;replace H := bE H;obtain ⟨t227, A40, H⟩ := H;replace H : (if t227 = true then ((strings_Contains.f a1 (⟨#[110]⟩ : ByteArray)).bind fun t228 => (if t228 = true then (value_Letters.j0 k a0 a1 true) else (if a0 < 0 then (value_Letters.j0 k a0 a1 true) else (value_Letters.j0 k a0 a1 (decide (a0 ≥ (shl .i64 1 (a1.size : Int)))))))) else (value_Letters.j0 k a0 a1 true)) = some (r1, r2) := H;have A4 := As A40;clear A40
  by_cases c5 : t227 = true
  focus
   subst c5
   have H1 : ((strings_Contains.f a1 (⟨#[110]⟩ : ByteArray)).bind fun t228 => (if t228 = true then (value_Letters.j0 k a0 a1 true) else (if a0 < 0 then (value_Letters.j0 k a0 a1 true) else (value_Letters.j0 k a0 a1 (decide (a0 ≥ (shl .i64 1 (a1.size : Int)))))))) = some (r1, r2) := by rw [if_pos rfl] at H; exact H
   clear H;have H := H1;clear H1;replace H := bE H;obtain ⟨t228, A60, H⟩ := H;replace H : (if t228 = true then (value_Letters.j0 k a0 a1 true) else (if a0 < 0 then (value_Letters.j0 k a0 a1 true) else (value_Letters.j0 k a0 a1 (decide (a0 ≥ (shl .i64 1 (a1.size : Int))))))) = some (r1, r2) := H;have A6 := As A60;clear A60
   by_cases c7 : t228 = true
   subst c7
   have H1 : (value_Letters.j0 k a0 a1 true) = some (r1, r2) := by rw [if_pos rfl] at H; exact H
   clear H;have H := H1;clear H1;have H' := As H;clear H
   rotate_left
   focus
    replace c7 := Bool.eq_false_iff.mpr c7;subst c7
    have H1 : (if a0 < 0 then (value_Letters.j0 k a0 a1 true) else (value_Letters.j0 k a0 a1 (decide (a0 ≥ (shl .i64 1 (a1.size : Int)))))) = some (r1, r2) := by rw [if_neg (show ¬ (false = true) by decide)] at H; exact H
    clear H;have H := H1;clear H1
    by_cases c9 : a0 < 0
    rw [if_pos c9] at H;have c9b0 : decide (a0 < 0) = true := dY c9;clear c9
    (first | rw [c9b0] | (simp only [i64_w, i32_w]; rw [c9b0]) | skip)
    have H' := As H;clear H
    have m2_ := trivial
    rotate_left
    rw [if_neg c9] at H;have c9b0 : decide (a0 < 0) = false := dN c9;clear c9
    (first | rw [c9b0] | (simp only [i64_w, i32_w]; rw [c9b0]) | skip)
    obtain ⟨ji11, hji11⟩ : ∃ j_ : Int, (shl .i64 1 (a1.size : Int)) = j_ := ⟨_, rfl⟩
    replace H : (value_Letters.j0 k a0 a1 (decide (a0 ≥ (ji11)))) = some (r1, r2) := by first | (rw [hji11] at H; exact H) | (simp only [hji11] at H ⊢; exact H)
    (try rw [hji11] at A4)
    (try rw [hji11] at A6)
    have hji11_ : (IntKind.i64.wrap (1 * 2 ^ min (a1.size : Int).toNat 64)) = ji11 := hji11;have hji11z : (a1.size : Int) ≤ 64 → (IntKind.i64.wrap (1 * 2 ^ (a1.size : Int).toNat)) = ji11 := shl_small hji11
    have hji11u : (IntKind.i64.wrap (2 ^ min (a1.size : Int).toNat 64)) = ji11 := by have h_ := hji11_; rw [Int.one_mul] at h_; exact h_
    have hji11v : (a1.size : Int) ≤ 64 → (IntKind.i64.wrap (2 ^ (a1.size : Int).toNat)) = ji11 := fun hle_ => by have h_ := hji11z hle_; rw [Int.one_mul] at h_; exact h_
    have hji11y : (wrap64 (1 * 2 ^ min (a1.size : Int).toNat 64)) = ji11 := (i64_w _).symm.trans hji11_
    have hji11x : (a1.size : Int) ≤ 64 → (wrap64 (1 * 2 ^ (a1.size : Int).toNat)) = ji11 := fun h_ => (i64_w _).symm.trans (hji11z h_)
    have H' := As H;clear H
    have m1_ := trivial
  rotate_left 3
  replace c5 := Bool.eq_false_iff.mpr c5;subst c5
  have H1 : (value_Letters.j0 k a0 a1 true) = some (r1, r2) := by rw [if_neg (show ¬ (false = true) by decide)] at H; exact H
  clear H;have H := H1;clear H1;have H' := As H;clear H
  have m3_ := trivial
  all_goals try
   first | (clear m1_; have m1_ := trivial) | (clear m2_; have m2_ := trivial) | (clear m3_; have m3_ := trivial)
   go_wp2_with (first | ((with_reducible refine gate_callee (f := 29) rfl ?_); refine goesL_ (some 9) rfl rfl Tryz.func29 kr rfl #[.string a1] rfl sa ?_; (with_reducible refine (value_may.calls a1 _ _ A4.out).mono ?_); rintro e w12 ⟨rfl, hb⟩; refine ⟨_, rfl, ?_⟩; replace HB := As (XT (be HB.out) hb); (try clear hb); (try clear hb2); (try clear hk); (try clear hi)) | (go_at_call 30; (with_reducible refine (strings_Contains.calls a1 (⟨#[110]⟩ : ByteArray) false _ A6.out ?side1).mono ?_); (case side1 => first | exact hG | exact GL.below hG (be HB.out) | (repeat (first | exact hG | apply GL.drewN | apply GL.drew | apply GL.alloc))); rintro e w' ⟨rfl, ⟨nd, rfl⟩⟩))
   go_meet
  all_goals try
   first | (clear m2_; have m2_ := trivial) | (clear m3_; have m3_ := trivial)
   case rel => exact ⟨_, (true), sw, H', ⟨by first | omega | exact Nat.le_refl _⟩, ⟨by repeat (first | (with_reducible first | exact HB.out | apply XA | apply XN | apply XD) | exact HB.out)⟩⟩
  ·case rel => exact ⟨_, (decide (a0 ≥ (ji11))), (by first | rfl | (simp; done) | (have e_ := hji11y; rw [Int.one_mul, Int.toNat_natCast] at e_; simp [e_]; done) | (simp only [← hji11] <;> (first | rfl | simp)) | (simp [*]; done)), H', ⟨by first | omega | exact Nat.le_refl _⟩, ⟨by repeat (first | (with_reducible first | exact HB.out | apply XA | apply XN | apply XD) | exact HB.out)⟩⟩
  ·go_wp2_with (first | ((with_reducible refine gate_callee (f := 29) rfl ?_); refine goesL_ (some 9) rfl rfl Tryz.func29 kr rfl #[.string a1] rfl sa ?_; (with_reducible refine (value_may.calls a1 _ _ A4.out).mono ?_); rintro e w8 ⟨rfl, hb⟩; refine ⟨_, rfl, ?_⟩; replace HB := As (XT (be HB.out) hb); (try clear hb); (try clear hb2); (try clear hk); (try clear hi)) | (go_at_call 30; (with_reducible refine (strings_Contains.calls a1 (⟨#[110]⟩ : ByteArray) true _ A6.out ?side1).mono ?_); (case side1 => first | exact hG | exact GL.below hG (be HB.out) | (repeat (first | exact hG | apply GL.drewN | apply GL.drew | apply GL.alloc))); rintro e w' ⟨rfl, ⟨nd, rfl⟩⟩))
   go_meet
   case rel => exact ⟨_, (true), sw, H', ⟨by first | omega | exact Nat.le_refl _⟩, ⟨by repeat (first | (with_reducible first | exact HB.out | apply XA | apply XN | apply XD) | exact HB.out)⟩⟩
 case rest =>
  clear HC3
  try clear c1
  try clear c2
  try clear p2
  try clear c5
  try clear p6
  try clear c7
  try clear c9
  try clear c9b0
  obtain ⟨kq, x25_2, rfl, HA, HJ2, HB⟩ := hcut
  cases kq with
  | zero => exact absurd HA.out (by simp [value_Letters.j0])
  | succ kj2 =>
   have H := HA.out;clear HA;simp only [value_Letters.j0] at H
   by_cases c14 : x25_2 = true
   ·subst c14
    have H1 : (some ((⟨#[]⟩ : ByteArray), some 1)) = some (r1, r2) := by rw [if_pos rfl] at H; exact H
    clear H;have H := H1;clear H1;simp only [Option.some.injEq, Prod.mk.injEq] at H;obtain ⟨rfl, rfl⟩ := H
    go_wp2
    go_ret2
    exact ⟨by first | rfl | (simp [errW_none, errW_some] <;> rfl) | (simp [*, errW_none, errW_some] <;> rfl), by repeat (first | (with_reducible first | exact HB.out | apply XA | apply XN | apply XD) | exact HB.out)⟩
   ·replace c14 := Bool.eq_false_iff.mpr c14;subst c14
    have H1 : (value_Letters.l0 kj2 a0 a1 ([] : List ByteArray) (a1.size : Int) 0) = some (r1, r2) := by rw [if_neg (show ¬ (false = true) by decide)] at H; exact H
    clear H;have H := H1;clear H1;have H' := As H;clear H
    go_wp2
    go_loopg [6, 29] kj2 (fun kq v6 v29 w' => ∃ (x6_2 : List ByteArray) (x29_2 : Int), v29 = .int .i64 x29_2 ∧ Aside0 (value_Letters.l0 kq a0 a1 x6_2 (a1.size : Int) x29_2 = some (r1, r2)) ∧ Aside0 (kq ≤ kj2) ∧ Aside0 (Kd.R Kd.string 9 w' w.heap.size (fun _ => True) v6 x6_2) ∧ Aside0 (Below w.heap.size w w'))
    case atStart => exact ⟨(([] : List ByteArray)), (0), sw, H', ⟨Nat.le_refl _⟩, ⟨by first | exact Kd.R_nil _ _ _ _ _ | exact Kd.N_nil _ _ _ _ _ | exact Kd.V_nil _ _ _ _ _ | exact Kd.Q_nil _ _ _ _ _ | exact Kd.S_nil _ _ _ _ _⟩, ⟨by repeat (first | (with_reducible first | exact HB.out | apply XA | apply XN | apply XD) | exact HB.out)⟩⟩
    case round =>
     clear H'
     try clear c1
     try clear c2
     try clear p2
     try clear c5
     try clear p6
     try clear c7
     try clear c9
     try clear c9b0
     try clear c14
     try clear p2
     try clear p6
     obtain ⟨x6_2, x29_2, rfl, HA, HK2, HO_6, HB⟩ := hrel
     cases gk with
     | zero => exact absurd HA.out (by simp [value_Letters.l0])
     | succ k2 =>
      have H := HA.out;clear HA;simp only [value_Letters.l0] at H
      by_cases c15 : x29_2 < (a1.size : Int)
      ·rw [if_pos c15] at H;have c15b0 : decide (x29_2 < (a1.size : Int)) = true := dY c15;clear c15
       by_cases c16 : 0 ≤ x29_2
       ·rw [if_pos c16] at H;have c16b0 := eq_true c16;have c16b1 : decide (0 ≤ x29_2) = true := dY c16;clear c16
        obtain ⟨ji17, hji17⟩ : ∃ j_ : Int, (shr .i64 a0 x29_2) = j_ := ⟨_, rfl⟩
        replace H : (if (Go.bits .and .i64 (ji17) 1) = 1 then (if x29_2 ≤ (wrap64 (x29_2 + 1)) then (if (wrap64 (x29_2 + 1)) ≤ (a1.size : Int) then (if x6_2.length < 8796093022208 then (value_Letters.l0 k2 a0 a1 (x6_2 ++ [a1.extract (x29_2 : Int).toNat ((wrap64 (x29_2 + 1)) : Int).toNat]) (a1.size : Int) (wrap64 (x29_2 + 1))) else (none)) else (none)) else (none)) else (value_Letters.l0 k2 a0 a1 x6_2 (a1.size : Int) (wrap64 (x29_2 + 1)))) = some (r1, r2) := by first | (rw [hji17] at H; exact H) | (simp only [hji17] at H ⊢; exact H)
        have hji17_ : (a0 / 2 ^ min x29_2.toNat 64) = ji17 := hji17;have hji17z : x29_2 ≤ 64 → (a0 / 2 ^ x29_2.toNat) = ji17 := shr_small hji17
        by_cases c18 : (Go.bits .and .i64 (ji17) 1) = 1
        ·rw [if_pos c18] at H;have c18b0 : ((Go.bits .and .i64 (ji17) 1) == 1) = true := beq_iff_eq.mpr c18;have c18b1 : ((Go.bits .and .i64 (ji17) 1) != 1) = false := bne_eq_false_iff_eq.mpr c18;clear c18;have c19b0 := eq_true (dT hy : 0 ≤ x29_2)
         by_cases c20 : x29_2 ≤ (wrap64 (x29_2 + 1))
         ·rw [if_pos c20] at H;have c20b0 := eq_true c20;have c20b1 : decide (x29_2 ≤ (wrap64 (x29_2 + 1))) = true := dY c20
          by_cases c21 : (wrap64 (x29_2 + 1)) ≤ (a1.size : Int)
          ·rw [if_pos c21] at H;have c21b0 := eq_true c21;have c21b1 : decide ((wrap64 (x29_2 + 1)) ≤ (a1.size : Int)) = true := dY c21
           by_cases c22 : x6_2.length < 8796093022208
           ·rw [if_pos c22] at H;have LMc22 := As c22;clear c22
            obtain ⟨y229, hy229⟩ : ∃ y_ : List ByteArray, y_ = (x6_2 ++ [a1.extract (x29_2 : Int).toNat ((wrap64 (x29_2 + 1)) : Int).toNat]) := ⟨_, rfl⟩
            replace H : (value_Letters.l0 k2 a0 a1 y229 (a1.size : Int) (wrap64 (x29_2 + 1))) = some (r1, r2) := by first | (rw [hy229]; with_reducible exact H) | (have H2_ := (Option.bind_some _ _).symm.trans H; rw [hy229]; with_reducible exact H2_) | (have H2_ := (Option.bind_some _ _).symm.trans H; with_reducible exact H2_) | with_reducible exact H | (rw [hy229]; exact H) | exact H
            have Ny229 := As hy229;clear hy229;have H' := As H;clear H
            go_wp2_with (first | ((with_reducible refine gate_builtin (b := .append) (xs := #[.tmp 37, .tmp 43]) rfl ?_); (try (refine gate_guard (by rfl) ?_; dsimp only)); at_builtin; refine Kd.R_append Kd.string (w0 := w) w.heap.size rfl (.tmp 37) (.tmp 43) 23 9 (.string ⟨#[]⟩) 16 rfl Tryz.underlying23 info9 rfl (by decide) (by omega) u6 x6_2 (a1.extract (x29_2 : Int).toNat ((wrap64 (x29_2 + 1)) : Int).toNat) [.string (a1.extract (x29_2 : Int).toNat ((wrap64 (x29_2 + 1)) : Int).toNat)] (fun _ => True) (fun _ => False) rfl rfl ?aP (fun _ hk => hk.elim) ?aF ?aO ?aB ?aS ?aL ?_; (case aP => exact rfl); (case aB => exact (be HB.out)); (case aF => exact (fun _ _ => trivial)); (case aO => exact (ro HO_6.out)); (case aS => exact (XZ (be HB.out))); (case aL => have := LMc22.out; omega); intro v230 w23 ho hb hg hat; rw [← Ny229.out] at ho; have n0_ := As (hb); have n1_ := As (ho); clear HB; clear HO_6; have HB := n0_; have HO231 := n1_; clear n0_ n1_; clear ho hb hg hat))
            go_roundg k2
            case measure => have := HJ2.out; have := HK2.out; omega
            case rel => exact ⟨(y229), (wrap64 (x29_2 + 1)), sw, H', ⟨by have := HJ2.out; have := HK2.out; omega⟩, ⟨by (with_reducible repeat (first | apply RA | apply RN | apply RD)); exact HO231.out⟩, ⟨by repeat (first | (with_reducible first | exact HB.out | apply XA | apply XN | apply XD) | exact HB.out)⟩⟩
           ·rw [if_neg c22] at H;exact absurd H (by simp)
          ·rw [if_neg c21] at H;exact absurd H (by simp)
         ·rw [if_neg c20] at H;exact absurd H (by simp)
        ·rw [if_neg c18] at H;have c18b0 : ((Go.bits .and .i64 (ji17) 1) == 1) = false := beq_eq_false_iff_ne.mpr c18;have c18b1 : ((Go.bits .and .i64 (ji17) 1) != 1) = true := bne_iff_ne.mpr c18;have H' := As H;clear H
         go_wp2
         go_roundg k2
         case measure => have := HJ2.out; have := HK2.out; omega
         case rel => exact ⟨(x6_2), (wrap64 (x29_2 + 1)), sw, H', ⟨by have := HJ2.out; have := HK2.out; omega⟩, ⟨by (with_reducible repeat (first | apply RA | apply RN | apply RD)); exact HO_6.out⟩, ⟨by repeat (first | (with_reducible first | exact HB.out | apply XA | apply XN | apply XD) | exact HB.out)⟩⟩
       ·rw [if_neg c16] at H;exact absurd H (by simp)
      ·rw [if_neg c15] at H;have c15b0 : decide (x29_2 < (a1.size : Int)) = false := dN c15;clear c15
       by_cases c24 : (x6_2.length : Int) = 0
       ·rw [if_pos c24] at H;have c24b0 : ((x6_2.length : Int) == 0) = true := beq_iff_eq.mpr c24;have c24b1 : ((x6_2.length : Int) != 0) = false := bne_eq_false_iff_eq.mpr c24;clear c24;simp only [Option.some.injEq, Prod.mk.injEq] at H;obtain ⟨rfl, rfl⟩ := H;obtain ⟨Ao25, co25, eo25⟩ := Kd.R_slice HO_6.out;subst eo25
        go_wp2
        go_ret2
        exact ⟨by first | rfl | (simp [errW_none, errW_some] <;> rfl) | (simp [*, errW_none, errW_some] <;> rfl), by repeat (first | (with_reducible first | exact HB.out | apply XA | apply XN | apply XD) | exact HB.out)⟩
       ·rw [if_neg c24] at H;have c24b0 : ((x6_2.length : Int) == 0) = false := beq_eq_false_iff_ne.mpr c24;have c24b1 : ((x6_2.length : Int) != 0) = true := bne_iff_ne.mpr c24
        have c24b2 : ¬ (x6_2 = []) := fun h_ => c24 (by rw [h_]; rfl)
        replace H := bE H;obtain ⟨t232, A260, H⟩ := H;replace H : (some (t232, none)) = some (r1, r2) := H;have A26 := As A260;clear A260;simp only [Option.some.injEq, Prod.mk.injEq] at H;obtain ⟨rfl, rfl⟩ := H;obtain ⟨Ao27, co27, eo27⟩ := Kd.R_slice HO_6.out;subst eo27
        go_wp2_with (first | ((with_reducible refine gate_callee (f := 34) rfl ?_); refine goesL_ (some 50) rfl rfl Tryz.func34 kr rfl #[.slice Ao27 x6_2.length co27, .string (⟨#[44]⟩ : ByteArray)] rfl sa ?_; (with_reducible refine (strings_Join.calls _ _ x6_2 (⟨#[44]⟩ : ByteArray) _ _ ?side1 ?side2 A26.out).mono ?_); (case side1 => repeat (first | exact (RR HO_6.out).2.2 | (with_reducible refine Kd.C_alloc ?_ _) | (with_reducible refine Kd.C_drewN ?_ _) | (with_reducible refine Kd.C_drew ?_))); (case side2 => exact (RR HO_6.out).2.1); rintro e w28 ⟨rfl, hb⟩; refine ⟨_, rfl, ?_⟩; replace HO_6 := As (RB (ro HO_6.out) hb); replace HB := As (XT (be HB.out) hb); (try clear hb); (try clear hb2); (try clear hk); (try clear hi)))
        go_ret2
        exact ⟨by first | rfl | (simp [errW_none, errW_some] <;> rfl) | (simp [*, errW_none, errW_some] <;> rfl), by repeat (first | (with_reducible first | exact HB.out | apply XA | apply XN | apply XD) | exact HB.out)⟩

/-! ### belvedereref10_Letters: function 19 -/
mutual
def belvedereref10_Letters.j0 : Nat → Int → ByteArray → Bool → Option (ByteArray × Int)
 | 0, _, _, _ => none
 | k + 1, x0, x1, x19 => if x19 = true then (some ((⟨#[]⟩ : ByteArray), 1)) else (belvedereref10_Letters.l0 k x0 x1 (⟨#[]⟩ : ByteArray) 0)
def belvedereref10_Letters.l0 : Nat → Int → ByteArray → ByteArray → Int → Option (ByteArray × Int)
 | 0, _, _, _, _ => none
 | k + 1, x0, x1, x6, x7 => if x7 < (x1.size : Int) then (if (Int.tmod x0 2) = 1 then (if x6.size + 1 ≤ 9223372036854775807 then (if 0 ≤ x7 then (if x7 ≤ (wrap64 (x7 + 1)) then (if (wrap64 (x7 + 1)) ≤ (x1.size : Int) then (if (x6 ++ (⟨#[44]⟩ : ByteArray)).size + (x1.extract (x7 : Int).toNat ((wrap64 (x7 + 1)) : Int).toNat).size ≤ 9223372036854775807 then (belvedereref10_Letters.l0 k (wrap64 (Int.tdiv x0 2)) x1 ((x6 ++ (⟨#[44]⟩ : ByteArray)) ++ (x1.extract (x7 : Int).toNat ((wrap64 (x7 + 1)) : Int).toNat)) (wrap64 (x7 + 1))) else (none)) else (none)) else (none)) else (none)) else (none)) else (belvedereref10_Letters.l0 k (wrap64 (Int.tdiv x0 2)) x1 x6 (wrap64 (x7 + 1)))) else (if x0 > 0 then (some ((⟨#[]⟩ : ByteArray), 1)) else (if x6.toList = ([] : List UInt8) then (some ((⟨#[110]⟩ : ByteArray), 0)) else (if 1 ≤ (x6.size : Int) then (some (x6.extract 1 x6.size, 0)) else (none))))
end
def belvedereref10_Letters.f (k : Nat) (a0 : Int) (a1 : ByteArray) : Option (ByteArray × Int) := (belvedereref10_May.f k a1).bind fun t233 => (if t233 = true then ((belvedereref10_at.f k a1 110).bind fun t234 => (if t234 ≥ 0 then (belvedereref10_Letters.j0 k a0 a1 true) else (belvedereref10_Letters.j0 k a0 a1 (decide (a0 < 0))))) else (belvedereref10_Letters.j0 k a0 a1 true))
theorem belvedereref10_Letters.mono_l : ∀ k, (∀ y0 y1 y2, LeO (belvedereref10_Letters.j0 k y0 y1 y2) (belvedereref10_Letters.j0 (k + 1) y0 y1 y2)) ∧ (∀ y0 y1 y2 y3, LeO (belvedereref10_Letters.l0 k y0 y1 y2 y3) (belvedereref10_Letters.l0 (k + 1) y0 y1 y2 y3))
 | 0 => ⟨fun _ _ _ r h => by simp [belvedereref10_Letters.j0] at h, fun _ _ _ _ r h => by simp [belvedereref10_Letters.l0] at h⟩
 | k + 1 => by
  obtain ⟨ih0, ih1⟩ := belvedereref10_Letters.mono_l k;refine ⟨?_, ?_⟩
  ·intro y0 y1 y2;unfold belvedereref10_Letters.j0
   repeat' first
   | (with_reducible exact ih0 _ _ _)
   | (with_reducible exact ih1 _ _ _ _)
   | (with_reducible exact belvedereref10_May.mono _ _)
   | (with_reducible exact belvedereref10_at.mono _ _ _)
   | (with_reducible exact LeO.refl _)
   | (with_reducible exact LeO.none _)
   | (with_reducible refine LeO.ite ?_ ?_)
   | (with_reducible refine LeO.bind ?_ (fun _ => ?_))
   | exact ih0 _ _ _
   | exact ih1 _ _ _ _
   | exact belvedereref10_May.mono _ _
   | exact belvedereref10_at.mono _ _ _
   | exact LeO.none _
   | refine LeO.ite ?_ ?_
   | refine LeO.bind ?_ (fun _ => ?_)
  ·intro y0 y1 y2 y3;unfold belvedereref10_Letters.l0
   repeat' first
   | (with_reducible exact ih0 _ _ _)
   | (with_reducible exact ih1 _ _ _ _)
   | (with_reducible exact belvedereref10_May.mono _ _)
   | (with_reducible exact belvedereref10_at.mono _ _ _)
   | (with_reducible exact LeO.refl _)
   | (with_reducible exact LeO.none _)
   | (with_reducible refine LeO.ite ?_ ?_)
   | (with_reducible refine LeO.bind ?_ (fun _ => ?_))
   | exact ih0 _ _ _
   | exact ih1 _ _ _ _
   | exact belvedereref10_May.mono _ _
   | exact belvedereref10_at.mono _ _ _
   | exact LeO.none _
   | refine LeO.ite ?_ ?_
   | refine LeO.bind ?_ (fun _ => ?_)
theorem belvedereref10_Letters.mono : ∀ a0 a1 k, LeO (belvedereref10_Letters.f k a0 a1) (belvedereref10_Letters.f (k + 1) a0 a1) := by
 intro a0 a1 k;obtain ⟨ih0, ih1⟩ := belvedereref10_Letters.mono_l k;unfold belvedereref10_Letters.f
 repeat' first
   | (with_reducible exact ih0 _ _ _)
   | (with_reducible exact ih1 _ _ _ _)
   | (with_reducible exact belvedereref10_May.mono _ _)
   | (with_reducible exact belvedereref10_at.mono _ _ _)
   | (with_reducible exact LeO.refl _)
   | (with_reducible exact LeO.none _)
   | (with_reducible refine LeO.ite ?_ ?_)
   | (with_reducible refine LeO.bind ?_ (fun _ => ?_))
   | exact ih0 _ _ _
   | exact ih1 _ _ _ _
   | exact belvedereref10_May.mono _ _
   | exact belvedereref10_at.mono _ _ _
   | exact LeO.none _
   | refine LeO.ite ?_ ?_
   | refine LeO.bind ?_ (fun _ => ?_)
set_option maxHeartbeats 8000000 in
set_option maxRecDepth 100000 in
theorem belvedereref10_Letters.calls (k : Nat) (a0 : Int) (a1 : ByteArray) (r1 : ByteArray) (r2 : Int) (w : World) (h : belvedereref10_Letters.f k a0 a1 = some (r1, r2)) :
  Calls Tryz.prog 19 #[.int .i64 a0, .string a1] w fun e w' => e = .returned (.tuple #[.string r1, .int .i64 r2]) ∧ Drawn0 w w' := by
 have H : ((belvedereref10_May.f k a1).bind fun t233 => (if t233 = true then ((belvedereref10_at.f k a1 110).bind fun t234 => (if t234 ≥ 0 then (belvedereref10_Letters.j0 k a0 a1 true) else (belvedereref10_Letters.j0 k a0 a1 (decide (a0 < 0))))) else (belvedereref10_Letters.j0 k a0 a1 true))) = some (r1, r2) := h;clear h;have HC3 := As H;clear H
 go_enter Tryz.func19, Tryz.ntmps19
 go_upto_region 1 with (fail)
 go_cut [19] (fun v19 wc => ∃ (kq : Nat) (x19_2 : Bool), v19 = .bool x19_2 ∧ Aside0 (belvedereref10_Letters.j0 kq a0 a1 x19_2 = some (r1, r2)) ∧ Aside0 (kq ≤ k) ∧ Drawn0 w wc)
 case first =>
  have H := HC3.out;clear HC3;replace H := bE H;obtain ⟨t233, A40, H⟩ := H;replace H : (if t233 = true then ((belvedereref10_at.f k a1 110).bind fun t234 => (if t234 ≥ 0 then (belvedereref10_Letters.j0 k a0 a1 true) else (belvedereref10_Letters.j0 k a0 a1 (decide (a0 < 0))))) else (belvedereref10_Letters.j0 k a0 a1 true)) = some (r1, r2) := H;have A4 := As A40;clear A40
  by_cases c5 : t233 = true
  focus
   subst c5
   have H1 : ((belvedereref10_at.f k a1 110).bind fun t234 => (if t234 ≥ 0 then (belvedereref10_Letters.j0 k a0 a1 true) else (belvedereref10_Letters.j0 k a0 a1 (decide (a0 < 0))))) = some (r1, r2) := by rw [if_pos rfl] at H; exact H
   clear H;have H := H1;clear H1;replace H := bE H;obtain ⟨t234, A60, H⟩ := H;replace H : (if t234 ≥ 0 then (belvedereref10_Letters.j0 k a0 a1 true) else (belvedereref10_Letters.j0 k a0 a1 (decide (a0 < 0)))) = some (r1, r2) := H;have A6 := As A60;clear A60
   by_cases c7 : t234 ≥ 0
   rw [if_pos c7] at H;have c7b0 : decide (0 ≤ t234) = true := dY c7;clear c7
   (first | rw [c7b0] | (simp only [i64_w, i32_w]; rw [c7b0]) | skip)
   have H' := As H;clear H
   have m2_ := trivial
   rotate_left
   rw [if_neg c7] at H;have c7b0 : decide (0 ≤ t234) = false := dN c7;clear c7
   (first | rw [c7b0] | (simp only [i64_w, i32_w]; rw [c7b0]) | skip)
   have H' := As H;clear H
  rotate_left 2
  replace c5 := Bool.eq_false_iff.mpr c5;subst c5
  have H1 : (belvedereref10_Letters.j0 k a0 a1 true) = some (r1, r2) := by rw [if_neg (show ¬ (false = true) by decide)] at H; exact H
  clear H;have H := H1;clear H1;have H' := As H;clear H
  have m1_ := trivial
  all_goals
   go_wp2_with (first | ((with_reducible refine gate_callee (f := 32) rfl ?_); refine goesL_ (some 9) rfl rfl Tryz.func32 kr rfl #[.string a1] rfl sa ?_; (with_reducible refine (belvedereref10_May.calls k a1 _ _ A4.out).mono ?_); rintro e w' ⟨rfl, ⟨nd, rfl⟩⟩; refine ⟨_, rfl, ?_⟩) | (go_at_call 33; (with_reducible refine (belvedereref10_at.calls k a1 110 _ _ A6.out).mono ?_); rintro e w' ⟨rfl, ⟨nd, rfl⟩⟩))
   go_meet
  all_goals try
   first | (clear m1_; have m1_ := trivial) | (clear m2_; have m2_ := trivial)
   case rel => exact ⟨_, (true), sw, H', ⟨by first | omega | exact Nat.le_refl _⟩, by repeat (first | exact Drawn0.refl _ | apply Drawn0.step)⟩
  ·case rel => exact ⟨_, (decide (a0 < 0)), sw, H', ⟨by first | omega | exact Nat.le_refl _⟩, by repeat (first | exact Drawn0.refl _ | apply Drawn0.step)⟩
 case rest =>
  clear HC3
  try clear c1
  try clear p2
  try clear c3
  try clear c5
  try clear p6
  try clear c7
  try clear c7b0
  obtain ⟨kq, x19_2, rfl, HA, HJ2, ⟨mc2, rfl⟩⟩ := hcut
  cases kq with
  | zero => exact absurd HA.out (by simp [belvedereref10_Letters.j0])
  | succ kj2 =>
   have H := HA.out;clear HA;simp only [belvedereref10_Letters.j0] at H
   by_cases c8 : x19_2 = true
   ·subst c8
    have H1 : (some ((⟨#[]⟩ : ByteArray), 1)) = some (r1, r2) := by rw [if_pos rfl] at H; exact H
    clear H;have H := H1;clear H1;simp only [Option.some.injEq, Prod.mk.injEq] at H;obtain ⟨rfl, rfl⟩ := H
    go_wp2
    go_ret2
    exact ⟨by first | rfl | (simp; done) | (simp [*]; done) | (simp; unfold wrap64; omega), by repeat (first | exact Drawn0.refl _ | apply Drawn0.step)⟩
   ·replace c8 := Bool.eq_false_iff.mpr c8;subst c8
    have H1 : (belvedereref10_Letters.l0 kj2 a0 a1 (⟨#[]⟩ : ByteArray) 0) = some (r1, r2) := by rw [if_neg (show ¬ (false = true) by decide)] at H; exact H
    clear H;have H := H1;clear H1;have H' := As H;clear H
    go_wp2
    go_loopg [0, 6, 7] kj2 (fun kq v0 v6 v7 w' => ∃ (x0_2 : Int) (x6_2 : ByteArray) (x7_2 : Int), v0 = .int .i64 x0_2 ∧ v6 = .string x6_2 ∧ v7 = .int .i64 x7_2 ∧ Aside0 (belvedereref10_Letters.l0 kq x0_2 a1 x6_2 x7_2 = some (r1, r2)) ∧ Aside0 (kq ≤ kj2) ∧ Drawn0 w w')
    case atStart => exact ⟨(a0), ((⟨#[]⟩ : ByteArray)), (0), sw, sw, sw, H', ⟨Nat.le_refl _⟩, by repeat (first | exact Drawn0.refl _ | apply Drawn0.step)⟩
    case round =>
     clear H'
     try clear c1
     try clear c2
     try clear p2
     try clear c3
     try clear c5
     try clear p6
     try clear c7
     try clear c7b0
     try clear c8
     try clear p2
     try clear p6
     obtain ⟨x0_2, x6_2, x7_2, rfl, rfl, rfl, HA, HK2, ⟨m2, rfl⟩⟩ := hrel
     cases gk with
     | zero => exact absurd HA.out (by simp [belvedereref10_Letters.l0])
     | succ k2 =>
      have H := HA.out;clear HA;simp only [belvedereref10_Letters.l0] at H
      by_cases c9 : x7_2 < (a1.size : Int)
      focus
       rw [if_pos c9] at H;have c9b0 : decide (x7_2 < (a1.size : Int)) = true := dY c9;clear c9
       by_cases c10 : (Int.tmod x0_2 2) = 1
       focus
        rw [if_pos c10] at H;have c10b0 : ((Int.tmod x0_2 2) == 1) = true := beq_iff_eq.mpr c10;have c10b1 : ((Int.tmod x0_2 2) != 1) = false := bne_eq_false_iff_eq.mpr c10;clear c10
        by_cases c11 : x6_2.size + 1 ≤ 9223372036854775807
        rotate_left
        ·rw [if_neg c11] at H;exact absurd H (by simp)
        rw [if_pos c11] at H;have c11b0 := eq_true c11;have c11b1 : decide (x6_2.size + 1 ≤ 9223372036854775807) = true := dY c11
        try have c11b2 : (9223372036854775807 < x6_2.size + 1) = False := eq_false (Nat.not_lt.2 c11)
        by_cases c12 : 0 ≤ x7_2
        rotate_left
        ·rw [if_neg c12] at H;exact absurd H (by simp)
        rw [if_pos c12] at H;have c12b0 := eq_true c12;have c12b1 : decide (0 ≤ x7_2) = true := dY c12;clear c12
        by_cases c13 : x7_2 ≤ (wrap64 (x7_2 + 1))
        rotate_left
        ·rw [if_neg c13] at H;exact absurd H (by simp)
        rw [if_pos c13] at H;have c13b0 := eq_true c13;have c13b1 : decide (x7_2 ≤ (wrap64 (x7_2 + 1))) = true := dY c13
        by_cases c14 : (wrap64 (x7_2 + 1)) ≤ (a1.size : Int)
        rotate_left
        ·rw [if_neg c14] at H;exact absurd H (by simp)
        rw [if_pos c14] at H;have c14b0 := eq_true c14;have c14b1 : decide ((wrap64 (x7_2 + 1)) ≤ (a1.size : Int)) = true := dY c14
        by_cases c15 : (x6_2 ++ (⟨#[44]⟩ : ByteArray)).size + (a1.extract (x7_2 : Int).toNat ((wrap64 (x7_2 + 1)) : Int).toNat).size ≤ 9223372036854775807
        rotate_left
        ·rw [if_neg c15] at H;exact absurd H (by simp)
        rw [if_pos c15] at H;have c15b0 := eq_true c15;have c15b1 : decide ((x6_2 ++ (⟨#[44]⟩ : ByteArray)).size + (a1.extract (x7_2 : Int).toNat ((wrap64 (x7_2 + 1)) : Int).toNat).size ≤ 9223372036854775807) = true := dY c15
        try have c15b2 : (9223372036854775807 < (x6_2 ++ (⟨#[44]⟩ : ByteArray)).size + (a1.extract (x7_2 : Int).toNat ((wrap64 (x7_2 + 1)) : Int).toNat).size) = False := eq_false (Nat.not_lt.2 c15)
        have H' := As H;clear H
        have m4_ := trivial
       rotate_left
       rw [if_neg c10] at H;have c10b0 : ((Int.tmod x0_2 2) == 1) = false := beq_eq_false_iff_ne.mpr c10;have c10b1 : ((Int.tmod x0_2 2) != 1) = true := bne_iff_ne.mpr c10;have H' := As H;clear H
       have m3_ := trivial
      rotate_left 2
      focus
       rw [if_neg c9] at H;have c9b0 : decide (x7_2 < (a1.size : Int)) = false := dN c9;clear c9
       by_cases c16 : x0_2 > 0
       rw [if_pos c16] at H;have c16b0 : decide (0 < x0_2) = true := dY c16;clear c16;simp only [Option.some.injEq, Prod.mk.injEq] at H;obtain ⟨rfl, rfl⟩ := H
       have m7_ := trivial
       rotate_left
       focus
        rw [if_neg c16] at H;have c16b0 : decide (0 < x0_2) = false := dN c16;clear c16
        by_cases c17 : x6_2.toList = ([] : List UInt8)
        rw [if_pos c17] at H;have c17b0 : (x6_2.toList == ([] : List UInt8)) = true := beq_iff_eq.mpr c17;have c17b1 : (x6_2.toList != ([] : List UInt8)) = false := bne_eq_false_iff_eq.mpr c17;clear c17;simp only [Option.some.injEq, Prod.mk.injEq] at H;obtain ⟨rfl, rfl⟩ := H
        have m6_ := trivial
        rotate_left
        focus
         rw [if_neg c17] at H;have c17b0 : (x6_2.toList == ([] : List UInt8)) = false := beq_eq_false_iff_ne.mpr c17;have c17b1 : (x6_2.toList != ([] : List UInt8)) = true := bne_iff_ne.mpr c17
         by_cases c18 : 1 ≤ (x6_2.size : Int)
         rotate_left
         ·rw [if_neg c18] at H;exact absurd H (by simp)
         rw [if_pos c18] at H;have c18b0 := eq_true c18;have c18b1 : decide (1 ≤ (x6_2.size : Int)) = true := dY c18;clear c18;simp only [Option.some.injEq, Prod.mk.injEq] at H;obtain ⟨rfl, rfl⟩ := H
         have m5_ := trivial
      all_goals go_wp2
      all_goals try
       first | (clear m3_; have m3_ := trivial) | (clear m4_; have m4_ := trivial)
       go_roundg k2
       case measure => have := HJ2.out; have := HK2.out; omega
      all_goals try
       first | (clear m5_; have m5_ := trivial) | (clear m6_; have m6_ := trivial) | (clear m7_; have m7_ := trivial)
       go_ret2
       exact ⟨by first | rfl | (simp; done) | (simp [*]; done) | (simp; unfold wrap64; omega), by repeat (first | exact Drawn0.refl _ | apply Drawn0.step)⟩
      ·case rel => exact ⟨(wrap64 (Int.tdiv x0_2 2)), (x6_2), (wrap64 (x7_2 + 1)), sw, sw, sw, H', ⟨by have := HJ2.out; have := HK2.out; omega⟩, by repeat (first | exact Drawn0.refl _ | apply Drawn0.step)⟩
      ·case rel => exact ⟨(wrap64 (Int.tdiv x0_2 2)), ((x6_2 ++ (⟨#[44]⟩ : ByteArray)) ++ (a1.extract (x7_2 : Int).toNat ((wrap64 (x7_2 + 1)) : Int).toNat)), (wrap64 (x7_2 + 1)), sw, sw, sw, H', ⟨by have := HJ2.out; have := HK2.out; omega⟩, by repeat (first | exact Drawn0.refl _ | apply Drawn0.step)⟩

/-! ### belvederelaw10_ValueOptions: function 5 -/
def belvederelaw10_ValueOptions.f (k : Nat) (a0 : ByteArray) (a1 : ByteArray) (a2 : Int) : Option (Bool) := if (a0.size : Int) > 300 then ((belvederelaw10_sure.f k).bind fun t235 => (some t235)) else (if (a1.size : Int) > 100 then ((belvederelaw10_sure.f k).bind fun t236 => (some t236)) else ((value_Options.f k a0 a1).bind fun bt237 => ((belvedereref10_Options.f k a0 a1).bind fun bt239 => ((value_Letters.f k a2 a1).bind fun bt241 => ((belvedereref10_Letters.f k a2 a1).bind fun bt243 => (if bt237.1 = bt239.1 then ((belvederelaw10_num.f bt237.2).bind fun t245 => (if t245 = bt239.2 then (if bt241.1.toList = bt243.1.toList then ((belvederelaw10_num.f bt241.2).bind fun t246 => (if t246 = bt243.2 then ((belvederelaw10_sure.f k).bind fun t247 => (some t247)) else (none))) else (none)) else (none))) else (none)))))))
theorem belvederelaw10_ValueOptions.mono : ∀ a0 a1 a2 k, LeO (belvederelaw10_ValueOptions.f k a0 a1 a2) (belvederelaw10_ValueOptions.f (k + 1) a0 a1 a2) := by
 intro a0 a1 a2 k;unfold belvederelaw10_ValueOptions.f
 repeat' first
   | (with_reducible exact belvederelaw10_sure.mono _)
   | (with_reducible exact belvedereref10_Letters.mono _ _ _)
   | (with_reducible exact belvedereref10_Options.mono _ _ _)
   | (with_reducible exact value_Letters.mono _ _ _)
   | (with_reducible exact value_Options.mono _ _ _)
   | (with_reducible exact LeO.refl _)
   | (with_reducible exact LeO.none _)
   | (with_reducible refine LeO.ite ?_ ?_)
   | (with_reducible refine LeO.bind ?_ (fun _ => ?_))
   | exact belvederelaw10_sure.mono _
   | exact belvedereref10_Letters.mono _ _ _
   | exact belvedereref10_Options.mono _ _ _
   | exact value_Letters.mono _ _ _
   | exact value_Options.mono _ _ _
   | exact LeO.none _
   | refine LeO.ite ?_ ?_
   | refine LeO.bind ?_ (fun _ => ?_)
set_option maxHeartbeats 8000000 in
set_option maxRecDepth 100000 in
theorem belvederelaw10_ValueOptions.calls (k : Nat) (a0 : ByteArray) (a1 : ByteArray) (a2 : Int) (r : Bool) (w : World) (h : belvederelaw10_ValueOptions.f k a0 a1 a2 = some r) (hG : GL w) :
  Calls Tryz.prog 5 #[.string a0, .string a1, .int .i64 a2] w fun e w' => e = .returned (.bool r) ∧ Below w.heap.size w w' := by
 have HB := As (Below.refl w.heap.size w);have H : (if (a0.size : Int) > 300 then ((belvederelaw10_sure.f k).bind fun t235 => (some t235)) else (if (a1.size : Int) > 100 then ((belvederelaw10_sure.f k).bind fun t236 => (some t236)) else ((value_Options.f k a0 a1).bind fun bt237 => ((belvedereref10_Options.f k a0 a1).bind fun bt239 => ((value_Letters.f k a2 a1).bind fun bt241 => ((belvedereref10_Letters.f k a2 a1).bind fun bt243 => (if bt237.1 = bt239.1 then ((belvederelaw10_num.f bt237.2).bind fun t245 => (if t245 = bt239.2 then (if bt241.1.toList = bt243.1.toList then ((belvederelaw10_num.f bt241.2).bind fun t246 => (if t246 = bt243.2 then ((belvederelaw10_sure.f k).bind fun t247 => (some t247)) else (none))) else (none)) else (none))) else (none)))))))) = some r := h;clear h
 by_cases c4 : (a0.size : Int) > 300
 ·rw [if_pos c4] at H;have c4b0 : decide (300 < (a0.size : Int)) = true := dY c4;have c4b1 : decide (300 < a0.size) = true := dY (by omega);clear c4;replace H := bE H;obtain ⟨t235, A50, H⟩ := H;replace H : (some t235) = some r := H;have A5 := As A50;clear A50;obtain rfl := Option.some.inj H
  go_enter Tryz.func5, Tryz.ntmps5
  go_wp2_with (first | ((with_reducible refine gate_callee (f := 10) rfl ?_); refine goesL_ (some 23) rfl rfl Tryz.func10 kr rfl #[] rfl sa ?_; (with_reducible refine (belvederelaw10_sure.calls k  t235 _ A5.out ?side1).mono ?_); (case side1 => first | exact hG | exact GL.below hG (be HB.out) | (repeat (first | exact hG | apply GL.drewN | apply GL.drew | apply GL.alloc))); rintro e w6 ⟨rfl, hb⟩; refine ⟨_, rfl, ?_⟩; replace HB := As (XT (be HB.out) hb); (try clear hb); (try clear hb2); (try clear hk); (try clear hi)))
  go_ret
  exact ⟨by first | rfl | (simp [errW_none, errW_some] <;> rfl) | (simp [*, errW_none, errW_some] <;> rfl), by repeat (first | (with_reducible first | exact HB.out | apply XA | apply XN | apply XD) | exact HB.out)⟩
 ·rw [if_neg c4] at H;have c4b0 : decide (300 < (a0.size : Int)) = false := dN c4;have c4b1 : decide (300 < a0.size) = false := dN (by omega);clear c4
  by_cases c7 : (a1.size : Int) > 100
  ·rw [if_pos c7] at H;have c7b0 : decide (100 < (a1.size : Int)) = true := dY c7;have c7b1 : decide (100 < a1.size) = true := dY (by omega);clear c7;replace H := bE H;obtain ⟨t236, A80, H⟩ := H;replace H : (some t236) = some r := H;have A8 := As A80;clear A80;obtain rfl := Option.some.inj H
   go_enter Tryz.func5, Tryz.ntmps5
   go_wp2_with (first | ((with_reducible refine gate_callee (f := 10) rfl ?_); refine goesL_ (some 23) rfl rfl Tryz.func10 kr rfl #[] rfl sa ?_; (with_reducible refine (belvederelaw10_sure.calls k  t236 _ A8.out ?side1).mono ?_); (case side1 => first | exact hG | exact GL.below hG (be HB.out) | (repeat (first | exact hG | apply GL.drewN | apply GL.drew | apply GL.alloc))); rintro e w9 ⟨rfl, hb⟩; refine ⟨_, rfl, ?_⟩; replace HB := As (XT (be HB.out) hb); (try clear hb); (try clear hb2); (try clear hk); (try clear hi)))
   go_ret
   exact ⟨by first | rfl | (simp [errW_none, errW_some] <;> rfl) | (simp [*, errW_none, errW_some] <;> rfl), by repeat (first | (with_reducible first | exact HB.out | apply XA | apply XN | apply XD) | exact HB.out)⟩
  ·rw [if_neg c7] at H;have c7b0 : decide (100 < (a1.size : Int)) = false := dN c7;have c7b1 : decide (100 < a1.size) = false := dN (by omega);clear c7;replace H := bE H;obtain ⟨⟨t237, t238⟩, A100, H⟩ := H;replace H : ((belvedereref10_Options.f k a0 a1).bind fun bt239 => ((value_Letters.f k a2 a1).bind fun bt241 => ((belvedereref10_Letters.f k a2 a1).bind fun bt243 => (if t237 = bt239.1 then ((belvederelaw10_num.f t238).bind fun t245 => (if t245 = bt239.2 then (if bt241.1.toList = bt243.1.toList then ((belvederelaw10_num.f bt241.2).bind fun t246 => (if t246 = bt243.2 then ((belvederelaw10_sure.f k).bind fun t247 => (some t247)) else (none))) else (none)) else (none))) else (none))))) = some r := H;have A10 := As A100;clear A100;replace H := bE H;obtain ⟨⟨t239, t240⟩, A110, H⟩ := H;replace H : ((value_Letters.f k a2 a1).bind fun bt241 => ((belvedereref10_Letters.f k a2 a1).bind fun bt243 => (if t237 = t239 then ((belvederelaw10_num.f t238).bind fun t245 => (if t245 = t240 then (if bt241.1.toList = bt243.1.toList then ((belvederelaw10_num.f bt241.2).bind fun t246 => (if t246 = bt243.2 then ((belvederelaw10_sure.f k).bind fun t247 => (some t247)) else (none))) else (none)) else (none))) else (none)))) = some r := H;have A11 := As A110;clear A110;replace H := bE H;obtain ⟨⟨t241, t242⟩, A120, H⟩ := H;replace H : ((belvedereref10_Letters.f k a2 a1).bind fun bt243 => (if t237 = t239 then ((belvederelaw10_num.f t238).bind fun t245 => (if t245 = t240 then (if t241.toList = bt243.1.toList then ((belvederelaw10_num.f t242).bind fun t246 => (if t246 = bt243.2 then ((belvederelaw10_sure.f k).bind fun t247 => (some t247)) else (none))) else (none)) else (none))) else (none))) = some r := H;have A12 := As A120;clear A120;replace H := bE H;obtain ⟨⟨t243, t244⟩, A130, H⟩ := H;replace H : (if t237 = t239 then ((belvederelaw10_num.f t238).bind fun t245 => (if t245 = t240 then (if t241.toList = t243.toList then ((belvederelaw10_num.f t242).bind fun t246 => (if t246 = t244 then ((belvederelaw10_sure.f k).bind fun t247 => (some t247)) else (none))) else (none)) else (none))) else (none)) = some r := H;have A13 := As A130;clear A130
   by_cases c14 : t237 = t239
   ·rw [if_pos c14] at H;have c14b0 : (t237 == t239) = true := beq_iff_eq.mpr c14;have c14b1 : (t237 != t239) = false := bne_eq_false_iff_eq.mpr c14;clear c14;replace H := bE H;obtain ⟨t245, A150, H⟩ := H;replace H : (if t245 = t240 then (if t241.toList = t243.toList then ((belvederelaw10_num.f t242).bind fun t246 => (if t246 = t244 then ((belvederelaw10_sure.f k).bind fun t247 => (some t247)) else (none))) else (none)) else (none)) = some r := H;have A15 := As A150;clear A150
    by_cases c16 : t245 = t240
    ·rw [if_pos c16] at H;have c16b0 : (t245 == t240) = true := beq_iff_eq.mpr c16;have c16b1 : (t245 != t240) = false := bne_eq_false_iff_eq.mpr c16;clear c16
     by_cases c17 : t241.toList = t243.toList
     ·rw [if_pos c17] at H;have c17b0 : (t241.toList == t243.toList) = true := beq_iff_eq.mpr c17;have c17b1 : (t241.toList != t243.toList) = false := bne_eq_false_iff_eq.mpr c17;clear c17;replace H := bE H;obtain ⟨t246, A180, H⟩ := H;replace H : (if t246 = t244 then ((belvederelaw10_sure.f k).bind fun t247 => (some t247)) else (none)) = some r := H;have A18 := As A180;clear A180
      by_cases c19 : t246 = t244
      ·rw [if_pos c19] at H;have c19b0 : (t246 == t244) = true := beq_iff_eq.mpr c19;have c19b1 : (t246 != t244) = false := bne_eq_false_iff_eq.mpr c19;clear c19;replace H := bE H;obtain ⟨t247, A200, H⟩ := H;replace H : (some t247) = some r := H;have A20 := As A200;clear A200;obtain rfl := Option.some.inj H
       go_enter Tryz.func5, Tryz.ntmps5
       go_wp2_with (first | ((with_reducible refine gate_callee (f := 16) rfl ?_); refine goesL_ (some 27) rfl rfl Tryz.func16 kr rfl #[.string a0, .string a1] rfl sa ?_; (with_reducible refine (value_Options.calls k a0 a1 t237 t238 _ A10.out ?side1).mono ?_); (case side1 => first | exact hG | exact GL.below hG (be HB.out) | (repeat (first | exact hG | apply GL.drewN | apply GL.drew | apply GL.alloc))); rintro e w21 ⟨rfl, hb⟩; refine ⟨_, rfl, ?_⟩; replace HB := As (XT (be HB.out) hb); (try clear hb); (try clear hb2); (try clear hk); (try clear hi); (try simp only [errW_none, errW_some])) | ((with_reducible refine gate_callee (f := 17) rfl ?_); refine goesL_ (some 33) rfl rfl Tryz.func17 kr rfl #[.string a0, .string a1] rfl sa ?_; (with_reducible refine (belvedereref10_Options.calls k a0 a1 _ _ _ A11.out).mono ?_); rintro e w22 ⟨rfl, hb⟩; refine ⟨_, rfl, ?_⟩; replace HB := As (XT (be HB.out) hb); (try clear hb); (try clear hb2); (try clear hk); (try clear hi)) | ((with_reducible refine gate_callee (f := 18) rfl ?_); refine goesL_ (some 39) rfl rfl Tryz.func18 kr rfl #[.int .i64 a2, .string a1] rfl sa ?_; (with_reducible refine (value_Letters.calls k a2 a1 t241 t242 _ A12.out ?side1).mono ?_); (case side1 => first | exact hG | exact GL.below hG (be HB.out) | (repeat (first | exact hG | apply GL.drewN | apply GL.drew | apply GL.alloc))); rintro e w23 ⟨rfl, hb⟩; refine ⟨_, rfl, ?_⟩; replace HB := As (XT (be HB.out) hb); (try clear hb); (try clear hb2); (try clear hk); (try clear hi); (try simp only [errW_none, errW_some])) | ((with_reducible refine gate_callee (f := 19) rfl ?_); refine goesL_ (some 45) rfl rfl Tryz.func19 kr rfl #[.int .i64 a2, .string a1] rfl sa ?_; (with_reducible refine (belvedereref10_Letters.calls k a2 a1 _ _ _ A13.out).mono ?_); rintro e w' ⟨rfl, ⟨nd, rfl⟩⟩; refine ⟨_, rfl, ?_⟩; have CA15 := fun W (hW_ : GL W) => belvederelaw10_num.calls t238 t245 W A15.out hW_; try simp only [errW_none, errW_some] at CA15) | (go_at_call 9; (with_reducible refine (CA15 _ ?side1).mono ?_); (case side1 => first | exact hG | exact GL.below hG (be HB.out) | (repeat (first | exact hG | apply GL.drewN | apply GL.drew | apply GL.alloc))); rintro e w24 ⟨rfl, hb⟩; replace HB := As (XT (be HB.out) hb); (try clear hb); (try clear hb2); (try clear hk); (try clear hi); have CA18 := fun W (hW_ : GL W) => belvederelaw10_num.calls t242 t246 W A18.out hW_; try simp only [errW_none, errW_some] at CA18) | (go_at_call 9; (with_reducible refine (CA18 _ ?side1).mono ?_); (case side1 => first | exact hG | exact GL.below hG (be HB.out) | (repeat (first | exact hG | apply GL.drewN | apply GL.drew | apply GL.alloc))); rintro e w25 ⟨rfl, hb⟩; replace HB := As (XT (be HB.out) hb); (try clear hb); (try clear hb2); (try clear hk); (try clear hi)) | (go_at_call 10; (with_reducible refine (belvederelaw10_sure.calls k  t247 _ A20.out ?side1).mono ?_); (case side1 => first | exact hG | exact GL.below hG (be HB.out) | (repeat (first | exact hG | apply GL.drewN | apply GL.drew | apply GL.alloc))); rintro e w26 ⟨rfl, hb⟩; replace HB := As (XT (be HB.out) hb); (try clear hb); (try clear hb2); (try clear hk); (try clear hi)))
       go_ret
       exact ⟨by first | rfl | (simp [errW_none, errW_some] <;> rfl) | (simp [*, errW_none, errW_some] <;> rfl), by repeat (first | (with_reducible first | exact HB.out | apply XA | apply XN | apply XD) | exact HB.out)⟩
      ·rw [if_neg c19] at H;exact absurd H (by simp)
     ·rw [if_neg c17] at H;exact absurd H (by simp)
    ·rw [if_neg c16] at H;exact absurd H (by simp)
   ·rw [if_neg c14] at H;exact absurd H (by simp)

/-- THE ONE PURE STATEMENT of belvederelaw10_ValueOptions: yours. -/
def belvederelaw10_ValueOptions.Pure : Prop := ∀ (a0 : ByteArray) (a1 : ByteArray) (a2 : Int), a0.size ≤ 140737488351232 → a1.size ≤ 140737488351232 → (Lit.int .i64 a2).wf = true → ∃ k, belvederelaw10_ValueOptions.f k a0 a1 a2 = some true
theorem belvederelaw10_ValueOptions.walk (P : belvederelaw10_ValueOptions.Pure) (a0 : ByteArray) (a1 : ByteArray) (a2 : Int) (w : World) (w0 : a0.size ≤ 140737488351232) (w1 : a1.size ≤ 140737488351232) (w2 : (Lit.int .i64 a2).wf = true) (hG : GL w) :
  Calls Tryz.prog 5 #[.string a0, .string a1, .int .i64 a2] w fun e w' => e = .returned (.bool true) ∧ Below w.heap.size w w' := by
 obtain ⟨k, h⟩ := P a0 a1 a2 w0 w1 w2;refine (belvederelaw10_ValueOptions.calls k a0 a1 a2 true w h hG).mono ?_;rintro e w' ⟨rfl, hd⟩;exact ⟨rfl, hd⟩

/-! ### value_Joined_1: function 41 -/
def value_Joined_1.f (a0 : ByteArray) : Option (Bool) := if a0.toList = ([] : List UInt8) then (some true) else ((strings_Contains.f a0 (⟨#[44]⟩ : ByteArray)).bind fun t248 => (if t248 = true then (some true) else ((strings_Trim.f a0 (⟨#[32, 9]⟩ : ByteArray)).bind fun t249 => (some (t249.toList != a0.toList)))))
set_option maxHeartbeats 8000000 in
set_option maxRecDepth 100000 in
theorem value_Joined_1.calls (a0 : ByteArray) (r : Bool) (w : World) (h : value_Joined_1.f a0 = some r) (hG : GL w) :
  Calls Tryz.prog 41 #[.string a0] w fun e w' => e = .returned (.bool r) ∧ Below w.heap.size w w' := by
 have HB := As (Below.refl w.heap.size w);have H : (if a0.toList = ([] : List UInt8) then (some true) else ((strings_Contains.f a0 (⟨#[44]⟩ : ByteArray)).bind fun t248 => (if t248 = true then (some true) else ((strings_Trim.f a0 (⟨#[32, 9]⟩ : ByteArray)).bind fun t249 => (some (t249.toList != a0.toList)))))) = some r := h;clear h
 by_cases c2 : a0.toList = ([] : List UInt8)
 ·rw [if_pos c2] at H;have c2b0 : (a0.toList == ([] : List UInt8)) = true := beq_iff_eq.mpr c2;have c2b1 : (a0.toList != ([] : List UInt8)) = false := bne_eq_false_iff_eq.mpr c2;clear c2;obtain rfl := Option.some.inj H
  go_enter Tryz.func41, Tryz.ntmps41
  go_wp2
  go_ret
  exact ⟨by first | rfl | (simp [errW_none, errW_some] <;> rfl) | (simp [*, errW_none, errW_some] <;> rfl), by repeat (first | (with_reducible first | exact HB.out | apply XA | apply XN | apply XD) | exact HB.out)⟩
 ·rw [if_neg c2] at H;have c2b0 : (a0.toList == ([] : List UInt8)) = false := beq_eq_false_iff_ne.mpr c2;have c2b1 : (a0.toList != ([] : List UInt8)) = true := bne_iff_ne.mpr c2;replace H := bE H;obtain ⟨t248, A30, H⟩ := H;replace H : (if t248 = true then (some true) else ((strings_Trim.f a0 (⟨#[32, 9]⟩ : ByteArray)).bind fun t249 => (some (t249.toList != a0.toList)))) = some r := H;have A3 := As A30;clear A30
  by_cases c4 : t248 = true
  ·subst c4
   have H1 : (some true) = some r := by rw [if_pos rfl] at H; exact H
   clear H;have H := H1;clear H1;obtain rfl := Option.some.inj H
   go_enter Tryz.func41, Tryz.ntmps41
   go_wp2_with (first | (go_at_call 30; (with_reducible refine (strings_Contains.calls a0 (⟨#[44]⟩ : ByteArray) true _ A3.out ?side1).mono ?_); (case side1 => first | exact hG | exact GL.below hG (be HB.out) | (repeat (first | exact hG | apply GL.drewN | apply GL.drew | apply GL.alloc))); rintro e w' ⟨rfl, ⟨nd, rfl⟩⟩))
   go_ret
   exact ⟨by first | rfl | (simp [errW_none, errW_some] <;> rfl) | (simp [*, errW_none, errW_some] <;> rfl), by repeat (first | (with_reducible first | exact HB.out | apply XA | apply XN | apply XD) | exact HB.out)⟩
  ·replace c4 := Bool.eq_false_iff.mpr c4;subst c4
   have H1 : ((strings_Trim.f a0 (⟨#[32, 9]⟩ : ByteArray)).bind fun t249 => (some (t249.toList != a0.toList))) = some r := by rw [if_neg (show ¬ (false = true) by decide)] at H; exact H
   clear H;have H := H1;clear H1;replace H := bE H;obtain ⟨t249, A50, H⟩ := H;replace H : (some (t249.toList != a0.toList)) = some r := H;have A5 := As A50;clear A50;obtain rfl := Option.some.inj H
   go_enter Tryz.func41, Tryz.ntmps41
   go_wp2_with (first | (go_at_call 30; (with_reducible refine (strings_Contains.calls a0 (⟨#[44]⟩ : ByteArray) false _ A3.out ?side1).mono ?_); (case side1 => first | exact hG | exact GL.below hG (be HB.out) | (repeat (first | exact hG | apply GL.drewN | apply GL.drew | apply GL.alloc))); rintro e w' ⟨rfl, ⟨nd, rfl⟩⟩) | (go_at_call 35; (with_reducible refine (strings_Trim.calls a0 (⟨#[32, 9]⟩ : ByteArray) _ _ A5.out).mono ?_); rintro e w6 ⟨rfl, hb⟩; replace HB := As (XT (be HB.out) hb); (try clear hb); (try clear hb2); (try clear hk); (try clear hi)))
   go_ret
   exact ⟨by first | rfl | (simp [errW_none, errW_some] <;> rfl) | (simp [*, errW_none, errW_some] <;> rfl), by repeat (first | (with_reducible first | exact HB.out | apply XA | apply XN | apply XD) | exact HB.out)⟩

-- NOT PRINTED: function 71 (slices_IndexFunc_string_string)

-- NOT PRINTED: function 42 (slices_ContainsFunc_string_string)

end Go.Proofs.YtahjnjlkpbjfnaaGreatDoor.P
-- SHRUNK
-- PACKED
-- PACKED2
