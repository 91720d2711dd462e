-- written by myprint.py (this claim's own program, after the kit's print)
import Derived.Test.YtahjnjlkpbjfnaaGreatDoorVaZ
import Derived.Test.YtahjnjlkpbjfnaaGreatDoorPx0
import Derived.Test.YtahjnjlkpbjfnaaGreatDoorPack
namespace Go.Proofs.YtahjnjlkpbjfnaaGreatDoor.P
open Go.RowKit Go.Proofs.YtahjnjlkpbjfnaaGreatDoorW.PrintWords Go.Proofs.YtahjnjlkpbjfnaaGreatDoorW.PrintLast Go.Proofs.YtahjnjlkpbjfnaaGreatDoorW.PrintMore
attribute [local go_sem] max2_int min2_int max_two min_two max_three min_three max_four min_four   -- for this text's walks alone
set_option linter.unusedVariables false
set_option linter.unusedSimpArgs false

/-! ### value_may_1: function 52 -/
def value_may_1.f (a0 : Int) : Option (Bool) := if a0 < 97 then (some true) else (some (decide (a0 > 122)))
set_option maxHeartbeats 8000000 in
set_option maxRecDepth 100000 in
theorem value_may_1.calls (a0 : Int) (r : Bool) (w : World) (h : value_may_1.f a0 = some r) :
  Calls Tryz.prog 52 #[.int .u8 a0] w fun e w' => e = .returned (.bool r) ∧ Drawn0 w w' := by
 have H : (if a0 < 97 then (some true) else (some (decide (a0 > 122)))) = some r := h;clear h
 by_cases c2 : a0 < 97
 ·rw [if_pos c2] at H;have c2b0 : decide (a0 < 97) = true := dY c2;clear c2;obtain rfl := Option.some.inj H
  go_enter Tryz.func52, Tryz.ntmps52
  go_wp2
  go_ret
  exact ⟨by first | rfl | (simp; done) | (simp [*]; done) | (simp; unfold wrap64; omega), by repeat (first | exact Drawn0.refl _ | apply Drawn0.step)⟩
 ·rw [if_neg c2] at H;have c2b0 : decide (a0 < 97) = false := dN c2;clear c2;obtain rfl := Option.some.inj H
  go_enter Tryz.func52, Tryz.ntmps52
  go_wp2
  go_ret
  exact ⟨by first | rfl | (simp; done) | (simp [*]; done) | (simp; unfold wrap64; omega), by repeat (first | exact Drawn0.refl _ | apply Drawn0.step)⟩

/-! ### cmp_isNaN_byte: function 131 -/
def cmp_isNaN_byte.f (a0 : Int) : Option (Bool) := some (a0 != a0)
set_option maxHeartbeats 8000000 in
set_option maxRecDepth 100000 in
theorem cmp_isNaN_byte.calls (a0 : Int) (r : Bool) (w : World) (h : cmp_isNaN_byte.f a0 = some r) :
  Calls Tryz.prog 131 #[.int .u8 a0] w fun e w' => e = .returned (.bool r) ∧ Drawn0 w w' := by
 have H : (some (a0 != a0)) = some r := h;clear h;obtain rfl := Option.some.inj H
 go_enter Tryz.func131, Tryz.ntmps131
 go_wp2
 go_ret
 exact ⟨by first | rfl | (simp; done) | (simp [*]; done) | (simp; unfold wrap64; omega), by repeat (first | exact Drawn0.refl _ | apply Drawn0.step)⟩

/-! ### cmp_Less_byte: function 109 -/
def cmp_Less_byte.f (a0 : Int) (a1 : Int) : Option (Bool) := (cmp_isNaN_byte.f a0).bind fun t111 => (if t111 = true then ((cmp_isNaN_byte.f a1).bind fun t112 => (if t112 = true then (some (decide (a0 < a1))) else (some true))) else (some (decide (a0 < a1))))
set_option maxHeartbeats 8000000 in
set_option maxRecDepth 100000 in
theorem cmp_Less_byte.calls (a0 : Int) (a1 : Int) (r : Bool) (w : World) (h : cmp_Less_byte.f a0 a1 = some r) :
  Calls Tryz.prog 109 #[.int .u8 a0, .int .u8 a1] w fun e w' => e = .returned (.bool r) ∧ Drawn0 w w' := by
 have H : ((cmp_isNaN_byte.f a0).bind fun t111 => (if t111 = true then ((cmp_isNaN_byte.f a1).bind fun t112 => (if t112 = true then (some (decide (a0 < a1))) else (some true))) else (some (decide (a0 < a1))))) = some r := h;clear h;replace H := bE H;obtain ⟨t111, A30, H⟩ := H;replace H : (if t111 = true then ((cmp_isNaN_byte.f a1).bind fun t112 => (if t112 = true then (some (decide (a0 < a1))) else (some true))) else (some (decide (a0 < a1)))) = some r := H;have A3 := As A30;clear A30
 by_cases c4 : t111 = true
 focus
  subst c4
  have H1 : ((cmp_isNaN_byte.f a1).bind fun t112 => (if t112 = true then (some (decide (a0 < a1))) else (some true))) = some r := by rw [if_pos rfl] at H; exact H
  clear H;have H := H1;clear H1;replace H := bE H;obtain ⟨t112, A50, H⟩ := H;replace H : (if t112 = true then (some (decide (a0 < a1))) else (some true)) = some r := H;have A5 := As A50;clear A50
  by_cases c6 : t112 = true
  subst c6
  have H1 : (some (decide (a0 < a1))) = some r := by rw [if_pos rfl] at H; exact H
  clear H;have H := H1;clear H1;obtain rfl := Option.some.inj H
  rotate_left
  replace c6 := Bool.eq_false_iff.mpr c6;subst c6
  have H1 : (some true) = some r := by rw [if_neg (show ¬ (false = true) by decide)] at H; exact H
  clear H;have H := H1;clear H1;obtain rfl := Option.some.inj H
 rotate_left 2
 replace c4 := Bool.eq_false_iff.mpr c4;subst c4
 have H1 : (some (decide (a0 < a1))) = some r := by rw [if_neg (show ¬ (false = true) by decide)] at H; exact H
 clear H;have H := H1;clear H1;obtain rfl := Option.some.inj H
 all_goals
  go_enter Tryz.func109, Tryz.ntmps109
  go_wp2_with (first | ((with_reducible refine gate_callee (f := 131) rfl ?_); refine goesL_ (some 6) rfl rfl Tryz.func131 kr rfl #[.int .u8 a0] rfl sa ?_; (with_reducible refine (cmp_isNaN_byte.calls a0 _ _ A3.out).mono ?_); rintro e w' ⟨rfl, ⟨nd, rfl⟩⟩; refine ⟨_, rfl, ?_⟩) | (go_at_call 131; (with_reducible refine (cmp_isNaN_byte.calls a1 _ _ A5.out).mono ?_); rintro e w' ⟨rfl, ⟨nd, rfl⟩⟩))
  go_ret
  exact ⟨by first | rfl | (simp; done) | (simp [*]; done) | (simp; unfold wrap64; omega), by repeat (first | exact Drawn0.refl _ | apply Drawn0.step)⟩

/-! ### slices_insertionSortOrdered_byte: function 103 -/
mutual
def slices_insertionSortOrdered_byte.l0 : Nat → List Int → Int → Int → Int → Option (List Int)
 | 0, _, _, _, _ => none
 | k + 1, x0, x1, x2, x6 => if x6 < x2 then (slices_insertionSortOrdered_byte.l1 k x0 x1 x2 x6 x6) else (some x0)
def slices_insertionSortOrdered_byte.l1 : Nat → List Int → Int → Int → Int → Int → Option (List Int)
 | 0, _, _, _, _, _ => none
 | k + 1, x0, x1, x2, x6, x7 => if x7 > x1 then (if 0 ≤ x7 then (if x7 < (x0.length : Int) then (if 0 ≤ (wrap64 (x7 - 1)) then (if (wrap64 (x7 - 1)) < (x0.length : Int) then ((cmp_Less_byte.f (rd x0 x7) (rd x0 (wrap64 (x7 - 1)))).bind fun t115 => (if t115 = true then (slices_insertionSortOrdered_byte.l1 k ((x0.set (x7 : Int).toNat (rd x0 (wrap64 (x7 - 1)))).set ((wrap64 (x7 - 1)) : Int).toNat (rd x0 x7)) x1 x2 x6 (wrap64 (x7 - 1))) else (slices_insertionSortOrdered_byte.l0 k x0 x1 x2 (wrap64 (x6 + 1))))) else (none)) else (none)) else (none)) else (none)) else (slices_insertionSortOrdered_byte.l0 k x0 x1 x2 (wrap64 (x6 + 1)))
end
def slices_insertionSortOrdered_byte.f (k : Nat) (l0 : List Int) (a1 : Int) (a2 : Int) : Option (List Int) := slices_insertionSortOrdered_byte.l0 k l0 a1 a2 (wrap64 (a1 + 1))
theorem slices_insertionSortOrdered_byte.mono_l : ∀ k, (∀ y0 y1 y2 y3, LeO (slices_insertionSortOrdered_byte.l0 k y0 y1 y2 y3) (slices_insertionSortOrdered_byte.l0 (k + 1) y0 y1 y2 y3)) ∧ (∀ y0 y1 y2 y3 y4, LeO (slices_insertionSortOrdered_byte.l1 k y0 y1 y2 y3 y4) (slices_insertionSortOrdered_byte.l1 (k + 1) y0 y1 y2 y3 y4))
 | 0 => ⟨fun _ _ _ _ r h => by simp [slices_insertionSortOrdered_byte.l0] at h, fun _ _ _ _ _ r h => by simp [slices_insertionSortOrdered_byte.l1] at h⟩
 | k + 1 => by
  obtain ⟨ih0, ih1⟩ := slices_insertionSortOrdered_byte.mono_l k;refine ⟨?_, ?_⟩
  ·intro y0 y1 y2 y3;unfold slices_insertionSortOrdered_byte.l0
   repeat' first
   | (with_reducible exact ih0 _ _ _ _)
   | (with_reducible exact ih1 _ _ _ _ _)
   | (with_reducible exact LeO.refl _)
   | (with_reducible exact LeO.none _)
   | (with_reducible refine LeO.ite ?_ ?_)
   | (with_reducible refine LeO.bind ?_ (fun _ => ?_))
   | exact ih0 _ _ _ _
   | exact ih1 _ _ _ _ _
   | exact LeO.none _
   | refine LeO.ite ?_ ?_
   | refine LeO.bind ?_ (fun _ => ?_)
  ·intro y0 y1 y2 y3 y4;unfold slices_insertionSortOrdered_byte.l1
   repeat' first
   | (with_reducible exact ih0 _ _ _ _)
   | (with_reducible exact ih1 _ _ _ _ _)
   | (with_reducible exact LeO.refl _)
   | (with_reducible exact LeO.none _)
   | (with_reducible refine LeO.ite ?_ ?_)
   | (with_reducible refine LeO.bind ?_ (fun _ => ?_))
   | exact ih0 _ _ _ _
   | exact ih1 _ _ _ _ _
   | exact LeO.none _
   | refine LeO.ite ?_ ?_
   | refine LeO.bind ?_ (fun _ => ?_)
theorem slices_insertionSortOrdered_byte.mono : ∀ a0 a1 a2 k, LeO (slices_insertionSortOrdered_byte.f k a0 a1 a2) (slices_insertionSortOrdered_byte.f (k + 1) a0 a1 a2) := by
 intro a0 a1 a2 k;obtain ⟨ih0, ih1⟩ := slices_insertionSortOrdered_byte.mono_l k;unfold slices_insertionSortOrdered_byte.f
 repeat' first
   | (with_reducible exact ih0 _ _ _ _)
   | (with_reducible exact ih1 _ _ _ _ _)
   | (with_reducible exact LeO.refl _)
   | (with_reducible exact LeO.none _)
   | (with_reducible refine LeO.ite ?_ ?_)
   | (with_reducible refine LeO.bind ?_ (fun _ => ?_))
   | exact ih0 _ _ _ _
   | exact ih1 _ _ _ _ _
   | exact LeO.none _
   | refine LeO.ite ?_ ?_
   | refine LeO.bind ?_ (fun _ => ?_)
def slices_insertionSortOrdered_byte.T4 : Bool × List (List Nat × List Nat) := (true, [([], []), ([], []), ([0, 1], [0, 1]), ([2], [2]), ([3], [3]), ([3], [3]), ([4, 5, 3], [3, 4, 5]), ([6, 3], [3, 6]), ([3], [3]), ([3], [3]), ([9, 3], [3, 9]), ([8, 10, 3], [3, 8, 10]), ([11, 3], [3, 11]), ([7, 12, 3, 3], [3, 7, 12]), ([3, 13], [3, 13])])
def slices_insertionSortOrdered_byte.B4 : List Nat := [0, 0, 3, 7, 15, 15, 63, 127, 15, 15, 527, 1807, 3855, 8191, 16383]
theorem slices_insertionSortOrdered_byte.tab4 : rtab .any (opsOf Tryz.f103 4) = slices_insertionSortOrdered_byte.T4 := by kernel_rfl
theorem slices_insertionSortOrdered_byte.bits4 : waitsOk slices_insertionSortOrdered_byte.T4.2 slices_insertionSortOrdered_byte.B4 = true := by kernel_rfl
def slices_insertionSortOrdered_byte.T6 : Bool × List (List Nat × List Nat) := (true, [([], []), ([], []), ([], []), ([], []), ([3], [3]), ([], []), ([], []), ([6], [6]), ([5, 7], [5, 7]), ([8], [8]), ([], []), ([], []), ([10, 11], [10, 11]), ([12], [12]), ([0, 1, 0, 1, 5, 6, 7, 8, 9, 13], [0, 1]), ([14, 9, 0, 1, 5, 6, 7, 8, 9, 13], [9, 14]), ([2, 4, 0, 1, 2, 3, 4, 5, 6, 7, 8, 9, 10, 11, 12, 13, 14, 15], [2, 4]), ([16, 13, 15, 0, 1, 2, 3, 4, 5, 6, 7, 8, 9, 10, 11, 12, 13, 14, 15], [13, 16])])
def slices_insertionSortOrdered_byte.B6 : List Nat := [0, 0, 0, 0, 8, 0, 0, 64, 224, 480, 0, 0, 3072, 7168, 16355, 32739, 65535, 131071]
theorem slices_insertionSortOrdered_byte.tab6 : rtab .any (opsOf Tryz.f103 6) = slices_insertionSortOrdered_byte.T6 := by kernel_rfl
theorem slices_insertionSortOrdered_byte.bits6 : waitsOk slices_insertionSortOrdered_byte.T6.2 slices_insertionSortOrdered_byte.B6 = true := by kernel_rfl
set_option maxHeartbeats 8000000 in
set_option maxRecDepth 100000 in
theorem slices_insertionSortOrdered_byte.calls (k : Nat) (P0_ : Nat → Prop) (u9000_ : Value) (l0 : List Int) (a1 : Int) (a2 : Int) (r : List Int) (w0 w : World) (hB : Below w0.heap.size w0 w) (ho0 : Kz.R (Kd.int .u8) 5 w w0.heap.size P0_ u9000_ l0) (h : slices_insertionSortOrdered_byte.f k l0 a1 a2 = some r) :
  Calls Tryz.prog 103 #[u9000_, .int .i64 a1, .int .i64 a2] w fun e w' => e = .returned (.tuple #[]) ∧ Kz.R (Kd.int .u8) 5 w' w0.heap.size (fun k_ => (P0_ k_ ∨ w.heap.size ≤ k_)) u9000_ r ∧ Below w0.heap.size w0 w' ∧ Kept w w' (fun k_ => P0_ k_) := by
 have HO0 := As (show Kz.R (Kd.int .u8) 5 w w0.heap.size (fun k_ => (P0_ k_ ∨ w.heap.size ≤ k_)) u9000_ l0 from Kz.R_mono ho0 (fun k_ hk => (.inl hk)));have HK := As (Kept.refl w (fun k_ => P0_ k_));have HW0 := As hB.size;have HB := As hB;clear hB;have H : (slices_insertionSortOrdered_byte.l0 k l0 a1 a2 (wrap64 (a1 + 1))) = some r := h;clear h;have H' := As H;clear H
 go_enter Tryz.func103, Tryz.ntmps103
 go_wp2
 go_loopg [6] k (fun kq v6 w' => ∃ (x0_1 : List Int) (x6_1 : Int), v6 = .int .i64 x6_1 ∧ Aside0 (slices_insertionSortOrdered_byte.l0 kq x0_1 a1 a2 x6_1 = some r) ∧ Aside0 (kq ≤ k) ∧ Aside0 (Kz.R (Kd.int .u8) 5 w' w0.heap.size (fun k_ => (P0_ k_ ∨ w.heap.size ≤ k_)) u9000_ x0_1) ∧ Aside0 (Kept w w' (fun k_ => P0_ k_)) ∧ Aside0 (Below w0.heap.size w0 w'))
 case atStart => exact ⟨(l0), (wrap64 (a1 + 1)), sw, H', ⟨Nat.le_refl _⟩, ⟨by (with_reducible repeat (first | apply Kz.R_alloc | apply Kz.R_drewN | apply Kz.R_drew)); exact HO0.out⟩, ⟨by repeat (first | (with_reducible first | exact HK.out | apply Kept.alloc | apply Kept.drewN | apply Kept.drew) | exact HK.out)⟩, ⟨by repeat (first | (with_reducible first | exact HB.out | apply XA | apply XN | apply XD) | exact HB.out)⟩⟩
 case round =>
  clear H'
  try clear c1
  try clear p2
  obtain ⟨x0_1, x6_1, rfl, HA, HK1, HO_0, HK, HB⟩ := hrel
  cases gk with
  | zero => exact absurd HA.out (by simp [slices_insertionSortOrdered_byte.l0])
  | succ k1 =>
   have H := HA.out;clear HA;simp only [slices_insertionSortOrdered_byte.l0] at H
   by_cases c4 : x6_1 < a2
   ·rw [if_pos c4] at H;have c4b0 : decide (x6_1 < a2) = true := dY c4;clear c4;have H' := As H;clear H
    go_wp2
    go_loopg [7] k1 (fun kq v7 w' => ∃ (x0_2 : List Int) (x7_2 : Int), v7 = .int .i64 x7_2 ∧ Aside0 (slices_insertionSortOrdered_byte.l1 kq x0_2 a1 a2 x6_1 x7_2 = some r) ∧ Aside0 (kq ≤ k1) ∧ Aside0 (Kz.R (Kd.int .u8) 5 w' w0.heap.size (fun k_ => (P0_ k_ ∨ w.heap.size ≤ k_)) u9000_ x0_2) ∧ Aside0 (Kept w w' (fun k_ => P0_ k_)) ∧ Aside0 (Below w0.heap.size w0 w'))
    case atStart => exact ⟨(x0_1), (x6_1), sw, H', ⟨Nat.le_refl _⟩, ⟨by (with_reducible repeat (first | apply Kz.R_alloc | apply Kz.R_drewN | apply Kz.R_drew)); exact HO_0.out⟩, ⟨by repeat (first | (with_reducible first | exact HK.out | apply Kept.alloc | apply Kept.drewN | apply Kept.drew) | exact HK.out)⟩, ⟨by repeat (first | (with_reducible first | exact HB.out | apply XA | apply XN | apply XD) | exact HB.out)⟩⟩
    case round =>
     clear H'
     try clear c1
     try clear p2
     try clear c4
     try clear c4b0
     try clear p2
     obtain ⟨x0_2, x7_2, rfl, HA, HK2, HO_0, HK, HB⟩ := hrel
     cases gk with
     | zero => exact absurd HA.out (by simp [slices_insertionSortOrdered_byte.l1])
     | succ k2 =>
      have H := HA.out;clear HA;simp only [slices_insertionSortOrdered_byte.l1] at H
      by_cases c5 : x7_2 > a1
      focus
       rw [if_pos c5] at H;have c5b0 : decide (a1 < x7_2) = true := dY c5;clear c5
       by_cases c6 : 0 ≤ x7_2
       rotate_left
       ·rw [if_neg c6] at H;exact absurd H (by simp)
       rw [if_pos c6] at H;have c6b0 : decide (0 ≤ x7_2) = true := dY c6;clear c6
       by_cases c7 : x7_2 < (x0_2.length : Int)
       rotate_left
       ·rw [if_neg c7] at H;exact absurd H (by simp)
       rw [if_pos c7] at H;have c7b0 : decide (x7_2 < (x0_2.length : Int)) = true := dY c7;clear c7
       obtain ⟨ji8, hji8⟩ : ∃ j_ : Int, (wrap64 (x7_2 - 1)) = j_ := ⟨_, rfl⟩
       replace H : (if 0 ≤ (ji8) then (if (ji8) < (x0_2.length : Int) then ((cmp_Less_byte.f (rd x0_2 x7_2) (rd x0_2 (ji8))).bind fun t115 => (if t115 = true then (slices_insertionSortOrdered_byte.l1 k2 ((x0_2.set (x7_2 : Int).toNat (rd x0_2 (ji8))).set ((ji8) : Int).toNat (rd x0_2 x7_2)) a1 a2 x6_1 ji8) else (slices_insertionSortOrdered_byte.l0 k2 x0_2 a1 a2 (wrap64 (x6_1 + 1))))) else (none)) else (none)) = some r := by first | (rw [hji8] at H; exact H) | (simp only [hji8] at H ⊢; exact H)
       have hji8w : (IntKind.i64.wrap (x7_2 - 1)) = ji8 := (i64_w _).trans hji8
       by_cases c9 : 0 ≤ (ji8)
       rotate_left
       ·rw [if_neg c9] at H;exact absurd H (by simp)
       rw [if_pos c9] at H;have c9b0 : decide (0 ≤ (ji8)) = true := dY c9;clear c9
       by_cases c10 : (ji8) < (x0_2.length : Int)
       rotate_left
       ·rw [if_neg c10] at H;exact absurd H (by simp)
       rw [if_pos c10] at H;have c10b0 : decide ((ji8) < (x0_2.length : Int)) = true := dY c10;clear c10;replace H := bE H;obtain ⟨t115, A110, H⟩ := H;replace H : (if t115 = true then (slices_insertionSortOrdered_byte.l1 k2 ((x0_2.set (x7_2 : Int).toNat (rd x0_2 (ji8))).set ((ji8) : Int).toNat (rd x0_2 x7_2)) a1 a2 x6_1 ji8) else (slices_insertionSortOrdered_byte.l0 k2 x0_2 a1 a2 (wrap64 (x6_1 + 1)))) = some r := H;have A11 := As A110;clear A110
       by_cases c12 : t115 = true
       subst c12
       have H1 : (slices_insertionSortOrdered_byte.l1 k2 ((x0_2.set (x7_2 : Int).toNat (rd x0_2 (ji8))).set ((ji8) : Int).toNat (rd x0_2 x7_2)) a1 a2 x6_1 ji8) = some r := by rw [if_pos rfl] at H; exact H
       clear H;have H := H1;clear H1
       obtain ⟨y118, hy118⟩ : ∃ y_ : List Int, y_ = (x0_2.set (x7_2 : Int).toNat (rd x0_2 (ji8))) := ⟨_, rfl⟩
       replace H : (slices_insertionSortOrdered_byte.l1 k2 (y118.set ((ji8) : Int).toNat (rd x0_2 x7_2)) a1 a2 x6_1 ji8) = some r := by first | (rw [hy118]; with_reducible exact H) | (have H2_ := (Option.bind_some _ _).symm.trans H; rw [hy118]; with_reducible exact H2_) | (have H2_ := (Option.bind_some _ _).symm.trans H; with_reducible exact H2_) | with_reducible exact H | (rw [hy118]; exact H) | exact H
       have Ny118 := As hy118;clear hy118
       obtain ⟨y119, hy119⟩ : ∃ y_ : List Int, y_ = (y118.set ((ji8) : Int).toNat (rd x0_2 x7_2)) := ⟨_, rfl⟩
       replace H : (slices_insertionSortOrdered_byte.l1 k2 y119 a1 a2 x6_1 ji8) = some r := by first | (rw [hy119]; with_reducible exact H) | (have H2_ := (Option.bind_some _ _).symm.trans H; rw [hy119]; with_reducible exact H2_) | (have H2_ := (Option.bind_some _ _).symm.trans H; with_reducible exact H2_) | with_reducible exact H | (rw [hy119]; exact H) | exact H
       have Ny119 := As hy119;clear hy119;have H' := As H;clear H
       have m2_ := trivial
       rotate_left
       replace c12 := Bool.eq_false_iff.mpr c12;subst c12
       have H1 : (slices_insertionSortOrdered_byte.l0 k2 x0_2 a1 a2 (wrap64 (x6_1 + 1))) = some r := by rw [if_neg (show ¬ (false = true) by decide)] at H; exact H
       clear H;have H := H1;clear H1;have H' := As H;clear H
       have m1_ := trivial
      rotate_left 2
      rw [if_neg c5] at H;have c5b0 : decide (a1 < x7_2) = false := dN c5;clear c5;have H' := As H;clear H
      all_goals try go_wp2
      all_goals try
       first | (clear m1_; have m1_ := trivial) | (clear m2_; have m2_ := trivial)
       replace HO_0 := As (Kz.R_drew HO_0.out);replace HK := As (Kept.drew HK.out);replace HB := As (XD HB.out);obtain ⟨Ao21, co21, eo21⟩ := Kz.R_slice HO_0.out
       (first | subst eo21 | (injection eo21 with f1_ f2_ f3_; have f4_ := f1_.symm; have f5_ := f3_.symm; clear f1_ f2_ f3_; subst f4_; subst f5_))
       have p113 : 0 ≤ (x7_2 : Int) := dT hy;have q113 : x7_2 < (x0_2.length : Int) := dT hy;obtain ⟨ad113, e113, hx113_0⟩ := Kd.at_int (Kz.R_reads' HO_0.out).2.2 x7_2 p113 q113
       cases e113
       replace p113 := eq_true p113;replace q113 := eq_true q113;have p114 : 0 ≤ ((ji8) : Int) := dT hy;have q114 : (ji8) < (x0_2.length : Int) := dT hy;obtain ⟨ad114, e114, hx114_0⟩ := Kd.at_int (Kz.R_reads' HO_0.out).2.2 (ji8) p114 q114
       obtain rfl : ad113 = ad114 := (by injection e114)
       replace p114 := eq_true p114;replace q114 := eq_true q114;refine start_ (n := 15) (S := fun w' => w'.cell? (ad113.add (x7_2).toNat) = some (.int .u8 (rd x0_2 x7_2)) ∧ w'.cell? (ad113.add ((ji8)).toNat) = some (.int .u8 (rd x0_2 (ji8)))) (ds := []) (fl 0 15) kr rfl rfl ⟨hx113_0, hx114_0⟩ (fun hHeld => ?_); refine with_tabW slices_insertionSortOrdered_byte.tab4 slices_insertionSortOrdered_byte.bits4 (fun HT_ HW_ => ?_);generalize wr.drew = w20 at HO_0 HK HB hx113_0 hx114_0 hHeld ⊢;refine pure_ (i := 0) (N := some 16) (v := ?_) (a' := ?_) (fl 1 14) rfl rfl (any_of HT_.out kr) (fun _ _ _ h => h) (Or.inl ⟨by rfl, ?_⟩) ?_ ?_;rotate_left;(intro w';go_simp;with_reducible rfl);rotate_left;(simp only [Act.put,z0,z1,z2,i64_w,i32_w];rfl);refine pure_ (i := 1) (N := some 17) (v := ?_) (a' := ?_) (fl 2 13) rfl rfl (any_of HT_.out kr) (fun _ _ _ h => h) (Or.inl ⟨by rfl, ?_⟩) ?_ ?_;rotate_left;(intro w';go_simp;with_reducible rfl);rotate_left;(simp only [Act.put,z0,z1,z2,i64_w,i32_w];rfl);refine pure_ (i := 2) (N := some 18) (v := ?_) (a' := ?_) (fl 3 12) rfl rfl (any_of HT_.out kr) (fun _ _ _ h => h) (Or.inl ⟨by rfl, ?_⟩) ?_ ?_;rotate_left;(intro w';go_simp;with_reducible rfl);rotate_left;(simp only [Act.put,z0,z1,z2,i64_w,i32_w];rfl);refine pure_ (i := 3) (N := some 19) (v := ?_) (a' := ?_) (fl 4 11) rfl rfl (any_of HT_.out kr) (fun _ _ _ h => h) (Or.inl ⟨by rfl, ?_⟩) ?_ ?_;rotate_left;(intro w';go_simp;with_reducible rfl);rotate_left;(simp only [Act.put,z0,z1,z2,i64_w,i32_w];rfl);refine pure_ (i := 4) (N := some 20) (v := ?_) (a' := ?_) (fl 5 10) rfl rfl (any_of HT_.out kr) (fun _ _ _ h => h) (Or.inl ⟨by rfl, ?_⟩) ?_ ?_;rotate_left;(intro w';go_simp;with_reducible rfl);rotate_left;(simp only [Act.put,z0,z1,z2,i64_w,i32_w];rfl);refine pure_ (i := 5) (N := some 21) (v := ?_) (a' := ?_) (fl 6 9) rfl rfl (any_of HT_.out kr) (fun _ _ _ h => h) (Or.inl ⟨by rfl, ?_⟩) ?_ ?_;rotate_left;(intro w';go_simp;with_reducible rfl);rotate_left;(simp only [Act.put,z0,z1,z2,i64_w,i32_w];rfl);refine pure_ (i := 6) (N := some 22) (v := ?_) (a' := ?_) (fl 7 8) rfl rfl (any_of HT_.out kr) (fun _ _ _ h => h) (Or.inl ⟨by rfl, ?_⟩) ?_ ?_;rotate_left;(intro w';go_simp;with_reducible rfl);rotate_left;(simp only [Act.put,z0,z1,z2,i64_w,i32_w];rfl);refine pure_ (i := 8) (N := some 24) (v := ?_) (a' := ?_) #[Y,Y,Y,Y,Y,Y,Y,O,Y,O,O,O,O,O,O] rfl rfl (any_of HT_.out kr) (fun _ _ _ h => h) (Or.inl ⟨by rfl, ?_⟩) ?_ ?_;rotate_left;(intro w';go_simp;with_reducible rfl);rotate_left;(simp only [Act.put,z0,z1,z2,i64_w,i32_w];rfl);refine pure_ (i := 9) (N := some 25) (v := ?_) (a' := ?_) #[Y,Y,Y,Y,Y,Y,Y,O,Y,Y,O,O,O,O,O] rfl rfl (any_of HT_.out kr) (fun _ _ _ h => h) (Or.inl ⟨by rfl, ?_⟩) ?_ ?_;rotate_left;(intro w';go_simp;with_reducible rfl);rotate_left;(simp only [Act.put,z0,z1,z2,i64_w,i32_w];rfl);refine pure_ (i := 10) (N := some 26) (v := ?_) (a' := ?_) #[Y,Y,Y,Y,Y,Y,Y,O,Y,Y,Y,O,O,O,O] rfl rfl (any_of HT_.out kr) (fun _ _ _ h => h) (Or.inl ⟨by rfl, ?_⟩) ?_ ?_;rotate_left;(intro w';go_simp;with_reducible rfl);rotate_left;(simp only [Act.put,z0,z1,z2,i64_w,i32_w];rfl);refine pure_ (i := 11) (N := some 27) (v := ?_) (a' := ?_) #[Y,Y,Y,Y,Y,Y,Y,O,Y,Y,Y,Y,O,O,O] rfl rfl (any_of HT_.out kr) (fun _ _ _ h => h) (Or.inl ⟨by rfl, ?_⟩) ?_ ?_;rotate_left;(intro w';go_simp;with_reducible rfl);rotate_left;(simp only [Act.put,z0,z1,z2,i64_w,i32_w];rfl);refine take_ (i := 7) (N := some 23) (v := ?_) (a' := ?_) (fl 12 3) rfl rfl (take_ofW HT_.out HW_.out kr) (fun _ _ _ h => h) (Or.inl ⟨by rfl, ?_⟩) hHeld ?_ ?_;rotate_left;(rintro w' ⟨s0, s1⟩;go_simp;with_reducible rfl);rotate_left;(simp only [Act.put,z0,z1,z2,i64_w,i32_w];rfl);refine take_ (i := 12) (N := some 28) (v := ?_) (a' := ?_) (fl 13 2) rfl rfl (take_ofW HT_.out HW_.out kr) (fun _ _ _ h => h) (Or.inl ⟨by rfl, ?_⟩) hHeld ?_ ?_;rotate_left;(rintro w' ⟨s0, s1⟩;go_simp;with_reducible rfl);rotate_left;(simp only [Act.put,z0,z1,z2,i64_w,i32_w];rfl);refine one_ (i := 13) (N := some 29) (fl 14 1) rfl rfl (one_of HT_.out kr) (by decide) (fun K hK => ?_);refine goes_ Tryz.func109 kr rfl #[.int .u8 (rd x0_2 x7_2), .int .u8 (rd x0_2 (ji8))] (by rfl) rfl rfl (by (try simp only [List.map_toArray, List.map_cons, List.map_nil]); first | done | (simp only [hji8]; rfl) | rfl | (simp only [List.length_drop, List.length_take]; rfl)) ?_
       with_reducible refine (cmp_Less_byte.calls (rd x0_2 x7_2) (rd x0_2 (ji8)) _ _ A11.out).mono ?_
       rintro e w' ⟨rfl, ⟨nd, rfl⟩⟩;refine ⟨_, rfl, ?_⟩;refine hK.out _ _ ⟨hHeld.1, hHeld.2⟩ (fun hHeld => ?_);clear hK K;refine norm_ (a' := ?_) ?_ ?_;rotate_left
       ·show Act.put _ (some 29) _ = _
        simp only [Act.put, z0,z1,z2,i64_w,i32_w];rfl
       refine pure_ (i := 14) (N := some 30) (v := ?_) (a' := ?_) (fl 15 0) rfl rfl (any_of HT_.out kr) (fun _ _ _ h => h) (Or.inl ⟨by rfl, ?_⟩) ?_ ?_;rotate_left;(intro w';go_simp;with_reducible rfl);rotate_left;(simp only [Act.put,z0,z1,z2,i64_w,i32_w];rfl);refine done_ (done_of HT_.out kr) ?_
       try go_wp2
      ·replace HO_0 := As (Kz.R_drew HO_0.out);replace HK := As (Kept.drew HK.out);replace HB := As (XD HB.out);refine start_ (n := 15) (S := fun w' => True) (ds := []) (fl 0 15) kr rfl rfl trivial (fun hHeld => ?_); refine with_tabW slices_insertionSortOrdered_byte.tab4 slices_insertionSortOrdered_byte.bits4 (fun HT_ HW_ => ?_);generalize wr.drew = w22 at HO_0 HK HB hHeld ⊢;refine pure_ (i := 0) (N := some 16) (v := ?_) (a' := ?_) (fl 1 14) rfl rfl (any_of HT_.out kr) (fun _ _ _ h => h) (Or.inl ⟨by rfl, ?_⟩) ?_ ?_;rotate_left;(intro w';go_simp;with_reducible rfl);rotate_left;(simp only [Act.put,z0,z1,z2,i64_w,i32_w];rfl);refine pure_ (i := 1) (N := some 17) (v := ?_) (a' := ?_) (fl 2 13) rfl rfl (any_of HT_.out kr) (fun _ _ _ h => h) (Or.inl ⟨by rfl, ?_⟩) ?_ ?_;rotate_left;(intro w';go_simp;with_reducible rfl);rotate_left;(simp only [Act.put,z0,z1,z2,i64_w,i32_w];rfl);refine pure_ (i := 2) (N := some 18) (v := ?_) (a' := ?_) (fl 3 12) rfl rfl (any_of HT_.out kr) (fun _ _ _ h => h) (Or.inl ⟨by rfl, ?_⟩) ?_ ?_;rotate_left;(intro w';go_simp;with_reducible rfl);rotate_left;(simp only [Act.put,z0,z1,z2,i64_w,i32_w];rfl);refine pure_ (i := 3) (N := some 19) (v := ?_) (a' := ?_) (fl 4 11) rfl rfl (any_of HT_.out kr) (fun _ _ _ h => h) (Or.inl ⟨by rfl, ?_⟩) ?_ ?_;rotate_left;(intro w';go_simp;with_reducible rfl);rotate_left;(simp only [Act.put,z0,z1,z2,i64_w,i32_w];rfl);refine pure_ (i := 4) (N := some 20) (v := undef) (a' := ?_) (fl 5 10) rfl rfl (any_of HT_.out kr) (fun _ _ _ h => h) (Or.inr ⟨by rfl, rfl⟩) ?_ ?_;rotate_left
       ·simp only [Act.put, z0,z1,z2,i64_w,i32_w];rfl
       refine pure_ (i := 5) (N := some 21) (v := undef) (a' := ?_) (fl 6 9) rfl rfl (any_of HT_.out kr) (fun _ _ _ h => h) (Or.inr ⟨by rfl, rfl⟩) ?_ ?_;rotate_left
       ·simp only [Act.put, z0,z1,z2,i64_w,i32_w];rfl
       refine pure_ (i := 6) (N := some 22) (v := undef) (a' := ?_) (fl 7 8) rfl rfl (any_of HT_.out kr) (fun _ _ _ h => h) (Or.inr ⟨by rfl, rfl⟩) ?_ ?_;rotate_left
       ·simp only [Act.put, z0,z1,z2,i64_w,i32_w];rfl
       refine pure_ (i := 7) (N := some 23) (v := undef) (a' := ?_) (fl 8 7) rfl rfl (any_of HT_.out kr) (fun _ _ _ h => h) (Or.inr ⟨by rfl, rfl⟩) ?_ ?_;rotate_left
       ·simp only [Act.put, z0,z1,z2,i64_w,i32_w];rfl
       refine pure_ (i := 8) (N := some 24) (v := undef) (a' := ?_) (fl 9 6) rfl rfl (any_of HT_.out kr) (fun _ _ _ h => h) (Or.inr ⟨by rfl, rfl⟩) ?_ ?_;rotate_left
       ·simp only [Act.put, z0,z1,z2,i64_w,i32_w];rfl
       refine pure_ (i := 9) (N := some 25) (v := undef) (a' := ?_) (fl 10 5) rfl rfl (any_of HT_.out kr) (fun _ _ _ h => h) (Or.inr ⟨by rfl, rfl⟩) ?_ ?_;rotate_left
       ·simp only [Act.put, z0,z1,z2,i64_w,i32_w];rfl
       refine pure_ (i := 10) (N := some 26) (v := undef) (a' := ?_) (fl 11 4) rfl rfl (any_of HT_.out kr) (fun _ _ _ h => h) (Or.inr ⟨by rfl, rfl⟩) ?_ ?_;rotate_left
       ·simp only [Act.put, z0,z1,z2,i64_w,i32_w];rfl
       refine pure_ (i := 11) (N := some 27) (v := undef) (a' := ?_) (fl 12 3) rfl rfl (any_of HT_.out kr) (fun _ _ _ h => h) (Or.inr ⟨by rfl, rfl⟩) ?_ ?_;rotate_left
       ·simp only [Act.put, z0,z1,z2,i64_w,i32_w];rfl
       refine pure_ (i := 12) (N := some 28) (v := undef) (a' := ?_) (fl 13 2) rfl rfl (any_of HT_.out kr) (fun _ _ _ h => h) (Or.inr ⟨by rfl, rfl⟩) ?_ ?_;rotate_left
       ·simp only [Act.put, z0,z1,z2,i64_w,i32_w];rfl
       refine pure_ (i := 13) (N := some 29) (v := undef) (a' := ?_) (fl 14 1) rfl rfl (any_of HT_.out kr) (fun _ _ _ h => h) (Or.inr ⟨by rfl, rfl⟩) ?_ ?_;rotate_left
       ·simp only [Act.put, z0,z1,z2,i64_w,i32_w];rfl
       refine pure_ (i := 14) (N := some 30) (v := ?_) (a' := ?_) (fl 15 0) rfl rfl (any_of HT_.out kr) (fun _ _ _ h => h) (Or.inl ⟨by rfl, ?_⟩) ?_ ?_;rotate_left;(intro w';go_simp;with_reducible rfl);rotate_left;(simp only [Act.put,z0,z1,z2,i64_w,i32_w];rfl);refine done_ (done_of HT_.out kr) ?_
       try go_wp2
       go_roundg k2
       case measure => have := HK1.out; have := HK2.out; omega
       case rel => exact ⟨(x0_2), (wrap64 (x6_1 + 1)), sw, H', ⟨by have := HK1.out; have := HK2.out; omega⟩, ⟨by (with_reducible repeat (first | apply Kz.R_alloc | apply Kz.R_drewN | apply Kz.R_drew)); exact HO_0.out⟩, ⟨by repeat (first | (with_reducible first | exact HK.out | apply Kept.alloc | apply Kept.drewN | apply Kept.drew) | exact HK.out)⟩, ⟨by repeat (first | (with_reducible first | exact HB.out | apply XA | apply XN | apply XD) | exact HB.out)⟩⟩
      ·go_roundg k2
       case measure => have := HK1.out; have := HK2.out; omega
       case rel => exact ⟨(x0_2), (wrap64 (x6_1 + 1)), sw, H', ⟨by have := HK1.out; have := HK2.out; omega⟩, ⟨by (with_reducible repeat (first | apply Kz.R_alloc | apply Kz.R_drewN | apply Kz.R_drew)); exact HO_0.out⟩, ⟨by repeat (first | (with_reducible first | exact HK.out | apply Kept.alloc | apply Kept.drewN | apply Kept.drew) | exact HK.out)⟩, ⟨by repeat (first | (with_reducible first | exact HB.out | apply XA | apply XN | apply XD) | exact HB.out)⟩⟩
      ·(try (rw [drewN_self w20]; generalize hq_ : World.drewN w20 _ = w20; have n0_ : Aside0 (Kz.R (Kd.int .u8) 5 w20 w0.heap.size (fun k_ => (P0_ k_ ∨ w.heap.size ≤ k_)) (.slice (some ad113) x0_2.length co21) x0_2) := ⟨by rw [← hq_]; exact (by (with_reducible repeat (first | apply Kz.R_alloc | apply Kz.R_drewN | apply Kz.R_drew)); exact HO_0.out)⟩; have n1_ : Aside0 (Kept w w20 (fun k_ => P0_ k_)) := ⟨by rw [← hq_]; exact (by repeat (first | (with_reducible first | exact HK.out | apply Kept.alloc | apply Kept.drewN | apply Kept.drew) | exact HK.out))⟩; have n2_ : Aside0 (Below w0.heap.size w0 w20) := ⟨by rw [← hq_]; exact (be HB.out)⟩; clear HO_0 HK HB hq_; have HO_0 := n0_; have HK := n1_; have HB := n2_; clear n0_ n1_ n2_))
       replace HO_0 := As (Kz.R_drew HO_0.out);replace HK := As (Kept.drew HK.out);replace HB := As (XD HB.out);have p116 : 0 ≤ ((ji8) : Int) := dT hy;have q116 : (ji8) < (x0_2.length : Int) := dT hy;obtain ⟨ad116, e116, hx116_0⟩ := Kd.at_int (Kz.R_reads' HO_0.out).2.2 (ji8) p116 q116
       obtain rfl : ad113 = ad116 := (by injection e116)
       replace p116 := eq_true p116;replace q116 := eq_true q116;have p117 : 0 ≤ (x7_2 : Int) := dT hy;have q117 : x7_2 < (x0_2.length : Int) := dT hy;obtain ⟨ad117, e117, hx117_0⟩ := Kd.at_int (Kz.R_reads' HO_0.out).2.2 x7_2 p117 q117
       obtain rfl : ad113 = ad117 := (by injection e117)
       replace p117 := eq_true p117;replace q117 := eq_true q117;have p13 : 0 ≤ (x7_2 : Int) := dT hy;have q13 : (x7_2 : Int) < ((x0_2.length : Int) : Int) := dT hy;obtain ⟨go13, co13, eo13, gb13, gl13, cl13, HG13⟩ := Kz.R_form HO_0.out (by omega)
       (first | cases eo13 | (injection eo13 with ea_ en_ ec_; (first | subst ea_ | (injection ea_ with ea_; subst ea_)); subst ec_; clear en_))
       have GB13 := As gb13;have GG13 := As HG13;clear gb13 gl13 HG13;have HMgo13 := As (show (P0_ go13 ∨ w.heap.size ≤ go13) from (HO_0.out.1 _ rfl))
       (first | simp only [add_plain] at hx113_0 | skip)
       (first | simp only [add_plain] at hx114_0 | skip)
       (first | simp only [add_plain] at hx116_0 | skip)
       (first | simp only [add_plain] at hx117_0 | skip)
       obtain ⟨hx13_0, hf13_0⟩ := Kz.R_celln 0 HO_0.out (x7_2 : Int) p13 q13;replace p13 := eq_true p13;replace q13 := eq_true q13;have HP18 := Kz.R_putn HO_0.out (x7_2 : Int) (rd x0_2 (ji8));rw [← Ny118.out] at HP18;have HQ18 := As HP18;clear HP18;have p14 : 0 ≤ ((ji8) : Int) := dT hy;have q14 : ((ji8) : Int) < ((x0_2.length : Int) : Int) := dT hy;obtain ⟨hx14_0, hf14_0⟩ := Kz.R_celln 0 HQ18.out ((ji8) : Int) p14 q14;replace p14 := eq_true p14;replace q14 := eq_true q14;have HP19 := Kz.R_putn HQ18.out ((ji8) : Int) (rd x0_2 x7_2);rw [← Ny119.out] at HP19;have HQ19 := As HP19;clear HP19;refine start_ (n := 18) (S := fun w' => w'.cell? ⟨go13, ((ji8)).toNat, none⟩ = some (.int .u8 (rd x0_2 (ji8))) ∧ w'.cell? ⟨go13, (x7_2).toNat, none⟩ = some (.int .u8 (rd x0_2 x7_2))) (ds := [15, 17]) (fl 0 18) kr rfl rfl ⟨hx116_0, hx117_0⟩ (fun hHeld => ?_); refine with_tabW slices_insertionSortOrdered_byte.tab6 slices_insertionSortOrdered_byte.bits6 (fun HT_ HW_ => ?_);generalize w20.drew = w17 at HO_0 HK HB GG13 HQ18 HQ19 hf13_0 hf14_0 hx113_0 hx114_0 hx116_0 hx117_0 hx13_0 hx14_0 hHeld ⊢;refine pure_ (i := 0) (N := some 33) (v := ?_) (a' := ?_) (fl 1 17) rfl rfl (any_of HT_.out kr) (fun _ _ _ h => h) (Or.inl ⟨by rfl, ?_⟩) ?_ ?_;rotate_left;(intro w';go_simp;with_reducible rfl);rotate_left;(simp only [Act.put,z0,z1,z2,i64_w,i32_w];rfl);refine pure_ (i := 1) (N := some 34) (v := ?_) (a' := ?_) (fl 2 16) rfl rfl (any_of HT_.out kr) (fun _ _ _ h => h) (Or.inl ⟨by rfl, ?_⟩) ?_ ?_;rotate_left;(intro w';go_simp;with_reducible rfl);rotate_left;(simp only [Act.put,z0,z1,z2,i64_w,i32_w];rfl);refine pure_ (i := 2) (N := some 35) (v := ?_) (a' := ?_) (fl 3 15) rfl rfl (any_of HT_.out kr) (fun _ _ _ h => h) (Or.inl ⟨by rfl, ?_⟩) ?_ ?_;rotate_left;(intro w';go_simp;with_reducible rfl);rotate_left;(simp only [Act.put,z0,z1,z2,i64_w,i32_w];rfl);refine pure_ (i := 3) (N := some 36) (v := ?_) (a' := ?_) (fl 4 14) rfl rfl (any_of HT_.out kr) (fun _ _ _ h => h) (Or.inl ⟨by rfl, ?_⟩) ?_ ?_;rotate_left;(intro w';go_simp;with_reducible rfl);rotate_left;(simp only [Act.put,z0,z1,z2,i64_w,i32_w];rfl);refine pure_ (i := 4) (N := some 37) (v := ?_) (a' := ?_) (fl 5 13) rfl rfl (any_of HT_.out kr) (fun _ _ _ h => h) (Or.inl ⟨by rfl, ?_⟩) ?_ ?_;rotate_left;(intro w';go_simp;with_reducible rfl);rotate_left;(simp only [Act.put,z0,z1,z2,i64_w,i32_w];rfl);refine pure_ (i := 5) (N := some 38) (v := ?_) (a' := ?_) (fl 6 12) rfl rfl (any_of HT_.out kr) (fun _ _ _ h => h) (Or.inl ⟨by rfl, ?_⟩) ?_ ?_;rotate_left;(intro w';go_simp;with_reducible rfl);rotate_left;(simp only [Act.put,z0,z1,z2,i64_w,i32_w];rfl);refine pure_ (i := 6) (N := some 39) (v := ?_) (a' := ?_) (fl 7 11) rfl rfl (any_of HT_.out kr) (fun _ _ _ h => h) (Or.inl ⟨by rfl, ?_⟩) ?_ ?_;rotate_left;(intro w';go_simp;with_reducible rfl);rotate_left;(simp only [Act.put,z0,z1,z2,i64_w,i32_w];rfl);refine pure_ (i := 7) (N := some 40) (v := ?_) (a' := ?_) (fl 8 10) rfl rfl (any_of HT_.out kr) (fun _ _ _ h => h) (Or.inl ⟨by rfl, ?_⟩) ?_ ?_;rotate_left;(intro w';go_simp;with_reducible rfl);rotate_left;(simp only [Act.put,z0,z1,z2,i64_w,i32_w];rfl);refine pure_ (i := 8) (N := some 41) (v := ?_) (a' := ?_) (fl 9 9) rfl rfl (any_of HT_.out kr) (fun _ _ _ h => h) (Or.inl ⟨by rfl, ?_⟩) ?_ ?_;rotate_left;(intro w';go_simp;with_reducible rfl);rotate_left;(simp only [Act.put,z0,z1,z2,i64_w,i32_w];rfl);refine pure_ (i := 10) (N := some 43) (v := ?_) (a' := ?_) #[Y,Y,Y,Y,Y,Y,Y,Y,Y,O,Y,O,O,O,O,O,O,O] rfl rfl (any_of HT_.out kr) (fun _ _ _ h => h) (Or.inl ⟨by rfl, ?_⟩) ?_ ?_;rotate_left;(intro w';go_simp;with_reducible rfl);rotate_left;(simp only [Act.put,z0,z1,z2,i64_w,i32_w];rfl);refine pure_ (i := 11) (N := some 44) (v := ?_) (a' := ?_) #[Y,Y,Y,Y,Y,Y,Y,Y,Y,O,Y,Y,O,O,O,O,O,O] rfl rfl (any_of HT_.out kr) (fun _ _ _ h => h) (Or.inl ⟨by rfl, ?_⟩) ?_ ?_;rotate_left;(intro w';go_simp;with_reducible rfl);rotate_left;(simp only [Act.put,z0,z1,z2,i64_w,i32_w];rfl);refine pure_ (i := 12) (N := some 45) (v := ?_) (a' := ?_) #[Y,Y,Y,Y,Y,Y,Y,Y,Y,O,Y,Y,Y,O,O,O,O,O] rfl rfl (any_of HT_.out kr) (fun _ _ _ h => h) (Or.inl ⟨by rfl, ?_⟩) ?_ ?_;rotate_left;(intro w';go_simp;with_reducible rfl);rotate_left;(simp only [Act.put,z0,z1,z2,i64_w,i32_w];rfl);refine take_ (i := 9) (N := some 42) (v := ?_) (a' := ?_) (fl 13 5) rfl rfl (take_ofW HT_.out HW_.out kr) (fun _ _ _ h => h) (Or.inl ⟨by rfl, ?_⟩) hHeld ?_ ?_;rotate_left;(rintro w' ⟨s0, s1⟩;go_simp;with_reducible rfl);rotate_left;(simp only [Act.put,z0,z1,z2,i64_w,i32_w];rfl);refine take_ (i := 13) (N := some 46) (v := ?_) (a' := ?_) (fl 14 4) rfl rfl (take_ofW HT_.out HW_.out kr) (fun _ _ _ h => h) (Or.inl ⟨by rfl, ?_⟩) hHeld ?_ ?_;rotate_left;(rintro w' ⟨s0, s1⟩;go_simp;with_reducible rfl);rotate_left;(simp only [Act.put,z0,z1,z2,i64_w,i32_w];rfl);refine pure_ (i := 14) (N := some 47) (v := ?_) (a' := ?_) (fl 15 3) rfl rfl (any_of HT_.out kr) (fun _ _ _ h => h) (Or.inl ⟨by rfl, ?_⟩) ?_ ?_;rotate_left;(intro w';go_simp;with_reducible rfl);rotate_left;(simp only [Act.put,z0,z1,z2,i64_w,i32_w];rfl);refine last_ (i := 15) (N := none) (fl 16 2) rfl rfl (one_of HT_.out kr) (by decide) (fun K hK => ?_);refine skip_ (w1 := ?_) (by rfl) rfl ?_ ?_;rotate_left
       ·go_simp;rfl
       refine hK.out _ _ ?_;clear hK K;refine pure_ (i := 16) (N := some 48) (v := ?_) (a' := ?_) (fl 17 1) rfl rfl (any_of HT_.out kr) (fun _ _ _ h => h) (Or.inl ⟨by rfl, ?_⟩) ?_ ?_;rotate_left;(intro w';go_simp;with_reducible rfl);rotate_left;(simp only [Act.put,z0,z1,z2,i64_w,i32_w];rfl);refine last_ (i := 17) (N := none) (fl 18 0) rfl rfl (one_of HT_.out kr) (by decide) (fun K hK => ?_);refine skip_ (w1 := ?_) (by rfl) rfl ?_ ?_;rotate_left
       ·go_simp;rfl
       refine hK.out _ _ ?_;clear hK K;refine done_ (done_of HT_.out kr) ?_
       try go_wp2
       go_roundg k2
       case measure => have := HK1.out; have := HK2.out; omega
       case rel => exact ⟨(y119), (ji8), (by first | rfl | (simp; done) | (simp only [← hji8] <;> (first | rfl | simp)) | (simp [*]; done)), H', ⟨by have := HK1.out; have := HK2.out; omega⟩, ⟨by (with_reducible repeat (first | apply Kz.R_alloc | apply Kz.R_drewN | apply Kz.R_drew)); exact HQ19.out⟩, ⟨by repeat (first | (with_reducible first | exact HK.out | apply Kept.alloc | apply Kept.drewN | apply Kept.drew | refine Kept.setCell ?_ HMgo13.out _ | refine Kept.setCell ?_ HMgo13.out _) | exact HK.out)⟩, ⟨by repeat (first | (with_reducible first | exact HB.out | apply XA | apply XN | apply XD | refine XS ?_ GB13.out | refine XS ?_ GB13.out) | exact HB.out)⟩⟩
   ·rw [if_neg c4] at H;have c4b0 : decide (x6_1 < a2) = false := dN c4;clear c4;obtain rfl := Option.some.inj H
    go_wp2
    first | go_end0 | ((try simp only [Exit.inBlock, Exit.then]); refine bodyPost_ret (results_none rfl _ _ _) rfl ?_)
    exact ⟨by first | rfl | (simp [errW_none, errW_some] <;> rfl) | (simp [*, errW_none, errW_some] <;> rfl), by (with_reducible repeat (first | apply Kz.R_alloc | apply Kz.R_drewN | apply Kz.R_drew)); exact HO_0.out, by repeat (first | (with_reducible first | exact HB.out | apply XA | apply XN | apply XD) | exact HB.out), by repeat (first | (with_reducible first | exact HK.out | apply Kept.alloc | apply Kept.drewN | apply Kept.drew) | exact HK.out)⟩

end Go.Proofs.YtahjnjlkpbjfnaaGreatDoor.P

-- written by myprint.py (this claim's own program, after the kit's print)
namespace Go.Proofs.YtahjnjlkpbjfnaaGreatDoor.P
open Go.RowKit Go.Proofs.YtahjnjlkpbjfnaaGreatDoorW.PrintWords Go.Proofs.YtahjnjlkpbjfnaaGreatDoorW.PrintLast Go.Proofs.YtahjnjlkpbjfnaaGreatDoorW.PrintMore
attribute [local go_sem] max2_int min2_int max_two min_two max_three min_three max_four min_four   -- for this text's walks alone
set_option linter.unusedVariables false
set_option linter.unusedSimpArgs false

/-! ### slices_reverseRangeOrdered_byte: function 107 -/
def slices_reverseRangeOrdered_byte.l0 : Nat → List Int → Int → Int → Option (List Int)
 | 0, _, _, _ => none
 | k + 1, x0, x6, x7 => if x6 < x7 then (if 0 ≤ x7 then (if x7 < (x0.length : Int) then (if 0 ≤ x6 then (if x6 < (x0.length : Int) then (slices_reverseRangeOrdered_byte.l0 k ((x0.set (x6 : Int).toNat (rd x0 x7)).set (x7 : Int).toNat (rd x0 x6)) (wrap64 (x6 + 1)) (wrap64 (x7 - 1))) else (none)) else (none)) else (none)) else (none)) else (some x0)
def slices_reverseRangeOrdered_byte.f (k : Nat) (l0 : List Int) (a1 : Int) (a2 : Int) : Option (List Int) := slices_reverseRangeOrdered_byte.l0 k l0 a1 (wrap64 (a2 - 1))
theorem slices_reverseRangeOrdered_byte.mono_l : ∀ k, (∀ y0 y1 y2, LeO (slices_reverseRangeOrdered_byte.l0 k y0 y1 y2) (slices_reverseRangeOrdered_byte.l0 (k + 1) y0 y1 y2))
 | 0 => fun _ _ _ r h => by simp [slices_reverseRangeOrdered_byte.l0] at h
 | k + 1 => by
  have ih0 := slices_reverseRangeOrdered_byte.mono_l k
  ·intro y0 y1 y2;unfold slices_reverseRangeOrdered_byte.l0
   repeat' first
   | (with_reducible exact ih0 _ _ _)
   | (with_reducible exact LeO.refl _)
   | (with_reducible exact LeO.none _)
   | (with_reducible refine LeO.ite ?_ ?_)
   | (with_reducible refine LeO.bind ?_ (fun _ => ?_))
   | exact ih0 _ _ _
   | exact LeO.none _
   | refine LeO.ite ?_ ?_
   | refine LeO.bind ?_ (fun _ => ?_)
theorem slices_reverseRangeOrdered_byte.mono : ∀ a0 a1 a2 k, LeO (slices_reverseRangeOrdered_byte.f k a0 a1 a2) (slices_reverseRangeOrdered_byte.f (k + 1) a0 a1 a2) := by
 intro a0 a1 a2 k;have ih0 := slices_reverseRangeOrdered_byte.mono_l k;unfold slices_reverseRangeOrdered_byte.f
 repeat' first
   | (with_reducible exact ih0 _ _ _)
   | (with_reducible exact LeO.refl _)
   | (with_reducible exact LeO.none _)
   | (with_reducible refine LeO.ite ?_ ?_)
   | (with_reducible refine LeO.bind ?_ (fun _ => ?_))
   | exact ih0 _ _ _
   | exact LeO.none _
   | refine LeO.ite ?_ ?_
   | refine LeO.bind ?_ (fun _ => ?_)
def slices_reverseRangeOrdered_byte.T3 : Bool × List (List Nat × List Nat) := (true, [([], []), ([], []), ([], []), ([], []), ([], []), ([], []), ([4, 5], [4, 5]), ([6], [6]), ([], []), ([], []), ([8, 9], [8, 9]), ([10], [10]), ([0, 1, 0, 1, 4, 5, 6, 7, 11], [0, 1]), ([12, 7, 0, 1, 4, 5, 6, 7, 11], [7, 12]), ([2, 3, 0, 1, 2, 3, 4, 5, 6, 7, 8, 9, 10, 11, 12, 13], [2, 3]), ([14, 11, 13, 0, 1, 2, 3, 4, 5, 6, 7, 8, 9, 10, 11, 12, 13], [11, 14])])
def slices_reverseRangeOrdered_byte.B3 : List Nat := [0, 0, 0, 0, 0, 0, 48, 112, 0, 0, 768, 1792, 4083, 8179, 16383, 32767]
theorem slices_reverseRangeOrdered_byte.tab3 : rtab .any (opsOf Tryz.f107 3) = slices_reverseRangeOrdered_byte.T3 := by kernel_rfl
theorem slices_reverseRangeOrdered_byte.bits3 : waitsOk slices_reverseRangeOrdered_byte.T3.2 slices_reverseRangeOrdered_byte.B3 = true := by kernel_rfl
set_option maxHeartbeats 8000000 in
set_option maxRecDepth 100000 in
theorem slices_reverseRangeOrdered_byte.calls (k : Nat) (P0_ : Nat → Prop) (u9000_ : Value) (l0 : List Int) (a1 : Int) (a2 : Int) (r : List Int) (w0 w : World) (hB : Below w0.heap.size w0 w) (ho0 : Kz.R (Kd.int .u8) 5 w w0.heap.size P0_ u9000_ l0) (h : slices_reverseRangeOrdered_byte.f k l0 a1 a2 = some r) :
  Calls Tryz.prog 107 #[u9000_, .int .i64 a1, .int .i64 a2] w fun e w' => e = .returned (.tuple #[]) ∧ Kz.R (Kd.int .u8) 5 w' w0.heap.size (fun k_ => (P0_ k_ ∨ w.heap.size ≤ k_)) u9000_ r ∧ Below w0.heap.size w0 w' ∧ Kept w w' (fun k_ => P0_ k_) := by
 have HO0 := As (show Kz.R (Kd.int .u8) 5 w w0.heap.size (fun k_ => (P0_ k_ ∨ w.heap.size ≤ k_)) u9000_ l0 from Kz.R_mono ho0 (fun k_ hk => (.inl hk)));have HK := As (Kept.refl w (fun k_ => P0_ k_));have HW0 := As hB.size;have HB := As hB;clear hB;have H : (slices_reverseRangeOrdered_byte.l0 k l0 a1 (wrap64 (a2 - 1))) = some r := h;clear h;have H' := As H;clear H
 go_enter Tryz.func107, Tryz.ntmps107
 go_wp2
 go_loopg [6, 7] k (fun kq v6 v7 w' => ∃ (x0_1 : List Int) (x6_1 : Int) (x7_1 : Int), v6 = .int .i64 x6_1 ∧ v7 = .int .i64 x7_1 ∧ Aside0 (slices_reverseRangeOrdered_byte.l0 kq x0_1 x6_1 x7_1 = some r) ∧ Aside0 (kq ≤ k) ∧ Aside0 (Kz.R (Kd.int .u8) 5 w' w0.heap.size (fun k_ => (P0_ k_ ∨ w.heap.size ≤ k_)) u9000_ x0_1) ∧ Aside0 (Kept w w' (fun k_ => P0_ k_)) ∧ Aside0 (Below w0.heap.size w0 w'))
 case atStart => exact ⟨(l0), (a1), (wrap64 (a2 - 1)), sw, sw, H', ⟨Nat.le_refl _⟩, ⟨by (with_reducible repeat (first | apply Kz.R_alloc | apply Kz.R_drewN | apply Kz.R_drew)); exact HO0.out⟩, ⟨by repeat (first | (with_reducible first | exact HK.out | apply Kept.alloc | apply Kept.drewN | apply Kept.drew) | exact HK.out)⟩, ⟨by repeat (first | (with_reducible first | exact HB.out | apply XA | apply XN | apply XD) | exact HB.out)⟩⟩
 case round =>
  clear H'
  try clear c1
  try clear p2
  obtain ⟨x0_1, x6_1, x7_1, rfl, rfl, HA, HK1, HO_0, HK, HB⟩ := hrel
  cases gk with
  | zero => exact absurd HA.out (by simp [slices_reverseRangeOrdered_byte.l0])
  | succ k1 =>
   have H := HA.out;clear HA;simp only [slices_reverseRangeOrdered_byte.l0] at H
   by_cases c4 : x6_1 < x7_1
   ·rw [if_pos c4] at H;have c4b0 : decide (x6_1 < x7_1) = true := dY c4;clear c4
    by_cases c5 : 0 ≤ x7_1
    ·rw [if_pos c5] at H;have c5b0 : decide (0 ≤ x7_1) = true := dY c5;clear c5
     by_cases c6 : x7_1 < (x0_1.length : Int)
     ·rw [if_pos c6] at H;have c6b0 : decide (x7_1 < (x0_1.length : Int)) = true := dY c6;clear c6
      by_cases c7 : 0 ≤ x6_1
      ·rw [if_pos c7] at H;have c7b0 : decide (0 ≤ x6_1) = true := dY c7;clear c7
       by_cases c8 : x6_1 < (x0_1.length : Int)
       ·rw [if_pos c8] at H;have c8b0 : decide (x6_1 < (x0_1.length : Int)) = true := dY c8;clear c8
        obtain ⟨y122, hy122⟩ : ∃ y_ : List Int, y_ = (x0_1.set (x6_1 : Int).toNat (rd x0_1 x7_1)) := ⟨_, rfl⟩
        replace H : (slices_reverseRangeOrdered_byte.l0 k1 (y122.set (x7_1 : Int).toNat (rd x0_1 x6_1)) (wrap64 (x6_1 + 1)) (wrap64 (x7_1 - 1))) = some r := by first | (rw [hy122]; with_reducible exact H) | (have H2_ := (Option.bind_some _ _).symm.trans H; rw [hy122]; with_reducible exact H2_) | (have H2_ := (Option.bind_some _ _).symm.trans H; with_reducible exact H2_) | with_reducible exact H | (rw [hy122]; exact H) | exact H
        have Ny122 := As hy122;clear hy122
        obtain ⟨y123, hy123⟩ : ∃ y_ : List Int, y_ = (y122.set (x7_1 : Int).toNat (rd x0_1 x6_1)) := ⟨_, rfl⟩
        replace H : (slices_reverseRangeOrdered_byte.l0 k1 y123 (wrap64 (x6_1 + 1)) (wrap64 (x7_1 - 1))) = some r := by first | (rw [hy123]; with_reducible exact H) | (have H2_ := (Option.bind_some _ _).symm.trans H; rw [hy123]; with_reducible exact H2_) | (have H2_ := (Option.bind_some _ _).symm.trans H; with_reducible exact H2_) | with_reducible exact H | (rw [hy123]; exact H) | exact H
        have Ny123 := As hy123;clear hy123;have H' := As H;clear H
        try go_wp2
        replace HO_0 := As (Kz.R_drew HO_0.out);replace HK := As (Kept.drew HK.out);replace HB := As (XD HB.out);obtain ⟨Ao12, co12, eo12⟩ := Kz.R_slice HO_0.out
        (first | subst eo12 | (injection eo12 with f1_ f2_ f3_; have f4_ := f1_.symm; have f5_ := f3_.symm; clear f1_ f2_ f3_; subst f4_; subst f5_))
        have p120 : 0 ≤ (x7_1 : Int) := dT hy;have q120 : x7_1 < (x0_1.length : Int) := dT hy;obtain ⟨ad120, e120, hx120_0⟩ := Kd.at_int (Kz.R_reads' HO_0.out).2.2 x7_1 p120 q120
        cases e120
        replace p120 := eq_true p120;replace q120 := eq_true q120;have p121 : 0 ≤ (x6_1 : Int) := dT hy;have q121 : x6_1 < (x0_1.length : Int) := dT hy;obtain ⟨ad121, e121, hx121_0⟩ := Kd.at_int (Kz.R_reads' HO_0.out).2.2 x6_1 p121 q121
        obtain rfl : ad120 = ad121 := (by injection e121)
        replace p121 := eq_true p121;replace q121 := eq_true q121;have p9 : 0 ≤ (x6_1 : Int) := dT hy;have q9 : (x6_1 : Int) < ((x0_1.length : Int) : Int) := dT hy;obtain ⟨go9, co9, eo9, gb9, gl9, cl9, HG9⟩ := Kz.R_form HO_0.out (by omega)
        (first | cases eo9 | (injection eo9 with ea_ en_ ec_; (first | subst ea_ | (injection ea_ with ea_; subst ea_)); subst ec_; clear en_))
        have GB9 := As gb9;have GG9 := As HG9;clear gb9 gl9 HG9;have HMgo9 := As (show (P0_ go9 ∨ w.heap.size ≤ go9) from (HO_0.out.1 _ rfl))
        (first | simp only [add_plain] at hx120_0 | skip)
        (first | simp only [add_plain] at hx121_0 | skip)
        obtain ⟨hx9_0, hf9_0⟩ := Kz.R_celln 0 HO_0.out (x6_1 : Int) p9 q9;replace p9 := eq_true p9;replace q9 := eq_true q9;have HP13 := Kz.R_putn HO_0.out (x6_1 : Int) (rd x0_1 x7_1);rw [← Ny122.out] at HP13;have HQ13 := As HP13;clear HP13;have p10 : 0 ≤ (x7_1 : Int) := dT hy;have q10 : (x7_1 : Int) < ((x0_1.length : Int) : Int) := dT hy;obtain ⟨hx10_0, hf10_0⟩ := Kz.R_celln 0 HQ13.out (x7_1 : Int) p10 q10;replace p10 := eq_true p10;replace q10 := eq_true q10;have HP14 := Kz.R_putn HQ13.out (x7_1 : Int) (rd x0_1 x6_1);rw [← Ny123.out] at HP14;have HQ14 := As HP14;clear HP14;refine start_ (n := 16) (S := fun w' => w'.cell? ⟨go9, (x7_1).toNat, none⟩ = some (.int .u8 (rd x0_1 x7_1)) ∧ w'.cell? ⟨go9, (x6_1).toNat, none⟩ = some (.int .u8 (rd x0_1 x6_1))) (ds := [13, 15]) (fl 0 16) kr rfl rfl ⟨hx120_0, hx121_0⟩ (fun hHeld => ?_); refine with_tabW slices_reverseRangeOrdered_byte.tab3 slices_reverseRangeOrdered_byte.bits3 (fun HT_ HW_ => ?_);generalize wr.drew = w11 at HO_0 HK HB GG9 HQ13 HQ14 hf10_0 hf9_0 hx10_0 hx120_0 hx121_0 hx9_0 hHeld ⊢;refine pure_ (i := 0) (N := some 14) (v := ?_) (a' := ?_) (fl 1 15) rfl rfl (any_of HT_.out kr) (fun _ _ _ h => h) (Or.inl ⟨by rfl, ?_⟩) ?_ ?_;rotate_left;(intro w';go_simp;with_reducible rfl);rotate_left;(simp only [Act.put,z0,z1,z2,i64_w,i32_w];rfl);refine pure_ (i := 1) (N := some 15) (v := ?_) (a' := ?_) (fl 2 14) rfl rfl (any_of HT_.out kr) (fun _ _ _ h => h) (Or.inl ⟨by rfl, ?_⟩) ?_ ?_;rotate_left;(intro w';go_simp;with_reducible rfl);rotate_left;(simp only [Act.put,z0,z1,z2,i64_w,i32_w];rfl);refine pure_ (i := 2) (N := some 16) (v := ?_) (a' := ?_) (fl 3 13) rfl rfl (any_of HT_.out kr) (fun _ _ _ h => h) (Or.inl ⟨by rfl, ?_⟩) ?_ ?_;rotate_left;(intro w';go_simp;with_reducible rfl);rotate_left;(simp only [Act.put,z0,z1,z2,i64_w,i32_w];rfl);refine pure_ (i := 3) (N := some 17) (v := ?_) (a' := ?_) (fl 4 12) rfl rfl (any_of HT_.out kr) (fun _ _ _ h => h) (Or.inl ⟨by rfl, ?_⟩) ?_ ?_;rotate_left;(intro w';go_simp;with_reducible rfl);rotate_left;(simp only [Act.put,z0,z1,z2,i64_w,i32_w];rfl);refine pure_ (i := 4) (N := some 18) (v := ?_) (a' := ?_) (fl 5 11) rfl rfl (any_of HT_.out kr) (fun _ _ _ h => h) (Or.inl ⟨by rfl, ?_⟩) ?_ ?_;rotate_left;(intro w';go_simp;with_reducible rfl);rotate_left;(simp only [Act.put,z0,z1,z2,i64_w,i32_w];rfl);refine pure_ (i := 5) (N := some 19) (v := ?_) (a' := ?_) (fl 6 10) rfl rfl (any_of HT_.out kr) (fun _ _ _ h => h) (Or.inl ⟨by rfl, ?_⟩) ?_ ?_;rotate_left;(intro w';go_simp;with_reducible rfl);rotate_left;(simp only [Act.put,z0,z1,z2,i64_w,i32_w];rfl);refine pure_ (i := 6) (N := some 20) (v := ?_) (a' := ?_) (fl 7 9) rfl rfl (any_of HT_.out kr) (fun _ _ _ h => h) (Or.inl ⟨by rfl, ?_⟩) ?_ ?_;rotate_left;(intro w';go_simp;with_reducible rfl);rotate_left;(simp only [Act.put,z0,z1,z2,i64_w,i32_w];rfl);refine pure_ (i := 8) (N := some 22) (v := ?_) (a' := ?_) #[Y,Y,Y,Y,Y,Y,Y,O,Y,O,O,O,O,O,O,O] rfl rfl (any_of HT_.out kr) (fun _ _ _ h => h) (Or.inl ⟨by rfl, ?_⟩) ?_ ?_;rotate_left;(intro w';go_simp;with_reducible rfl);rotate_left;(simp only [Act.put,z0,z1,z2,i64_w,i32_w];rfl);refine pure_ (i := 9) (N := some 23) (v := ?_) (a' := ?_) #[Y,Y,Y,Y,Y,Y,Y,O,Y,Y,O,O,O,O,O,O] rfl rfl (any_of HT_.out kr) (fun _ _ _ h => h) (Or.inl ⟨by rfl, ?_⟩) ?_ ?_;rotate_left;(intro w';go_simp;with_reducible rfl);rotate_left;(simp only [Act.put,z0,z1,z2,i64_w,i32_w];rfl);refine pure_ (i := 10) (N := some 24) (v := ?_) (a' := ?_) #[Y,Y,Y,Y,Y,Y,Y,O,Y,Y,Y,O,O,O,O,O] rfl rfl (any_of HT_.out kr) (fun _ _ _ h => h) (Or.inl ⟨by rfl, ?_⟩) ?_ ?_;rotate_left;(intro w';go_simp;with_reducible rfl);rotate_left;(simp only [Act.put,z0,z1,z2,i64_w,i32_w];rfl);refine take_ (i := 7) (N := some 21) (v := ?_) (a' := ?_) (fl 11 5) rfl rfl (take_ofW HT_.out HW_.out kr) (fun _ _ _ h => h) (Or.inl ⟨by rfl, ?_⟩) hHeld ?_ ?_;rotate_left;(rintro w' ⟨s0, s1⟩;go_simp;with_reducible rfl);rotate_left;(simp only [Act.put,z0,z1,z2,i64_w,i32_w];rfl);refine take_ (i := 11) (N := some 25) (v := ?_) (a' := ?_) (fl 12 4) rfl rfl (take_ofW HT_.out HW_.out kr) (fun _ _ _ h => h) (Or.inl ⟨by rfl, ?_⟩) hHeld ?_ ?_;rotate_left;(rintro w' ⟨s0, s1⟩;go_simp;with_reducible rfl);rotate_left;(simp only [Act.put,z0,z1,z2,i64_w,i32_w];rfl);refine pure_ (i := 12) (N := some 26) (v := ?_) (a' := ?_) (fl 13 3) rfl rfl (any_of HT_.out kr) (fun _ _ _ h => h) (Or.inl ⟨by rfl, ?_⟩) ?_ ?_;rotate_left;(intro w';go_simp;with_reducible rfl);rotate_left;(simp only [Act.put,z0,z1,z2,i64_w,i32_w];rfl);refine last_ (i := 13) (N := none) (fl 14 2) rfl rfl (one_of HT_.out kr) (by decide) (fun K hK => ?_);refine skip_ (w1 := ?_) (by rfl) rfl ?_ ?_;rotate_left
        ·go_simp;rfl
        refine hK.out _ _ ?_;clear hK K;refine pure_ (i := 14) (N := some 27) (v := ?_) (a' := ?_) (fl 15 1) rfl rfl (any_of HT_.out kr) (fun _ _ _ h => h) (Or.inl ⟨by rfl, ?_⟩) ?_ ?_;rotate_left;(intro w';go_simp;with_reducible rfl);rotate_left;(simp only [Act.put,z0,z1,z2,i64_w,i32_w];rfl);refine last_ (i := 15) (N := none) (fl 16 0) rfl rfl (one_of HT_.out kr) (by decide) (fun K hK => ?_);refine skip_ (w1 := ?_) (by rfl) rfl ?_ ?_;rotate_left
        ·go_simp;rfl
        refine hK.out _ _ ?_;clear hK K;refine done_ (done_of HT_.out kr) ?_
        try go_wp2
        go_roundg k1
        case measure => have := HK1.out; omega
        case rel => exact ⟨(y123), (wrap64 (x6_1 + 1)), (wrap64 (x7_1 - 1)), sw, sw, H', ⟨by have := HK1.out; omega⟩, ⟨by (with_reducible repeat (first | apply Kz.R_alloc | apply Kz.R_drewN | apply Kz.R_drew)); exact HQ14.out⟩, ⟨by repeat (first | (with_reducible first | exact HK.out | apply Kept.alloc | apply Kept.drewN | apply Kept.drew | refine Kept.setCell ?_ HMgo9.out _ | refine Kept.setCell ?_ HMgo9.out _) | exact HK.out)⟩, ⟨by repeat (first | (with_reducible first | exact HB.out | apply XA | apply XN | apply XD | refine XS ?_ GB9.out | refine XS ?_ GB9.out) | exact HB.out)⟩⟩
       ·rw [if_neg c8] at H;exact absurd H (by simp)
      ·rw [if_neg c7] at H;exact absurd H (by simp)
     ·rw [if_neg c6] at H;exact absurd H (by simp)
    ·rw [if_neg c5] at H;exact absurd H (by simp)
   ·rw [if_neg c4] at H;have c4b0 : decide (x6_1 < x7_1) = false := dN c4;clear c4;obtain rfl := Option.some.inj H
    go_wp2
    first | go_end0 | ((try simp only [Exit.inBlock, Exit.then]); refine bodyPost_ret (results_none rfl _ _ _) rfl ?_)
    exact ⟨by first | rfl | (simp [errW_none, errW_some] <;> rfl) | (simp [*, errW_none, errW_some] <;> rfl), by (with_reducible repeat (first | apply Kz.R_alloc | apply Kz.R_drewN | apply Kz.R_drew)); exact HO_0.out, by repeat (first | (with_reducible first | exact HB.out | apply XA | apply XN | apply XD) | exact HB.out), by repeat (first | (with_reducible first | exact HK.out | apply Kept.alloc | apply Kept.drewN | apply Kept.drew) | exact HK.out)⟩

end Go.Proofs.YtahjnjlkpbjfnaaGreatDoor.P

-- written by myprint.py (this claim's own program, after the kit's print)
namespace Go.Proofs.YtahjnjlkpbjfnaaGreatDoor.P
open Go.RowKit Go.Proofs.YtahjnjlkpbjfnaaGreatDoorW.PrintWords Go.Proofs.YtahjnjlkpbjfnaaGreatDoorW.PrintLast Go.Proofs.YtahjnjlkpbjfnaaGreatDoorW.PrintMore
attribute [local go_sem] max2_int min2_int max_two min_two max_three min_three max_four min_four   -- for this text's walks alone
set_option linter.unusedVariables false
set_option linter.unusedSimpArgs false

/-! ### slices_partialInsertionSortOrdered_byte: function 108 -/
mutual
def slices_partialInsertionSortOrdered_byte.l0 : Nat → List Int → Int → Int → Int → Int → Option (Bool)
 | 0, _, _, _, _, _ => none
 | k + 1, x0, x1, x2, x7, x8 => if x8 < 5 then (slices_partialInsertionSortOrdered_byte.l1 k x0 x1 x2 x7) else (some false)
def slices_partialInsertionSortOrdered_byte.j2 : Nat → Int → Int → Int → Option (Bool)
 | 0, _, _, _ => none
 | k + 1, x1, x2, x7 => if x7 = x2 then (some true) else (if (wrap64 (x2 - x1)) < 50 then (some false) else (none))
def slices_partialInsertionSortOrdered_byte.l1 : Nat → List Int → Int → Int → Int → Option (Bool)
 | 0, _, _, _, _ => none
 | k + 1, x0, x1, x2, x7 => if x7 < x2 then (if 0 ≤ x7 then (if x7 < (x0.length : Int) then (if 0 ≤ (wrap64 (x7 - 1)) then (if (wrap64 (x7 - 1)) < (x0.length : Int) then ((cmp_Less_byte.f (rd x0 x7) (rd x0 (wrap64 (x7 - 1)))).bind fun t126 => (if t126 = true then (slices_partialInsertionSortOrdered_byte.j2 k x1 x2 x7) else (slices_partialInsertionSortOrdered_byte.l1 k x0 x1 x2 (wrap64 (x7 + 1))))) else (none)) else (none)) else (none)) else (none)) else (slices_partialInsertionSortOrdered_byte.j2 k x1 x2 x7)
end
def slices_partialInsertionSortOrdered_byte.f (k : Nat) (l0 : List Int) (a1 : Int) (a2 : Int) : Option (Bool) := slices_partialInsertionSortOrdered_byte.l0 k l0 a1 a2 (wrap64 (a1 + 1)) 0
theorem slices_partialInsertionSortOrdered_byte.mono_l : ∀ k, (∀ y0 y1 y2 y3 y4, LeO (slices_partialInsertionSortOrdered_byte.l0 k y0 y1 y2 y3 y4) (slices_partialInsertionSortOrdered_byte.l0 (k + 1) y0 y1 y2 y3 y4)) ∧ (∀ y0 y1 y2, LeO (slices_partialInsertionSortOrdered_byte.j2 k y0 y1 y2) (slices_partialInsertionSortOrdered_byte.j2 (k + 1) y0 y1 y2)) ∧ (∀ y0 y1 y2 y3, LeO (slices_partialInsertionSortOrdered_byte.l1 k y0 y1 y2 y3) (slices_partialInsertionSortOrdered_byte.l1 (k + 1) y0 y1 y2 y3))
 | 0 => ⟨fun _ _ _ _ _ r h => by simp [slices_partialInsertionSortOrdered_byte.l0] at h, fun _ _ _ r h => by simp [slices_partialInsertionSortOrdered_byte.j2] at h, fun _ _ _ _ r h => by simp [slices_partialInsertionSortOrdered_byte.l1] at h⟩
 | k + 1 => by
  obtain ⟨ih0, ih1, ih2⟩ := slices_partialInsertionSortOrdered_byte.mono_l k;refine ⟨?_, ?_, ?_⟩
  ·intro y0 y1 y2 y3 y4;unfold slices_partialInsertionSortOrdered_byte.l0
   repeat' first
   | (with_reducible exact ih0 _ _ _ _ _)
   | (with_reducible exact ih1 _ _ _)
   | (with_reducible exact ih2 _ _ _ _)
   | (with_reducible exact LeO.refl _)
   | (with_reducible exact LeO.none _)
   | (with_reducible refine LeO.ite ?_ ?_)
   | (with_reducible refine LeO.bind ?_ (fun _ => ?_))
   | exact ih0 _ _ _ _ _
   | exact ih1 _ _ _
   | exact ih2 _ _ _ _
   | exact LeO.none _
   | refine LeO.ite ?_ ?_
   | refine LeO.bind ?_ (fun _ => ?_)
  ·intro y0 y1 y2;unfold slices_partialInsertionSortOrdered_byte.j2
   repeat' first
   | (with_reducible exact ih0 _ _ _ _ _)
   | (with_reducible exact ih1 _ _ _)
   | (with_reducible exact ih2 _ _ _ _)
   | (with_reducible exact LeO.refl _)
   | (with_reducible exact LeO.none _)
   | (with_reducible refine LeO.ite ?_ ?_)
   | (with_reducible refine LeO.bind ?_ (fun _ => ?_))
   | exact ih0 _ _ _ _ _
   | exact ih1 _ _ _
   | exact ih2 _ _ _ _
   | exact LeO.none _
   | refine LeO.ite ?_ ?_
   | refine LeO.bind ?_ (fun _ => ?_)
  ·intro y0 y1 y2 y3;unfold slices_partialInsertionSortOrdered_byte.l1
   repeat' first
   | (with_reducible exact ih0 _ _ _ _ _)
   | (with_reducible exact ih1 _ _ _)
   | (with_reducible exact ih2 _ _ _ _)
   | (with_reducible exact LeO.refl _)
   | (with_reducible exact LeO.none _)
   | (with_reducible refine LeO.ite ?_ ?_)
   | (with_reducible refine LeO.bind ?_ (fun _ => ?_))
   | exact ih0 _ _ _ _ _
   | exact ih1 _ _ _
   | exact ih2 _ _ _ _
   | exact LeO.none _
   | refine LeO.ite ?_ ?_
   | refine LeO.bind ?_ (fun _ => ?_)
theorem slices_partialInsertionSortOrdered_byte.mono : ∀ a0 a1 a2 k, LeO (slices_partialInsertionSortOrdered_byte.f k a0 a1 a2) (slices_partialInsertionSortOrdered_byte.f (k + 1) a0 a1 a2) := by
 intro a0 a1 a2 k;obtain ⟨ih0, ih1, ih2⟩ := slices_partialInsertionSortOrdered_byte.mono_l k;unfold slices_partialInsertionSortOrdered_byte.f
 repeat' first
   | (with_reducible exact ih0 _ _ _ _ _)
   | (with_reducible exact ih1 _ _ _)
   | (with_reducible exact ih2 _ _ _ _)
   | (with_reducible exact LeO.refl _)
   | (with_reducible exact LeO.none _)
   | (with_reducible refine LeO.ite ?_ ?_)
   | (with_reducible refine LeO.bind ?_ (fun _ => ?_))
   | exact ih0 _ _ _ _ _
   | exact ih1 _ _ _
   | exact ih2 _ _ _ _
   | exact LeO.none _
   | refine LeO.ite ?_ ?_
   | refine LeO.bind ?_ (fun _ => ?_)
def slices_partialInsertionSortOrdered_byte.T5 : Bool × List (List Nat × List Nat) := (true, [([], []), ([], []), ([0, 1], [0, 1]), ([2], [2]), ([3], [3]), ([3], [3]), ([4, 5, 3], [3, 4, 5]), ([6, 3], [3, 6]), ([3], [3]), ([3], [3]), ([9, 3], [3, 9]), ([8, 10, 3], [3, 8, 10]), ([11, 3], [3, 11]), ([7, 12, 3, 3], [3, 7, 12]), ([13, 3], [3, 13]), ([3, 14], [3, 14])])
def slices_partialInsertionSortOrdered_byte.B5 : List Nat := [0, 0, 3, 7, 15, 15, 63, 127, 15, 15, 527, 1807, 3855, 8191, 16383, 32767]
theorem slices_partialInsertionSortOrdered_byte.tab5 : rtab .any (opsOf Tryz.f108 5) = slices_partialInsertionSortOrdered_byte.T5 := by kernel_rfl
theorem slices_partialInsertionSortOrdered_byte.bits5 : waitsOk slices_partialInsertionSortOrdered_byte.T5.2 slices_partialInsertionSortOrdered_byte.B5 = true := by kernel_rfl
set_option maxHeartbeats 8000000 in
set_option maxRecDepth 100000 in
theorem slices_partialInsertionSortOrdered_byte.calls (k : Nat) (A0 : Option Addr) (c0 : Nat) (l0 : List Int) (a1 : Int) (a2 : Int) (r : Bool) (w : World) (hr0 : Kd.C (Kd.int .u8) w A0 l0.length l0) (hc0 : l0.length ≤ c0) (h : slices_partialInsertionSortOrdered_byte.f k l0 a1 a2 = some r) :
  Calls Tryz.prog 108 #[.slice A0 l0.length c0, .int .i64 a1, .int .i64 a2] w fun e w' => e = .returned (.bool r) ∧ Below w.heap.size w w' := by
 have HR0 := As hr0;have HC0 := As hc0;clear hr0 hc0;have HB := As (Below.refl w.heap.size w);have H : (slices_partialInsertionSortOrdered_byte.l0 k l0 a1 a2 (wrap64 (a1 + 1)) 0) = some r := h;clear h;have H' := As H;clear H
 go_enter Tryz.func108, Tryz.ntmps108
 go_wp2
 go_loopg [7, 8] k (fun kq v7 v8 w' => ∃ (x7_1 : Int) (x8_1 : Int), v7 = .int .i64 x7_1 ∧ v8 = .int .i64 x8_1 ∧ Aside0 (slices_partialInsertionSortOrdered_byte.l0 kq l0 a1 a2 x7_1 x8_1 = some r) ∧ Aside0 (kq ≤ k) ∧ Aside0 (Below w.heap.size w w'))
 case atStart => exact ⟨(wrap64 (a1 + 1)), (0), sw, sw, H', ⟨Nat.le_refl _⟩, ⟨by repeat (first | (with_reducible first | exact HB.out | apply XA | apply XN | apply XD) | exact HB.out)⟩⟩
 case round =>
  clear H'
  try clear c1
  try clear p2
  obtain ⟨x7_1, x8_1, rfl, rfl, HA, HK1, HB⟩ := hrel
  cases gk with
  | zero => exact absurd HA.out (by simp [slices_partialInsertionSortOrdered_byte.l0])
  | succ k1 =>
   have H := HA.out;clear HA;simp only [slices_partialInsertionSortOrdered_byte.l0] at H
   by_cases c4 : x8_1 < 5
   ·rw [if_pos c4] at H;have c4b0 : decide (x8_1 < 5) = true := dY c4;clear c4;have HC5 := As H;clear H
    go_upto_block 2 with (fail)
    go_cut [7] (fun v7 wc => ∃ (kq : Nat) (x7_4 : Int), v7 = .int .i64 x7_4 ∧ Aside0 (slices_partialInsertionSortOrdered_byte.j2 kq a1 a2 x7_4 = some r) ∧ Aside0 (kq ≤ k1) ∧ Aside0 (Below w.heap.size w wc))
    case first =>
     have H := HC5.out;clear HC5;have H' := As H;clear H
     go_wp2
     go_loopg [7] k1 (fun kq v7 w' => ∃ (x7_2 : Int), v7 = .int .i64 x7_2 ∧ Aside0 (slices_partialInsertionSortOrdered_byte.l1 kq l0 a1 a2 x7_2 = some r) ∧ Aside0 (kq ≤ k1) ∧ Aside0 (Below w.heap.size w w'))
     case atStart => exact ⟨(x7_1), sw, H', ⟨Nat.le_refl _⟩, ⟨by repeat (first | (with_reducible first | exact HB.out | apply XA | apply XN | apply XD) | exact HB.out)⟩⟩
     case round =>
      clear H'
      try clear c1
      try clear p2
      try clear c4
      try clear c4b0
      try clear p2
      obtain ⟨x7_2, rfl, HA, HK2, HB⟩ := hrel
      cases gk with
      | zero => exact absurd HA.out (by simp [slices_partialInsertionSortOrdered_byte.l1])
      | succ k2 =>
       have H := HA.out;clear HA;simp only [slices_partialInsertionSortOrdered_byte.l1] at H
       by_cases c6 : x7_2 < a2
       focus
        rw [if_pos c6] at H;have c6b0 : decide (x7_2 < a2) = true := dY c6;clear c6
        (first | rw [c6b0] | (simp only [i64_w, i32_w]; rw [c6b0]) | skip)
        by_cases c7 : 0 ≤ x7_2
        rotate_left
        ·rw [if_neg c7] at H;exact absurd H (by simp)
        rw [if_pos c7] at H;have c7b0 : decide (0 ≤ x7_2) = true := dY c7;clear c7
        by_cases c8 : x7_2 < (l0.length : Int)
        rotate_left
        ·rw [if_neg c8] at H;exact absurd H (by simp)
        rw [if_pos c8] at H;have c8b0 : decide (x7_2 < (l0.length : Int)) = true := dY c8;clear c8
        obtain ⟨ji9, hji9⟩ : ∃ j_ : Int, (wrap64 (x7_2 - 1)) = j_ := ⟨_, rfl⟩
        replace H : (if 0 ≤ (ji9) then (if (ji9) < (l0.length : Int) then ((cmp_Less_byte.f (rd l0 x7_2) (rd l0 (ji9))).bind fun t126 => (if t126 = true then (slices_partialInsertionSortOrdered_byte.j2 k2 a1 a2 x7_2) else (slices_partialInsertionSortOrdered_byte.l1 k2 l0 a1 a2 (wrap64 (x7_2 + 1))))) else (none)) else (none)) = some r := by first | (rw [hji9] at H; exact H) | (simp only [hji9] at H ⊢; exact H)
        have hji9w : (IntKind.i64.wrap (x7_2 - 1)) = ji9 := (i64_w _).trans hji9
        by_cases c10 : 0 ≤ (ji9)
        rotate_left
        ·rw [if_neg c10] at H;exact absurd H (by simp)
        rw [if_pos c10] at H;have c10b0 : decide (0 ≤ (ji9)) = true := dY c10;clear c10
        by_cases c11 : (ji9) < (l0.length : Int)
        rotate_left
        ·rw [if_neg c11] at H;exact absurd H (by simp)
        rw [if_pos c11] at H;have c11b0 : decide ((ji9) < (l0.length : Int)) = true := dY c11;clear c11;replace H := bE H;obtain ⟨t126, A120, H⟩ := H;replace H : (if t126 = true then (slices_partialInsertionSortOrdered_byte.j2 k2 a1 a2 x7_2) else (slices_partialInsertionSortOrdered_byte.l1 k2 l0 a1 a2 (wrap64 (x7_2 + 1)))) = some r := H;have A12 := As A120;clear A120
        by_cases c13 : t126 = true
        subst c13
        have H1 : (slices_partialInsertionSortOrdered_byte.j2 k2 a1 a2 x7_2) = some r := by rw [if_pos rfl] at H; exact H
        clear H;have H := H1;clear H1;have H' := As H;clear H
        have m2_ := trivial
        rotate_left
        replace c13 := Bool.eq_false_iff.mpr c13;subst c13
        have H1 : (slices_partialInsertionSortOrdered_byte.l1 k2 l0 a1 a2 (wrap64 (x7_2 + 1))) = some r := by rw [if_neg (show ¬ (false = true) by decide)] at H; exact H
        clear H;have H := H1;clear H1;have H' := As H;clear H
        have m1_ := trivial
       rotate_left 2
       rw [if_neg c6] at H;have c6b0 : decide (x7_2 < a2) = false := dN c6;clear c6
       (first | rw [c6b0] | (simp only [i64_w, i32_w]; rw [c6b0]) | skip)
       have H' := As H;clear H
       all_goals try go_wp2
       all_goals try
        first | (clear m1_; have m1_ := trivial) | (clear m2_; have m2_ := trivial)
        replace HB := As (XD HB.out);have p124 : 0 ≤ (x7_2 : Int) := dT hy;have q124 : x7_2 < (l0.length : Int) := dT hy;obtain ⟨ad124, e124, hx124_0⟩ := Kd.at_int HR0.out x7_2 p124 q124;have hw124_0 := hx124_0
        cases e124
        replace hx124_0 := (HB.out.cell (BL w _ hx124_0)).trans hx124_0;replace p124 := eq_true p124;replace q124 := eq_true q124;have p125 : 0 ≤ ((ji9) : Int) := dT hy;have q125 : (ji9) < (l0.length : Int) := dT hy;obtain ⟨ad125, e125, hx125_0⟩ := Kd.at_int HR0.out (ji9) p125 q125;have hw125_0 := hx125_0
        obtain rfl : ad124 = ad125 := (by injection e125)
        replace hx125_0 := (HB.out.cell (BL w _ hx125_0)).trans hx125_0;replace p125 := eq_true p125;replace q125 := eq_true q125;refine start_ (n := 16) (S := fun w' => w'.cell? (ad124.add (x7_2).toNat) = some (.int .u8 (rd l0 x7_2)) ∧ w'.cell? (ad124.add ((ji9)).toNat) = some (.int .u8 (rd l0 (ji9)))) (ds := []) (fl 0 16) kr rfl rfl ⟨((HB.out.cell (BL w _ hw124_0)).trans hw124_0), ((HB.out.cell (BL w _ hw125_0)).trans hw125_0)⟩ (fun hHeld => ?_); refine with_tabW slices_partialInsertionSortOrdered_byte.tab5 slices_partialInsertionSortOrdered_byte.bits5 (fun HT_ HW_ => ?_);generalize wr.drew = w15 at HB hx124_0 hx125_0 hHeld ⊢;refine pure_ (i := 0) (N := some 17) (v := ?_) (a' := ?_) (fl 1 15) rfl rfl (any_of HT_.out kr) (fun _ _ _ h => h) (Or.inl ⟨by rfl, ?_⟩) ?_ ?_;rotate_left;(intro w';go_simp;with_reducible rfl);rotate_left;(simp only [Act.put,z0,z1,z2,i64_w,i32_w];rfl);refine pure_ (i := 1) (N := some 18) (v := ?_) (a' := ?_) (fl 2 14) rfl rfl (any_of HT_.out kr) (fun _ _ _ h => h) (Or.inl ⟨by rfl, ?_⟩) ?_ ?_;rotate_left;(intro w';go_simp;with_reducible rfl);rotate_left;(simp only [Act.put,z0,z1,z2,i64_w,i32_w];rfl);refine pure_ (i := 2) (N := some 19) (v := ?_) (a' := ?_) (fl 3 13) rfl rfl (any_of HT_.out kr) (fun _ _ _ h => h) (Or.inl ⟨by rfl, ?_⟩) ?_ ?_;rotate_left;(intro w';go_simp;with_reducible rfl);rotate_left;(simp only [Act.put,z0,z1,z2,i64_w,i32_w];rfl);refine pure_ (i := 3) (N := some 20) (v := ?_) (a' := ?_) (fl 4 12) rfl rfl (any_of HT_.out kr) (fun _ _ _ h => h) (Or.inl ⟨by rfl, ?_⟩) ?_ ?_;rotate_left;(intro w';go_simp;with_reducible rfl);rotate_left;(simp only [Act.put,z0,z1,z2,i64_w,i32_w];rfl);refine pure_ (i := 4) (N := some 21) (v := ?_) (a' := ?_) (fl 5 11) rfl rfl (any_of HT_.out kr) (fun _ _ _ h => h) (Or.inl ⟨by rfl, ?_⟩) ?_ ?_;rotate_left;(intro w';go_simp;with_reducible rfl);rotate_left;(simp only [Act.put,z0,z1,z2,i64_w,i32_w];rfl);refine pure_ (i := 5) (N := some 22) (v := ?_) (a' := ?_) (fl 6 10) rfl rfl (any_of HT_.out kr) (fun _ _ _ h => h) (Or.inl ⟨by rfl, ?_⟩) ?_ ?_;rotate_left;(intro w';go_simp;with_reducible rfl);rotate_left;(simp only [Act.put,z0,z1,z2,i64_w,i32_w];rfl);refine pure_ (i := 6) (N := some 23) (v := ?_) (a' := ?_) (fl 7 9) rfl rfl (any_of HT_.out kr) (fun _ _ _ h => h) (Or.inl ⟨by rfl, ?_⟩) ?_ ?_;rotate_left;(intro w';go_simp;with_reducible rfl);rotate_left;(simp only [Act.put,z0,z1,z2,i64_w,i32_w];rfl);refine pure_ (i := 8) (N := some 25) (v := ?_) (a' := ?_) #[Y,Y,Y,Y,Y,Y,Y,O,Y,O,O,O,O,O,O,O] rfl rfl (any_of HT_.out kr) (fun _ _ _ h => h) (Or.inl ⟨by rfl, ?_⟩) ?_ ?_;rotate_left;(intro w';go_simp;with_reducible rfl);rotate_left;(simp only [Act.put,z0,z1,z2,i64_w,i32_w];rfl);refine pure_ (i := 9) (N := some 26) (v := ?_) (a' := ?_) #[Y,Y,Y,Y,Y,Y,Y,O,Y,Y,O,O,O,O,O,O] rfl rfl (any_of HT_.out kr) (fun _ _ _ h => h) (Or.inl ⟨by rfl, ?_⟩) ?_ ?_;rotate_left;(intro w';go_simp;with_reducible rfl);rotate_left;(simp only [Act.put,z0,z1,z2,i64_w,i32_w];rfl);refine pure_ (i := 10) (N := some 27) (v := ?_) (a' := ?_) #[Y,Y,Y,Y,Y,Y,Y,O,Y,Y,Y,O,O,O,O,O] rfl rfl (any_of HT_.out kr) (fun _ _ _ h => h) (Or.inl ⟨by rfl, ?_⟩) ?_ ?_;rotate_left;(intro w';go_simp;with_reducible rfl);rotate_left;(simp only [Act.put,z0,z1,z2,i64_w,i32_w];rfl);refine pure_ (i := 11) (N := some 28) (v := ?_) (a' := ?_) #[Y,Y,Y,Y,Y,Y,Y,O,Y,Y,Y,Y,O,O,O,O] rfl rfl (any_of HT_.out kr) (fun _ _ _ h => h) (Or.inl ⟨by rfl, ?_⟩) ?_ ?_;rotate_left;(intro w';go_simp;with_reducible rfl);rotate_left;(simp only [Act.put,z0,z1,z2,i64_w,i32_w];rfl);refine take_ (i := 7) (N := some 24) (v := ?_) (a' := ?_) (fl 12 4) rfl rfl (take_ofW HT_.out HW_.out kr) (fun _ _ _ h => h) (Or.inl ⟨by rfl, ?_⟩) hHeld ?_ ?_;rotate_left;(rintro w' ⟨s0, s1⟩;go_simp;with_reducible rfl);rotate_left;(simp only [Act.put,z0,z1,z2,i64_w,i32_w];rfl);refine take_ (i := 12) (N := some 29) (v := ?_) (a' := ?_) (fl 13 3) rfl rfl (take_ofW HT_.out HW_.out kr) (fun _ _ _ h => h) (Or.inl ⟨by rfl, ?_⟩) hHeld ?_ ?_;rotate_left;(rintro w' ⟨s0, s1⟩;go_simp;with_reducible rfl);rotate_left;(simp only [Act.put,z0,z1,z2,i64_w,i32_w];rfl);refine one_ (i := 13) (N := some 30) (fl 14 2) rfl rfl (one_of HT_.out kr) (by decide) (fun K hK => ?_);refine goes_ Tryz.func109 kr rfl #[.int .u8 (rd l0 x7_2), .int .u8 (rd l0 (ji9))] (by rfl) rfl rfl (by (try simp only [List.map_toArray, List.map_cons, List.map_nil]); first | done | (simp only [hji9]; rfl) | rfl | (simp only [List.length_drop, List.length_take]; rfl)) ?_
        with_reducible refine (cmp_Less_byte.calls (rd l0 x7_2) (rd l0 (ji9)) _ _ A12.out).mono ?_
        rintro e w' ⟨rfl, ⟨nd, rfl⟩⟩;refine ⟨_, rfl, ?_⟩;refine hK.out _ _ ⟨((HB.out.cell (BL w _ hw124_0)).trans hw124_0), ((HB.out.cell (BL w _ hw125_0)).trans hw125_0)⟩ (fun hHeld => ?_);clear hK K;refine norm_ (a' := ?_) ?_ ?_;rotate_left
        ·show Act.put _ (some 30) _ = _
         simp only [Act.put, z0,z1,z2,i64_w,i32_w];rfl
        refine pure_ (i := 14) (N := some 31) (v := ?_) (a' := ?_) (fl 15 1) rfl rfl (any_of HT_.out kr) (fun _ _ _ h => h) (Or.inl ⟨by rfl, ?_⟩) ?_ ?_;rotate_left;(intro w';go_simp;with_reducible rfl);rotate_left;(simp only [Act.put,z0,z1,z2,i64_w,i32_w];rfl);refine pure_ (i := 15) (N := some 32) (v := ?_) (a' := ?_) (fl 16 0) rfl rfl (any_of HT_.out kr) (fun _ _ _ h => h) (Or.inl ⟨by rfl, ?_⟩) ?_ ?_;rotate_left;(intro w';go_simp;with_reducible rfl);rotate_left;(simp only [Act.put,z0,z1,z2,i64_w,i32_w];rfl);refine done_ (done_of HT_.out kr) ?_
        try go_wp2
       ·replace HB := As (XD HB.out);refine start_ (n := 16) (S := fun w' => True) (ds := []) (fl 0 16) kr rfl rfl trivial (fun hHeld => ?_); refine with_tabW slices_partialInsertionSortOrdered_byte.tab5 slices_partialInsertionSortOrdered_byte.bits5 (fun HT_ HW_ => ?_);generalize wr.drew = w16 at HB hHeld ⊢;refine pure_ (i := 0) (N := some 17) (v := ?_) (a' := ?_) (fl 1 15) rfl rfl (any_of HT_.out kr) (fun _ _ _ h => h) (Or.inl ⟨by rfl, ?_⟩) ?_ ?_;rotate_left;(intro w';go_simp;with_reducible rfl);rotate_left;(simp only [Act.put,z0,z1,z2,i64_w,i32_w];rfl);refine pure_ (i := 1) (N := some 18) (v := ?_) (a' := ?_) (fl 2 14) rfl rfl (any_of HT_.out kr) (fun _ _ _ h => h) (Or.inl ⟨by rfl, ?_⟩) ?_ ?_;rotate_left;(intro w';go_simp;with_reducible rfl);rotate_left;(simp only [Act.put,z0,z1,z2,i64_w,i32_w];rfl);refine pure_ (i := 2) (N := some 19) (v := ?_) (a' := ?_) (fl 3 13) rfl rfl (any_of HT_.out kr) (fun _ _ _ h => h) (Or.inl ⟨by rfl, ?_⟩) ?_ ?_;rotate_left;(intro w';go_simp;with_reducible rfl);rotate_left;(simp only [Act.put,z0,z1,z2,i64_w,i32_w];rfl);refine pure_ (i := 3) (N := some 20) (v := ?_) (a' := ?_) (fl 4 12) rfl rfl (any_of HT_.out kr) (fun _ _ _ h => h) (Or.inl ⟨by rfl, ?_⟩) ?_ ?_;rotate_left;(intro w';go_simp;with_reducible rfl);rotate_left;(simp only [Act.put,z0,z1,z2,i64_w,i32_w];rfl);refine pure_ (i := 4) (N := some 21) (v := undef) (a' := ?_) (fl 5 11) rfl rfl (any_of HT_.out kr) (fun _ _ _ h => h) (Or.inr ⟨by rfl, rfl⟩) ?_ ?_;rotate_left
        ·simp only [Act.put, z0,z1,z2,i64_w,i32_w];rfl
        refine pure_ (i := 5) (N := some 22) (v := undef) (a' := ?_) (fl 6 10) rfl rfl (any_of HT_.out kr) (fun _ _ _ h => h) (Or.inr ⟨by rfl, rfl⟩) ?_ ?_;rotate_left
        ·simp only [Act.put, z0,z1,z2,i64_w,i32_w];rfl
        refine pure_ (i := 6) (N := some 23) (v := undef) (a' := ?_) (fl 7 9) rfl rfl (any_of HT_.out kr) (fun _ _ _ h => h) (Or.inr ⟨by rfl, rfl⟩) ?_ ?_;rotate_left
        ·simp only [Act.put, z0,z1,z2,i64_w,i32_w];rfl
        refine pure_ (i := 7) (N := some 24) (v := undef) (a' := ?_) (fl 8 8) rfl rfl (any_of HT_.out kr) (fun _ _ _ h => h) (Or.inr ⟨by rfl, rfl⟩) ?_ ?_;rotate_left
        ·simp only [Act.put, z0,z1,z2,i64_w,i32_w];rfl
        refine pure_ (i := 8) (N := some 25) (v := undef) (a' := ?_) (fl 9 7) rfl rfl (any_of HT_.out kr) (fun _ _ _ h => h) (Or.inr ⟨by rfl, rfl⟩) ?_ ?_;rotate_left
        ·simp only [Act.put, z0,z1,z2,i64_w,i32_w];rfl
        refine pure_ (i := 9) (N := some 26) (v := undef) (a' := ?_) (fl 10 6) rfl rfl (any_of HT_.out kr) (fun _ _ _ h => h) (Or.inr ⟨by rfl, rfl⟩) ?_ ?_;rotate_left
        ·simp only [Act.put, z0,z1,z2,i64_w,i32_w];rfl
        refine pure_ (i := 10) (N := some 27) (v := undef) (a' := ?_) (fl 11 5) rfl rfl (any_of HT_.out kr) (fun _ _ _ h => h) (Or.inr ⟨by rfl, rfl⟩) ?_ ?_;rotate_left
        ·simp only [Act.put, z0,z1,z2,i64_w,i32_w];rfl
        refine pure_ (i := 11) (N := some 28) (v := undef) (a' := ?_) (fl 12 4) rfl rfl (any_of HT_.out kr) (fun _ _ _ h => h) (Or.inr ⟨by rfl, rfl⟩) ?_ ?_;rotate_left
        ·simp only [Act.put, z0,z1,z2,i64_w,i32_w];rfl
        refine pure_ (i := 12) (N := some 29) (v := undef) (a' := ?_) (fl 13 3) rfl rfl (any_of HT_.out kr) (fun _ _ _ h => h) (Or.inr ⟨by rfl, rfl⟩) ?_ ?_;rotate_left
        ·simp only [Act.put, z0,z1,z2,i64_w,i32_w];rfl
        refine pure_ (i := 13) (N := some 30) (v := undef) (a' := ?_) (fl 14 2) rfl rfl (any_of HT_.out kr) (fun _ _ _ h => h) (Or.inr ⟨by rfl, rfl⟩) ?_ ?_;rotate_left
        ·simp only [Act.put, z0,z1,z2,i64_w,i32_w];rfl
        refine pure_ (i := 14) (N := some 31) (v := undef) (a' := ?_) (fl 15 1) rfl rfl (any_of HT_.out kr) (fun _ _ _ h => h) (Or.inr ⟨by rfl, rfl⟩) ?_ ?_;rotate_left
        ·simp only [Act.put, z0,z1,z2,i64_w,i32_w];rfl
        refine pure_ (i := 15) (N := some 32) (v := ?_) (a' := ?_) (fl 16 0) rfl rfl (any_of HT_.out kr) (fun _ _ _ h => h) (Or.inl ⟨by rfl, ?_⟩) ?_ ?_;rotate_left;(intro w';go_simp;with_reducible rfl);rotate_left;(simp only [Act.put,z0,z1,z2,i64_w,i32_w];rfl);refine done_ (done_of HT_.out kr) ?_
        try go_wp2
        go_meet
        case rel => exact ⟨_, (x7_2), sw, H', ⟨by have := HK1.out; have := HK2.out; first | omega | exact Nat.le_refl _⟩, ⟨by repeat (first | (with_reducible first | exact HB.out | apply XA | apply XN | apply XD) | exact HB.out)⟩⟩
       ·go_roundg k2
        case measure => have := HK1.out; have := HK2.out; omega
        case rel => exact ⟨(wrap64 (x7_2 + 1)), sw, H', ⟨by have := HK1.out; have := HK2.out; omega⟩, ⟨by repeat (first | (with_reducible first | exact HB.out | apply XA | apply XN | apply XD) | exact HB.out)⟩⟩
       ·go_meet
        case rel => exact ⟨_, (x7_2), sw, H', ⟨by have := HK1.out; have := HK2.out; first | omega | exact Nat.le_refl _⟩, ⟨by repeat (first | (with_reducible first | exact HB.out | apply XA | apply XN | apply XD) | exact HB.out)⟩⟩
    case rest =>
     clear HC5
     try clear c1
     try clear p1
     try clear q1
     try clear hx1
     try clear p2
     try clear c4
     try clear c4b0
     try clear c6
     try clear c6b0
     try clear p6
     try clear c7
     try clear c7b0
     try clear c8
     try clear c8b0
     try clear c10
     try clear c10b0
     try clear c11
     try clear c11b0
     try clear p12
     try clear q12
     try clear hx12
     try clear c13
     try clear hx124_0
     try clear hx125_0
     try clear p124
     try clear p125
     try clear p2
     try clear q124
     try clear q125
     obtain ⟨kq, x7_4, rfl, HA, HJ4, HB⟩ := hcut
     cases kq with
     | zero => exact absurd HA.out (by simp [slices_partialInsertionSortOrdered_byte.j2])
     | succ kj4 =>
      have H := HA.out;clear HA;simp only [slices_partialInsertionSortOrdered_byte.j2] at H
      by_cases c17 : x7_4 = a2
      rw [if_pos c17] at H;have c17b0 : (x7_4 == a2) = true := beq_iff_eq.mpr c17;have c17b1 : (x7_4 != a2) = false := bne_eq_false_iff_eq.mpr c17;clear c17;obtain rfl := Option.some.inj H
      rotate_left
      focus
       rw [if_neg c17] at H;have c17b0 : (x7_4 == a2) = false := beq_eq_false_iff_ne.mpr c17;have c17b1 : (x7_4 != a2) = true := bne_iff_ne.mpr c17
       by_cases c18 : (wrap64 (a2 - a1)) < 50
       rotate_left
       ·rw [if_neg c18] at H;exact absurd H (by simp)
       rw [if_pos c18] at H;have c18b0 : decide ((wrap64 (a2 - a1)) < 50) = true := dY c18;clear c18;obtain rfl := Option.some.inj H
      all_goals
       go_wp2
       go_ret
       exact ⟨by first | rfl | (simp [errW_none, errW_some] <;> rfl) | (simp [*, errW_none, errW_some] <;> rfl), by repeat (first | (with_reducible first | exact HB.out | apply XA | apply XN | apply XD) | exact HB.out)⟩
   ·rw [if_neg c4] at H;have c4b0 : decide (x8_1 < 5) = false := dN c4;clear c4;obtain rfl := Option.some.inj H
    go_wp2
    go_ret
    exact ⟨by first | rfl | (simp [errW_none, errW_some] <;> rfl) | (simp [*, errW_none, errW_some] <;> rfl), by repeat (first | (with_reducible first | exact HB.out | apply XA | apply XN | apply XD) | exact HB.out)⟩

end Go.Proofs.YtahjnjlkpbjfnaaGreatDoor.P
-- SHRUNK
-- PACKED
-- PACKED2
