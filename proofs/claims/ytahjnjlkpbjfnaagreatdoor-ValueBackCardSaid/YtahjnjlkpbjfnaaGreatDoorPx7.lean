-- written by myprint.py (this claim's own program, after the kit's print)
import Derived.Test.YtahjnjlkpbjfnaaGreatDoorVaZ
import Derived.Test.YtahjnjlkpbjfnaaGreatDoorPx0
import Derived.Test.YtahjnjlkpbjfnaaGreatDoorPx5
import Derived.Test.YtahjnjlkpbjfnaaGreatDoorPack
namespace Go.Proofs.YtahjnjlkpbjfnaaGreatDoor.P
open Go.RowKit Go.Proofs.YtahjnjlkpbjfnaaGreatDoorW.PrintWords Go.Proofs.YtahjnjlkpbjfnaaGreatDoorW.PrintLast Go.Proofs.YtahjnjlkpbjfnaaGreatDoorW.PrintMore
attribute [local go_sem] max2_int min2_int max_two min_two max_three min_three max_four min_four   -- for this text's walks alone
set_option linter.unusedVariables false
set_option linter.unusedSimpArgs false

/-! ### slices_partitionOrdered_byte: function 111 -/
mutual
def slices_partitionOrdered_byte.j1 : Nat → List Int → Int → Int → Int → Option (Int × Bool × List Int)
 | 0, _, _, _, _ => none
 | k + 1, x0, x1, x10, x11 => slices_partitionOrdered_byte.l1 k x0 x1 x10 x11
def slices_partitionOrdered_byte.j3 : Nat → List Int → Int → Int → Int → Option (Int × Bool × List Int)
 | 0, _, _, _, _ => none
 | k + 1, x0, x1, x10, x11 => if x10 > x11 then (if 0 ≤ x1 then (if x1 < (x0.length : Int) then (if 0 ≤ x11 then (if x11 < (x0.length : Int) then (some (x11, true, ((x0.set (x11 : Int).toNat (rd x0 x1)).set (x1 : Int).toNat (rd x0 x11)))) else (none)) else (none)) else (none)) else (none)) else (if 0 ≤ x11 then (if x11 < (x0.length : Int) then (if 0 ≤ x10 then (if x10 < (x0.length : Int) then (slices_partitionOrdered_byte.l2 k ((x0.set (x10 : Int).toNat (rd x0 x11)).set (x11 : Int).toNat (rd x0 x10)) x1 (wrap64 (x10 + 1)) (wrap64 (x11 - 1))) else (none)) else (none)) else (none)) else (none))
def slices_partitionOrdered_byte.l2 : Nat → List Int → Int → Int → Int → Option (Int × Bool × List Int)
 | 0, _, _, _, _ => none
 | k + 1, x0, x1, x10, x11 => slices_partitionOrdered_byte.l3 k x0 x1 x10 x11
def slices_partitionOrdered_byte.j6 : Nat → List Int → Int → Int → Int → Option (Int × Bool × List Int)
 | 0, _, _, _, _ => none
 | k + 1, x0, x1, x10, x11 => slices_partitionOrdered_byte.l4 k x0 x1 x10 x11
def slices_partitionOrdered_byte.l4 : Nat → List Int → Int → Int → Int → Option (Int × Bool × List Int)
 | 0, _, _, _, _ => none
 | k + 1, x0, x1, x10, x11 => if x10 ≤ x11 then (if 0 ≤ x11 then (if x11 < (x0.length : Int) then (if 0 ≤ x1 then (if x1 < (x0.length : Int) then ((cmp_Less_byte.f (rd x0 x11) (rd x0 x1)).bind fun t168 => (if t168 = true then (if x10 > x11 then (some (x11, false, ((x0.set (x11 : Int).toNat (rd x0 x1)).set (x1 : Int).toNat (rd x0 x11)))) else (if 0 ≤ x10 then (if x10 < (x0.length : Int) then (slices_partitionOrdered_byte.l2 k ((x0.set (x10 : Int).toNat (rd x0 x11)).set (x11 : Int).toNat (rd x0 x10)) x1 (wrap64 (x10 + 1)) (wrap64 (x11 - 1))) else (none)) else (none))) else (slices_partitionOrdered_byte.l4 k x0 x1 x10 (wrap64 (x11 - 1))))) else (none)) else (none)) else (none)) else (none)) else (if x10 > x11 then (if 0 ≤ x1 then (if x1 < (x0.length : Int) then (if 0 ≤ x11 then (if x11 < (x0.length : Int) then (some (x11, false, ((x0.set (x11 : Int).toNat (rd x0 x1)).set (x1 : Int).toNat (rd x0 x11)))) else (none)) else (none)) else (none)) else (none)) else (if 0 ≤ x11 then (if x11 < (x0.length : Int) then (if 0 ≤ x10 then (if x10 < (x0.length : Int) then (slices_partitionOrdered_byte.l2 k ((x0.set (x10 : Int).toNat (rd x0 x11)).set (x11 : Int).toNat (rd x0 x10)) x1 (wrap64 (x10 + 1)) (wrap64 (x11 - 1))) else (none)) else (none)) else (none)) else (none)))
def slices_partitionOrdered_byte.l3 : Nat → List Int → Int → Int → Int → Option (Int × Bool × List Int)
 | 0, _, _, _, _ => none
 | k + 1, x0, x1, x10, x11 => if x10 ≤ x11 then (if 0 ≤ x10 then (if x10 < (x0.length : Int) then (if 0 ≤ x1 then (if x1 < (x0.length : Int) then ((cmp_Less_byte.f (rd x0 x10) (rd x0 x1)).bind fun t165 => (if t165 = true then (slices_partitionOrdered_byte.l3 k x0 x1 (wrap64 (x10 + 1)) x11) else (slices_partitionOrdered_byte.j6 k x0 x1 x10 x11))) else (none)) else (none)) else (none)) else (none)) else (slices_partitionOrdered_byte.j6 k x0 x1 x10 x11)
def slices_partitionOrdered_byte.l1 : Nat → List Int → Int → Int → Int → Option (Int × Bool × List Int)
 | 0, _, _, _, _ => none
 | k + 1, x0, x1, x10, x11 => if x10 ≤ x11 then (if 0 ≤ x11 then (if x11 < (x0.length : Int) then (if 0 ≤ x1 then (if x1 < (x0.length : Int) then ((cmp_Less_byte.f (rd x0 x11) (rd x0 x1)).bind fun t154 => (if t154 = true then (slices_partitionOrdered_byte.j3 k x0 x1 x10 x11) else (slices_partitionOrdered_byte.l1 k x0 x1 x10 (wrap64 (x11 - 1))))) else (none)) else (none)) else (none)) else (none)) else (slices_partitionOrdered_byte.j3 k x0 x1 x10 x11)
def slices_partitionOrdered_byte.l0 : Nat → List Int → Int → Int → Int → Option (Int × Bool × List Int)
 | 0, _, _, _, _ => none
 | k + 1, x0, x1, x10, x11 => if x10 ≤ x11 then (if 0 ≤ x10 then (if x10 < (x0.length : Int) then (if 0 ≤ x1 then (if x1 < (x0.length : Int) then ((cmp_Less_byte.f (rd x0 x10) (rd x0 x1)).bind fun t151 => (if t151 = true then (slices_partitionOrdered_byte.l0 k x0 x1 (wrap64 (x10 + 1)) x11) else (slices_partitionOrdered_byte.j1 k x0 x1 x10 x11))) else (none)) else (none)) else (none)) else (none)) else (slices_partitionOrdered_byte.j1 k x0 x1 x10 x11)
end
def slices_partitionOrdered_byte.f (k : Nat) (l0 : List Int) (a1 : Int) (a2 : Int) (a3 : Int) : Option (Int × Bool × List Int) := if 0 ≤ a3 then (if a3 < (l0.length : Int) then (if 0 ≤ a1 then (if a1 < (l0.length : Int) then (slices_partitionOrdered_byte.l0 k ((l0.set (a1 : Int).toNat (rd l0 a3)).set (a3 : Int).toNat (rd l0 a1)) a1 (wrap64 (a1 + 1)) (wrap64 (a2 - 1))) else (none)) else (none)) else (none)) else (none)
theorem slices_partitionOrdered_byte.mono_l : ∀ k, (∀ y0 y1 y2 y3, LeO (slices_partitionOrdered_byte.j1 k y0 y1 y2 y3) (slices_partitionOrdered_byte.j1 (k + 1) y0 y1 y2 y3)) ∧ (∀ y0 y1 y2 y3, LeO (slices_partitionOrdered_byte.j3 k y0 y1 y2 y3) (slices_partitionOrdered_byte.j3 (k + 1) y0 y1 y2 y3)) ∧ (∀ y0 y1 y2 y3, LeO (slices_partitionOrdered_byte.l2 k y0 y1 y2 y3) (slices_partitionOrdered_byte.l2 (k + 1) y0 y1 y2 y3)) ∧ (∀ y0 y1 y2 y3, LeO (slices_partitionOrdered_byte.j6 k y0 y1 y2 y3) (slices_partitionOrdered_byte.j6 (k + 1) y0 y1 y2 y3)) ∧ (∀ y0 y1 y2 y3, LeO (slices_partitionOrdered_byte.l4 k y0 y1 y2 y3) (slices_partitionOrdered_byte.l4 (k + 1) y0 y1 y2 y3)) ∧ (∀ y0 y1 y2 y3, LeO (slices_partitionOrdered_byte.l3 k y0 y1 y2 y3) (slices_partitionOrdered_byte.l3 (k + 1) y0 y1 y2 y3)) ∧ (∀ y0 y1 y2 y3, LeO (slices_partitionOrdered_byte.l1 k y0 y1 y2 y3) (slices_partitionOrdered_byte.l1 (k + 1) y0 y1 y2 y3)) ∧ (∀ y0 y1 y2 y3, LeO (slices_partitionOrdered_byte.l0 k y0 y1 y2 y3) (slices_partitionOrdered_byte.l0 (k + 1) y0 y1 y2 y3))
 | 0 => ⟨fun _ _ _ _ r h => by simp [slices_partitionOrdered_byte.j1] at h, fun _ _ _ _ r h => by simp [slices_partitionOrdered_byte.j3] at h, fun _ _ _ _ r h => by simp [slices_partitionOrdered_byte.l2] at h, fun _ _ _ _ r h => by simp [slices_partitionOrdered_byte.j6] at h, fun _ _ _ _ r h => by simp [slices_partitionOrdered_byte.l4] at h, fun _ _ _ _ r h => by simp [slices_partitionOrdered_byte.l3] at h, fun _ _ _ _ r h => by simp [slices_partitionOrdered_byte.l1] at h, fun _ _ _ _ r h => by simp [slices_partitionOrdered_byte.l0] at h⟩
 | k + 1 => by
  obtain ⟨ih0, ih1, ih2, ih3, ih4, ih5, ih6, ih7⟩ := slices_partitionOrdered_byte.mono_l k;refine ⟨?_, ?_, ?_, ?_, ?_, ?_, ?_, ?_⟩
  ·intro y0 y1 y2 y3;unfold slices_partitionOrdered_byte.j1
   repeat' first
   | (with_reducible exact ih0 _ _ _ _)
   | (with_reducible exact ih1 _ _ _ _)
   | (with_reducible exact ih2 _ _ _ _)
   | (with_reducible exact ih3 _ _ _ _)
   | (with_reducible exact ih4 _ _ _ _)
   | (with_reducible exact ih5 _ _ _ _)
   | (with_reducible exact ih6 _ _ _ _)
   | (with_reducible exact ih7 _ _ _ _)
   | (with_reducible exact LeO.refl _)
   | (with_reducible exact LeO.none _)
   | (with_reducible refine LeO.ite ?_ ?_)
   | (with_reducible refine LeO.bind ?_ (fun _ => ?_))
   | exact ih0 _ _ _ _
   | exact ih1 _ _ _ _
   | exact ih2 _ _ _ _
   | exact ih3 _ _ _ _
   | exact ih4 _ _ _ _
   | exact ih5 _ _ _ _
   | exact ih6 _ _ _ _
   | exact ih7 _ _ _ _
   | exact LeO.none _
   | refine LeO.ite ?_ ?_
   | refine LeO.bind ?_ (fun _ => ?_)
  ·intro y0 y1 y2 y3;unfold slices_partitionOrdered_byte.j3
   repeat' first
   | (with_reducible exact ih0 _ _ _ _)
   | (with_reducible exact ih1 _ _ _ _)
   | (with_reducible exact ih2 _ _ _ _)
   | (with_reducible exact ih3 _ _ _ _)
   | (with_reducible exact ih4 _ _ _ _)
   | (with_reducible exact ih5 _ _ _ _)
   | (with_reducible exact ih6 _ _ _ _)
   | (with_reducible exact ih7 _ _ _ _)
   | (with_reducible exact LeO.refl _)
   | (with_reducible exact LeO.none _)
   | (with_reducible refine LeO.ite ?_ ?_)
   | (with_reducible refine LeO.bind ?_ (fun _ => ?_))
   | exact ih0 _ _ _ _
   | exact ih1 _ _ _ _
   | exact ih2 _ _ _ _
   | exact ih3 _ _ _ _
   | exact ih4 _ _ _ _
   | exact ih5 _ _ _ _
   | exact ih6 _ _ _ _
   | exact ih7 _ _ _ _
   | exact LeO.none _
   | refine LeO.ite ?_ ?_
   | refine LeO.bind ?_ (fun _ => ?_)
  ·intro y0 y1 y2 y3;unfold slices_partitionOrdered_byte.l2
   repeat' first
   | (with_reducible exact ih0 _ _ _ _)
   | (with_reducible exact ih1 _ _ _ _)
   | (with_reducible exact ih2 _ _ _ _)
   | (with_reducible exact ih3 _ _ _ _)
   | (with_reducible exact ih4 _ _ _ _)
   | (with_reducible exact ih5 _ _ _ _)
   | (with_reducible exact ih6 _ _ _ _)
   | (with_reducible exact ih7 _ _ _ _)
   | (with_reducible exact LeO.refl _)
   | (with_reducible exact LeO.none _)
   | (with_reducible refine LeO.ite ?_ ?_)
   | (with_reducible refine LeO.bind ?_ (fun _ => ?_))
   | exact ih0 _ _ _ _
   | exact ih1 _ _ _ _
   | exact ih2 _ _ _ _
   | exact ih3 _ _ _ _
   | exact ih4 _ _ _ _
   | exact ih5 _ _ _ _
   | exact ih6 _ _ _ _
   | exact ih7 _ _ _ _
   | exact LeO.none _
   | refine LeO.ite ?_ ?_
   | refine LeO.bind ?_ (fun _ => ?_)
  ·intro y0 y1 y2 y3;unfold slices_partitionOrdered_byte.j6
   repeat' first
   | (with_reducible exact ih0 _ _ _ _)
   | (with_reducible exact ih1 _ _ _ _)
   | (with_reducible exact ih2 _ _ _ _)
   | (with_reducible exact ih3 _ _ _ _)
   | (with_reducible exact ih4 _ _ _ _)
   | (with_reducible exact ih5 _ _ _ _)
   | (with_reducible exact ih6 _ _ _ _)
   | (with_reducible exact ih7 _ _ _ _)
   | (with_reducible exact LeO.refl _)
   | (with_reducible exact LeO.none _)
   | (with_reducible refine LeO.ite ?_ ?_)
   | (with_reducible refine LeO.bind ?_ (fun _ => ?_))
   | exact ih0 _ _ _ _
   | exact ih1 _ _ _ _
   | exact ih2 _ _ _ _
   | exact ih3 _ _ _ _
   | exact ih4 _ _ _ _
   | exact ih5 _ _ _ _
   | exact ih6 _ _ _ _
   | exact ih7 _ _ _ _
   | exact LeO.none _
   | refine LeO.ite ?_ ?_
   | refine LeO.bind ?_ (fun _ => ?_)
  ·intro y0 y1 y2 y3;unfold slices_partitionOrdered_byte.l4
   repeat' first
   | (with_reducible exact ih0 _ _ _ _)
   | (with_reducible exact ih1 _ _ _ _)
   | (with_reducible exact ih2 _ _ _ _)
   | (with_reducible exact ih3 _ _ _ _)
   | (with_reducible exact ih4 _ _ _ _)
   | (with_reducible exact ih5 _ _ _ _)
   | (with_reducible exact ih6 _ _ _ _)
   | (with_reducible exact ih7 _ _ _ _)
   | (with_reducible exact LeO.refl _)
   | (with_reducible exact LeO.none _)
   | (with_reducible refine LeO.ite ?_ ?_)
   | (with_reducible refine LeO.bind ?_ (fun _ => ?_))
   | exact ih0 _ _ _ _
   | exact ih1 _ _ _ _
   | exact ih2 _ _ _ _
   | exact ih3 _ _ _ _
   | exact ih4 _ _ _ _
   | exact ih5 _ _ _ _
   | exact ih6 _ _ _ _
   | exact ih7 _ _ _ _
   | exact LeO.none _
   | refine LeO.ite ?_ ?_
   | refine LeO.bind ?_ (fun _ => ?_)
  ·intro y0 y1 y2 y3;unfold slices_partitionOrdered_byte.l3
   repeat' first
   | (with_reducible exact ih0 _ _ _ _)
   | (with_reducible exact ih1 _ _ _ _)
   | (with_reducible exact ih2 _ _ _ _)
   | (with_reducible exact ih3 _ _ _ _)
   | (with_reducible exact ih4 _ _ _ _)
   | (with_reducible exact ih5 _ _ _ _)
   | (with_reducible exact ih6 _ _ _ _)
   | (with_reducible exact ih7 _ _ _ _)
   | (with_reducible exact LeO.refl _)
   | (with_reducible exact LeO.none _)
   | (with_reducible refine LeO.ite ?_ ?_)
   | (with_reducible refine LeO.bind ?_ (fun _ => ?_))
   | exact ih0 _ _ _ _
   | exact ih1 _ _ _ _
   | exact ih2 _ _ _ _
   | exact ih3 _ _ _ _
   | exact ih4 _ _ _ _
   | exact ih5 _ _ _ _
   | exact ih6 _ _ _ _
   | exact ih7 _ _ _ _
   | exact LeO.none _
   | refine LeO.ite ?_ ?_
   | refine LeO.bind ?_ (fun _ => ?_)
  ·intro y0 y1 y2 y3;unfold slices_partitionOrdered_byte.l1
   repeat' first
   | (with_reducible exact ih0 _ _ _ _)
   | (with_reducible exact ih1 _ _ _ _)
   | (with_reducible exact ih2 _ _ _ _)
   | (with_reducible exact ih3 _ _ _ _)
   | (with_reducible exact ih4 _ _ _ _)
   | (with_reducible exact ih5 _ _ _ _)
   | (with_reducible exact ih6 _ _ _ _)
   | (with_reducible exact ih7 _ _ _ _)
   | (with_reducible exact LeO.refl _)
   | (with_reducible exact LeO.none _)
   | (with_reducible refine LeO.ite ?_ ?_)
   | (with_reducible refine LeO.bind ?_ (fun _ => ?_))
   | exact ih0 _ _ _ _
   | exact ih1 _ _ _ _
   | exact ih2 _ _ _ _
   | exact ih3 _ _ _ _
   | exact ih4 _ _ _ _
   | exact ih5 _ _ _ _
   | exact ih6 _ _ _ _
   | exact ih7 _ _ _ _
   | exact LeO.none _
   | refine LeO.ite ?_ ?_
   | refine LeO.bind ?_ (fun _ => ?_)
  ·intro y0 y1 y2 y3;unfold slices_partitionOrdered_byte.l0
   repeat' first
   | (with_reducible exact ih0 _ _ _ _)
   | (with_reducible exact ih1 _ _ _ _)
   | (with_reducible exact ih2 _ _ _ _)
   | (with_reducible exact ih3 _ _ _ _)
   | (with_reducible exact ih4 _ _ _ _)
   | (with_reducible exact ih5 _ _ _ _)
   | (with_reducible exact ih6 _ _ _ _)
   | (with_reducible exact ih7 _ _ _ _)
   | (with_reducible exact LeO.refl _)
   | (with_reducible exact LeO.none _)
   | (with_reducible refine LeO.ite ?_ ?_)
   | (with_reducible refine LeO.bind ?_ (fun _ => ?_))
   | exact ih0 _ _ _ _
   | exact ih1 _ _ _ _
   | exact ih2 _ _ _ _
   | exact ih3 _ _ _ _
   | exact ih4 _ _ _ _
   | exact ih5 _ _ _ _
   | exact ih6 _ _ _ _
   | exact ih7 _ _ _ _
   | exact LeO.none _
   | refine LeO.ite ?_ ?_
   | refine LeO.bind ?_ (fun _ => ?_)
theorem slices_partitionOrdered_byte.mono : ∀ a0 a1 a2 a3 k, LeO (slices_partitionOrdered_byte.f k a0 a1 a2 a3) (slices_partitionOrdered_byte.f (k + 1) a0 a1 a2 a3) := by
 intro a0 a1 a2 a3 k;obtain ⟨ih0, ih1, ih2, ih3, ih4, ih5, ih6, ih7⟩ := slices_partitionOrdered_byte.mono_l k;unfold slices_partitionOrdered_byte.f
 repeat' first
   | (with_reducible exact ih0 _ _ _ _)
   | (with_reducible exact ih1 _ _ _ _)
   | (with_reducible exact ih2 _ _ _ _)
   | (with_reducible exact ih3 _ _ _ _)
   | (with_reducible exact ih4 _ _ _ _)
   | (with_reducible exact ih5 _ _ _ _)
   | (with_reducible exact ih6 _ _ _ _)
   | (with_reducible exact ih7 _ _ _ _)
   | (with_reducible exact LeO.refl _)
   | (with_reducible exact LeO.none _)
   | (with_reducible refine LeO.ite ?_ ?_)
   | (with_reducible refine LeO.bind ?_ (fun _ => ?_))
   | exact ih0 _ _ _ _
   | exact ih1 _ _ _ _
   | exact ih2 _ _ _ _
   | exact ih3 _ _ _ _
   | exact ih4 _ _ _ _
   | exact ih5 _ _ _ _
   | exact ih6 _ _ _ _
   | exact ih7 _ _ _ _
   | exact LeO.none _
   | refine LeO.ite ?_ ?_
   | refine LeO.bind ?_ (fun _ => ?_)
def slices_partitionOrdered_byte.T1 : Bool × List (List Nat × List Nat) := (true, [([], []), ([], []), ([], []), ([], []), ([], []), ([], []), ([4, 5], [4, 5]), ([6], [6]), ([], []), ([], []), ([8, 9], [8, 9]), ([10], [10]), ([0, 1, 0, 1, 4, 5, 6, 7, 11], [0, 1]), ([12, 7, 0, 1, 4, 5, 6, 7, 11], [7, 12]), ([2, 3, 0, 1, 2, 3, 4, 5, 6, 7, 8, 9, 10, 11, 12, 13], [2, 3]), ([14, 11, 13, 0, 1, 2, 3, 4, 5, 6, 7, 8, 9, 10, 11, 12, 13], [11, 14])])
def slices_partitionOrdered_byte.B1 : List Nat := [0, 0, 0, 0, 0, 0, 48, 112, 0, 0, 768, 1792, 4083, 8179, 16383, 32767]
theorem slices_partitionOrdered_byte.tab1 : rtab .any (opsOf Tryz.f111 1) = slices_partitionOrdered_byte.T1 := by kernel_rfl
theorem slices_partitionOrdered_byte.bits1 : waitsOk slices_partitionOrdered_byte.T1.2 slices_partitionOrdered_byte.B1 = true := by kernel_rfl
def slices_partitionOrdered_byte.T3 : Bool × List (List Nat × List Nat) := (true, [([], []), ([], []), ([0, 1], [0, 1]), ([2], [2]), ([3], [3]), ([3], [3]), ([4, 5, 3], [3, 4, 5]), ([6, 3], [3, 6]), ([3], [3]), ([3], [3]), ([8, 9, 3], [3, 8, 9]), ([10, 3], [3, 10]), ([7, 11, 3, 3], [3, 7, 11]), ([3, 12], [3, 12])])
def slices_partitionOrdered_byte.B3 : List Nat := [0, 0, 3, 7, 15, 15, 63, 127, 15, 15, 783, 1807, 4095, 8191]
theorem slices_partitionOrdered_byte.tab3 : rtab .any (opsOf Tryz.f111 3) = slices_partitionOrdered_byte.T3 := by kernel_rfl
theorem slices_partitionOrdered_byte.bits3 : waitsOk slices_partitionOrdered_byte.T3.2 slices_partitionOrdered_byte.B3 = true := by kernel_rfl
def slices_partitionOrdered_byte.T5 : Bool × List (List Nat × List Nat) := (true, [([], []), ([], []), ([0, 1], [0, 1]), ([2], [2]), ([3], [3]), ([3], [3]), ([4, 5, 3], [3, 4, 5]), ([6, 3], [3, 6]), ([3], [3]), ([3], [3]), ([8, 9, 3], [3, 8, 9]), ([10, 3], [3, 10]), ([7, 11, 3, 3], [3, 7, 11]), ([12, 3], [3, 12]), ([3, 13], [3, 13])])
def slices_partitionOrdered_byte.B5 : List Nat := [0, 0, 3, 7, 15, 15, 63, 127, 15, 15, 783, 1807, 4095, 8191, 16383]
theorem slices_partitionOrdered_byte.tab5 : rtab .any (opsOf Tryz.f111 5) = slices_partitionOrdered_byte.T5 := by kernel_rfl
theorem slices_partitionOrdered_byte.bits5 : waitsOk slices_partitionOrdered_byte.T5.2 slices_partitionOrdered_byte.B5 = true := by kernel_rfl
def slices_partitionOrdered_byte.T8 : Bool × List (List Nat × List Nat) := (true, [([], []), ([], []), ([], []), ([], []), ([], []), ([], []), ([4, 5], [4, 5]), ([6], [6]), ([], []), ([], []), ([8, 9], [8, 9]), ([10], [10]), ([0, 1, 0, 1, 4, 5, 6, 7, 11], [0, 1]), ([12, 7, 0, 1, 4, 5, 6, 7, 11], [7, 12]), ([2, 3, 0, 1, 2, 3, 4, 5, 6, 7, 8, 9, 10, 11, 12, 13], [2, 3]), ([14, 11, 13, 0, 1, 2, 3, 4, 5, 6, 7, 8, 9, 10, 11, 12, 13], [11, 14])])
def slices_partitionOrdered_byte.B8 : List Nat := [0, 0, 0, 0, 0, 0, 48, 112, 0, 0, 768, 1792, 4083, 8179, 16383, 32767]
theorem slices_partitionOrdered_byte.tab8 : rtab .any (opsOf Tryz.f111 8) = slices_partitionOrdered_byte.T8 := by kernel_rfl
theorem slices_partitionOrdered_byte.bits8 : waitsOk slices_partitionOrdered_byte.T8.2 slices_partitionOrdered_byte.B8 = true := by kernel_rfl
def slices_partitionOrdered_byte.T10 : Bool × List (List Nat × List Nat) := (true, [([], []), ([], []), ([], []), ([], []), ([], []), ([], []), ([4, 5], [4, 5]), ([6], [6]), ([], []), ([], []), ([8, 9], [8, 9]), ([10], [10]), ([0, 1, 0, 1, 4, 5, 6, 7, 11], [0, 1]), ([12, 7, 0, 1, 4, 5, 6, 7, 11], [7, 12]), ([2, 3, 0, 1, 2, 3, 4, 5, 6, 7, 8, 9, 10, 11, 12, 13], [2, 3]), ([14, 11, 13, 0, 1, 2, 3, 4, 5, 6, 7, 8, 9, 10, 11, 12, 13], [11, 14])])
def slices_partitionOrdered_byte.B10 : List Nat := [0, 0, 0, 0, 0, 0, 48, 112, 0, 0, 768, 1792, 4083, 8179, 16383, 32767]
theorem slices_partitionOrdered_byte.tab10 : rtab .any (opsOf Tryz.f111 10) = slices_partitionOrdered_byte.T10 := by kernel_rfl
theorem slices_partitionOrdered_byte.bits10 : waitsOk slices_partitionOrdered_byte.T10.2 slices_partitionOrdered_byte.B10 = true := by kernel_rfl
def slices_partitionOrdered_byte.T13 : Bool × List (List Nat × List Nat) := (true, [([], []), ([], []), ([0, 1], [0, 1]), ([2], [2]), ([3], [3]), ([3], [3]), ([4, 5, 3], [3, 4, 5]), ([6, 3], [3, 6]), ([3], [3]), ([3], [3]), ([8, 9, 3], [3, 8, 9]), ([10, 3], [3, 10]), ([7, 11, 3, 3], [3, 7, 11]), ([3, 12], [3, 12])])
def slices_partitionOrdered_byte.B13 : List Nat := [0, 0, 3, 7, 15, 15, 63, 127, 15, 15, 783, 1807, 4095, 8191]
theorem slices_partitionOrdered_byte.tab13 : rtab .any (opsOf Tryz.f111 13) = slices_partitionOrdered_byte.T13 := by kernel_rfl
theorem slices_partitionOrdered_byte.bits13 : waitsOk slices_partitionOrdered_byte.T13.2 slices_partitionOrdered_byte.B13 = true := by kernel_rfl
def slices_partitionOrdered_byte.T15 : Bool × List (List Nat × List Nat) := (true, [([], []), ([], []), ([0, 1], [0, 1]), ([2], [2]), ([3], [3]), ([3], [3]), ([4, 5, 3], [3, 4, 5]), ([6, 3], [3, 6]), ([3], [3]), ([3], [3]), ([8, 9, 3], [3, 8, 9]), ([10, 3], [3, 10]), ([7, 11, 3, 3], [3, 7, 11]), ([12, 3], [3, 12]), ([3, 13], [3, 13])])
def slices_partitionOrdered_byte.B15 : List Nat := [0, 0, 3, 7, 15, 15, 63, 127, 15, 15, 783, 1807, 4095, 8191, 16383]
theorem slices_partitionOrdered_byte.tab15 : rtab .any (opsOf Tryz.f111 15) = slices_partitionOrdered_byte.T15 := by kernel_rfl
theorem slices_partitionOrdered_byte.bits15 : waitsOk slices_partitionOrdered_byte.T15.2 slices_partitionOrdered_byte.B15 = true := by kernel_rfl
def slices_partitionOrdered_byte.T18 : Bool × List (List Nat × List Nat) := (true, [([], []), ([], []), ([], []), ([], []), ([], []), ([], []), ([4, 5], [4, 5]), ([6], [6]), ([], []), ([], []), ([8, 9], [8, 9]), ([10], [10]), ([0, 1, 0, 1, 4, 5, 6, 7, 11], [0, 1]), ([12, 7, 0, 1, 4, 5, 6, 7, 11], [7, 12]), ([2, 3, 0, 1, 2, 3, 4, 5, 6, 7, 8, 9, 10, 11, 12, 13], [2, 3]), ([14, 11, 13, 0, 1, 2, 3, 4, 5, 6, 7, 8, 9, 10, 11, 12, 13], [11, 14])])
def slices_partitionOrdered_byte.B18 : List Nat := [0, 0, 0, 0, 0, 0, 48, 112, 0, 0, 768, 1792, 4083, 8179, 16383, 32767]
theorem slices_partitionOrdered_byte.tab18 : rtab .any (opsOf Tryz.f111 18) = slices_partitionOrdered_byte.T18 := by kernel_rfl
theorem slices_partitionOrdered_byte.bits18 : waitsOk slices_partitionOrdered_byte.T18.2 slices_partitionOrdered_byte.B18 = true := by kernel_rfl
def slices_partitionOrdered_byte.T21 : Bool × List (List Nat × List Nat) := (true, [([], []), ([], []), ([], []), ([], []), ([], []), ([], []), ([4, 5], [4, 5]), ([6], [6]), ([], []), ([], []), ([8, 9], [8, 9]), ([10], [10]), ([0, 1, 0, 1, 4, 5, 6, 7, 11], [0, 1]), ([12, 7, 0, 1, 4, 5, 6, 7, 11], [7, 12]), ([2, 3, 0, 1, 2, 3, 4, 5, 6, 7, 8, 9, 10, 11, 12, 13], [2, 3]), ([14, 11, 13, 0, 1, 2, 3, 4, 5, 6, 7, 8, 9, 10, 11, 12, 13], [11, 14])])
def slices_partitionOrdered_byte.B21 : List Nat := [0, 0, 0, 0, 0, 0, 48, 112, 0, 0, 768, 1792, 4083, 8179, 16383, 32767]
theorem slices_partitionOrdered_byte.tab21 : rtab .any (opsOf Tryz.f111 21) = slices_partitionOrdered_byte.T21 := by kernel_rfl
theorem slices_partitionOrdered_byte.bits21 : waitsOk slices_partitionOrdered_byte.T21.2 slices_partitionOrdered_byte.B21 = true := by kernel_rfl
set_option maxHeartbeats 8000000 in
set_option maxRecDepth 100000 in
theorem slices_partitionOrdered_byte.calls (k : Nat) (P0_ : Nat → Prop) (u9000_ : Value) (l0 : List Int) (a1 : Int) (a2 : Int) (a3 : Int) (r1 : Int) (r2 : Bool) (r3 : List Int) (w0 w : World) (hB : Below w0.heap.size w0 w) (ho0 : Kz.R (Kd.int .u8) 5 w w0.heap.size P0_ u9000_ l0) (h : slices_partitionOrdered_byte.f k l0 a1 a2 a3 = some (r1, r2, r3)) :
  Calls Tryz.prog 111 #[u9000_, .int .i64 a1, .int .i64 a2, .int .i64 a3] w fun e w' => e = .returned (.tuple #[.int .i64 r1, .bool r2]) ∧ Kz.R (Kd.int .u8) 5 w' w0.heap.size (fun k_ => (P0_ k_ ∨ w.heap.size ≤ k_)) u9000_ r3 ∧ Below w0.heap.size w0 w' ∧ Kept w w' (fun k_ => P0_ k_) := by
 have HO0 := As (show Kz.R (Kd.int .u8) 5 w w0.heap.size (fun k_ => (P0_ k_ ∨ w.heap.size ≤ k_)) u9000_ l0 from Kz.R_mono ho0 (fun k_ hk => (.inl hk)));have HK := As (Kept.refl w (fun k_ => P0_ k_));have HW0 := As hB.size;have HB := As hB;clear hB;have H : (if 0 ≤ a3 then (if a3 < (l0.length : Int) then (if 0 ≤ a1 then (if a1 < (l0.length : Int) then (slices_partitionOrdered_byte.l0 k ((l0.set (a1 : Int).toNat (rd l0 a3)).set (a3 : Int).toNat (rd l0 a1)) a1 (wrap64 (a1 + 1)) (wrap64 (a2 - 1))) else (none)) else (none)) else (none)) else (none)) = some (r1, r2, r3) := h;clear h
 by_cases c5 : 0 ≤ a3
 ·rw [if_pos c5] at H;have c5b0 : decide (0 ≤ a3) = true := dY c5;clear c5
  by_cases c6 : a3 < (l0.length : Int)
  ·rw [if_pos c6] at H;have c6b0 : decide (a3 < (l0.length : Int)) = true := dY c6;clear c6
   by_cases c7 : 0 ≤ a1
   ·rw [if_pos c7] at H;have c7b0 : decide (0 ≤ a1) = true := dY c7;clear c7
    by_cases c8 : a1 < (l0.length : Int)
    ·rw [if_pos c8] at H;have c8b0 : decide (a1 < (l0.length : Int)) = true := dY c8;clear c8
     obtain ⟨y147, hy147⟩ : ∃ y_ : List Int, y_ = (l0.set (a1 : Int).toNat (rd l0 a3)) := ⟨_, rfl⟩
     replace H : (slices_partitionOrdered_byte.l0 k (y147.set (a3 : Int).toNat (rd l0 a1)) a1 (wrap64 (a1 + 1)) (wrap64 (a2 - 1))) = some (r1, r2, r3) := by first | (rw [hy147]; with_reducible exact H) | (have H2_ := (Option.bind_some _ _).symm.trans H; rw [hy147]; with_reducible exact H2_) | (have H2_ := (Option.bind_some _ _).symm.trans H; with_reducible exact H2_) | with_reducible exact H | (rw [hy147]; exact H) | exact H
     have Ny147 := As hy147;clear hy147
     obtain ⟨y148, hy148⟩ : ∃ y_ : List Int, y_ = (y147.set (a3 : Int).toNat (rd l0 a1)) := ⟨_, rfl⟩
     replace H : (slices_partitionOrdered_byte.l0 k y148 a1 (wrap64 (a1 + 1)) (wrap64 (a2 - 1))) = some (r1, r2, r3) := by first | (rw [hy148]; with_reducible exact H) | (have H2_ := (Option.bind_some _ _).symm.trans H; rw [hy148]; with_reducible exact H2_) | (have H2_ := (Option.bind_some _ _).symm.trans H; with_reducible exact H2_) | with_reducible exact H | (rw [hy148]; exact H) | exact H
     have Ny148 := As hy148;clear hy148;have HC11 := As H;clear H
     go_enter Tryz.func111, Tryz.ntmps111
     try go_wp2
     replace HO0 := As (Kz.R_drew HO0.out);replace HK := As (Kept.drew HK.out);replace HB := As (XD HB.out);obtain ⟨Ao13, co13, eo13⟩ := Kz.R_slice HO0.out
     (first | subst eo13 | (injection eo13 with f1_ f2_ f3_; have f4_ := f1_.symm; have f5_ := f3_.symm; clear f1_ f2_ f3_; subst f4_; subst f5_))
     have p145 : 0 ≤ (a3 : Int) := dT hy;have q145 : a3 < (l0.length : Int) := dT hy;obtain ⟨ad145, e145, hx145_0⟩ := Kd.at_int (Kz.R_reads' HO0.out).2.2 a3 p145 q145
     cases e145
     replace p145 := eq_true p145;replace q145 := eq_true q145;have p146 : 0 ≤ (a1 : Int) := dT hy;have q146 : a1 < (l0.length : Int) := dT hy;obtain ⟨ad146, e146, hx146_0⟩ := Kd.at_int (Kz.R_reads' HO0.out).2.2 a1 p146 q146
     obtain rfl : ad145 = ad146 := (by injection e146)
     replace p146 := eq_true p146;replace q146 := eq_true q146;have p9 : 0 ≤ (a1 : Int) := dT hy;have q9 : (a1 : Int) < ((l0.length : Int) : Int) := dT hy;obtain ⟨go9, co9, eo9, gb9, gl9, cl9, HG9⟩ := Kz.R_form HO0.out (by omega)
     (first | cases eo9 | (injection eo9 with ea_ en_ ec_; (first | subst ea_ | (injection ea_ with ea_; subst ea_)); subst ec_; clear en_))
     have GB9 := As gb9;have GG9 := As HG9;clear gb9 gl9 HG9;have HMgo9 := As (show (P0_ go9 ∨ w.heap.size ≤ go9) from (HO0.out.1 _ rfl))
     (first | simp only [add_plain] at hx145_0 | skip)
     (first | simp only [add_plain] at hx146_0 | skip)
     obtain ⟨hx9_0, hf9_0⟩ := Kz.R_celln 0 HO0.out (a1 : Int) p9 q9;replace p9 := eq_true p9;replace q9 := eq_true q9;have HP14 := Kz.R_putn HO0.out (a1 : Int) (rd l0 a3);rw [← Ny147.out] at HP14;have HQ14 := As HP14;clear HP14;have p10 : 0 ≤ (a3 : Int) := dT hy;have q10 : (a3 : Int) < ((l0.length : Int) : Int) := dT hy;obtain ⟨hx10_0, hf10_0⟩ := Kz.R_celln 0 HQ14.out (a3 : Int) p10 q10;replace p10 := eq_true p10;replace q10 := eq_true q10;have HP15 := Kz.R_putn HQ14.out (a3 : Int) (rd l0 a1);rw [← Ny148.out] at HP15;have HQ15 := As HP15;clear HP15;refine start_ (n := 16) (S := fun w' => w'.cell? ⟨go9, (a3).toNat, none⟩ = some (.int .u8 (rd l0 a3)) ∧ w'.cell? ⟨go9, (a1).toNat, none⟩ = some (.int .u8 (rd l0 a1))) (ds := [13, 15]) (fl 0 16) kr rfl rfl ⟨hx145_0, hx146_0⟩ (fun hHeld => ?_); refine with_tabW slices_partitionOrdered_byte.tab1 slices_partitionOrdered_byte.bits1 (fun HT_ HW_ => ?_);generalize w.drew = w12 at HO0 HK HB GG9 HQ14 HQ15 hf10_0 hf9_0 hx10_0 hx145_0 hx146_0 hx9_0 hHeld ⊢;refine pure_ (i := 0) (N := some 12) (v := ?_) (a' := ?_) (fl 1 15) rfl rfl (any_of HT_.out kr) (fun _ _ _ h => h) (Or.inl ⟨by rfl, ?_⟩) ?_ ?_;rotate_left;(intro w';go_simp;with_reducible rfl);rotate_left;(simp only [Act.put,z0,z1,z2,i64_w,i32_w];rfl);refine pure_ (i := 1) (N := some 13) (v := ?_) (a' := ?_) (fl 2 14) rfl rfl (any_of HT_.out kr) (fun _ _ _ h => h) (Or.inl ⟨by rfl, ?_⟩) ?_ ?_;rotate_left;(intro w';go_simp;with_reducible rfl);rotate_left;(simp only [Act.put,z0,z1,z2,i64_w,i32_w];rfl);refine pure_ (i := 2) (N := some 14) (v := ?_) (a' := ?_) (fl 3 13) rfl rfl (any_of HT_.out kr) (fun _ _ _ h => h) (Or.inl ⟨by rfl, ?_⟩) ?_ ?_;rotate_left;(intro w';go_simp;with_reducible rfl);rotate_left;(simp only [Act.put,z0,z1,z2,i64_w,i32_w];rfl);refine pure_ (i := 3) (N := some 15) (v := ?_) (a' := ?_) (fl 4 12) rfl rfl (any_of HT_.out kr) (fun _ _ _ h => h) (Or.inl ⟨by rfl, ?_⟩) ?_ ?_;rotate_left;(intro w';go_simp;with_reducible rfl);rotate_left;(simp only [Act.put,z0,z1,z2,i64_w,i32_w];rfl);refine pure_ (i := 4) (N := some 16) (v := ?_) (a' := ?_) (fl 5 11) rfl rfl (any_of HT_.out kr) (fun _ _ _ h => h) (Or.inl ⟨by rfl, ?_⟩) ?_ ?_;rotate_left;(intro w';go_simp;with_reducible rfl);rotate_left;(simp only [Act.put,z0,z1,z2,i64_w,i32_w];rfl);refine pure_ (i := 5) (N := some 17) (v := ?_) (a' := ?_) (fl 6 10) rfl rfl (any_of HT_.out kr) (fun _ _ _ h => h) (Or.inl ⟨by rfl, ?_⟩) ?_ ?_;rotate_left;(intro w';go_simp;with_reducible rfl);rotate_left;(simp only [Act.put,z0,z1,z2,i64_w,i32_w];rfl);refine pure_ (i := 6) (N := some 18) (v := ?_) (a' := ?_) (fl 7 9) rfl rfl (any_of HT_.out kr) (fun _ _ _ h => h) (Or.inl ⟨by rfl, ?_⟩) ?_ ?_;rotate_left;(intro w';go_simp;with_reducible rfl);rotate_left;(simp only [Act.put,z0,z1,z2,i64_w,i32_w];rfl);refine pure_ (i := 8) (N := some 20) (v := ?_) (a' := ?_) #[Y,Y,Y,Y,Y,Y,Y,O,Y,O,O,O,O,O,O,O] rfl rfl (any_of HT_.out kr) (fun _ _ _ h => h) (Or.inl ⟨by rfl, ?_⟩) ?_ ?_;rotate_left;(intro w';go_simp;with_reducible rfl);rotate_left;(simp only [Act.put,z0,z1,z2,i64_w,i32_w];rfl);refine pure_ (i := 9) (N := some 21) (v := ?_) (a' := ?_) #[Y,Y,Y,Y,Y,Y,Y,O,Y,Y,O,O,O,O,O,O] rfl rfl (any_of HT_.out kr) (fun _ _ _ h => h) (Or.inl ⟨by rfl, ?_⟩) ?_ ?_;rotate_left;(intro w';go_simp;with_reducible rfl);rotate_left;(simp only [Act.put,z0,z1,z2,i64_w,i32_w];rfl);refine pure_ (i := 10) (N := some 22) (v := ?_) (a' := ?_) #[Y,Y,Y,Y,Y,Y,Y,O,Y,Y,Y,O,O,O,O,O] rfl rfl (any_of HT_.out kr) (fun _ _ _ h => h) (Or.inl ⟨by rfl, ?_⟩) ?_ ?_;rotate_left;(intro w';go_simp;with_reducible rfl);rotate_left;(simp only [Act.put,z0,z1,z2,i64_w,i32_w];rfl);refine take_ (i := 7) (N := some 19) (v := ?_) (a' := ?_) (fl 11 5) rfl rfl (take_ofW HT_.out HW_.out kr) (fun _ _ _ h => h) (Or.inl ⟨by rfl, ?_⟩) hHeld ?_ ?_;rotate_left;(rintro w' ⟨s0, s1⟩;go_simp;with_reducible rfl);rotate_left;(simp only [Act.put,z0,z1,z2,i64_w,i32_w];rfl);refine take_ (i := 11) (N := some 23) (v := ?_) (a' := ?_) (fl 12 4) rfl rfl (take_ofW HT_.out HW_.out kr) (fun _ _ _ h => h) (Or.inl ⟨by rfl, ?_⟩) hHeld ?_ ?_;rotate_left;(rintro w' ⟨s0, s1⟩;go_simp;with_reducible rfl);rotate_left;(simp only [Act.put,z0,z1,z2,i64_w,i32_w];rfl);refine pure_ (i := 12) (N := some 24) (v := ?_) (a' := ?_) (fl 13 3) rfl rfl (any_of HT_.out kr) (fun _ _ _ h => h) (Or.inl ⟨by rfl, ?_⟩) ?_ ?_;rotate_left;(intro w';go_simp;with_reducible rfl);rotate_left;(simp only [Act.put,z0,z1,z2,i64_w,i32_w];rfl);refine last_ (i := 13) (N := none) (fl 14 2) rfl rfl (one_of HT_.out kr) (by decide) (fun K hK => ?_);refine skip_ (w1 := ?_) (by rfl) rfl ?_ ?_;rotate_left
     ·go_simp;rfl
     refine hK.out _ _ ?_;clear hK K;refine pure_ (i := 14) (N := some 25) (v := ?_) (a' := ?_) (fl 15 1) rfl rfl (any_of HT_.out kr) (fun _ _ _ h => h) (Or.inl ⟨by rfl, ?_⟩) ?_ ?_;rotate_left;(intro w';go_simp;with_reducible rfl);rotate_left;(simp only [Act.put,z0,z1,z2,i64_w,i32_w];rfl);refine last_ (i := 15) (N := none) (fl 16 0) rfl rfl (one_of HT_.out kr) (by decide) (fun K hK => ?_);refine skip_ (w1 := ?_) (by rfl) rfl ?_ ?_;rotate_left
     ·go_simp;rfl
     refine hK.out _ _ ?_;clear hK K;refine done_ (done_of HT_.out kr) ?_
     go_upto_block 0 with (fail)
     go_cut [10] (fun v10 wc => ∃ (kq : Nat) (x10_10 : Int), v10 = .int .i64 x10_10 ∧ Aside0 (slices_partitionOrdered_byte.j1 kq y148 a1 x10_10 (wrap64 (a2 - 1)) = some (r1, r2, r3)) ∧ Aside0 (kq ≤ k) ∧ Aside0 (Kz.R (Kd.int .u8) 5 wc w0.heap.size (fun k_ => (P0_ k_ ∨ w.heap.size ≤ k_)) (.slice (some ⟨go9, 0, none⟩) l0.length co13) y148) ∧ Aside0 (Kept w wc (fun k_ => P0_ k_)) ∧ Aside0 (Below w0.heap.size w0 wc))
     case first =>
      have H := HC11.out;clear HC11;have H' := As H;clear H
      go_wp2
      go_loopg [10] k (fun kq v10 w' => ∃ (x10_1 : Int), v10 = .int .i64 x10_1 ∧ Aside0 (slices_partitionOrdered_byte.l0 kq y148 a1 x10_1 (wrap64 (a2 - 1)) = some (r1, r2, r3)) ∧ Aside0 (kq ≤ k) ∧ Aside0 (Kz.R (Kd.int .u8) 5 w' w0.heap.size (fun k_ => (P0_ k_ ∨ w.heap.size ≤ k_)) (.slice (some ⟨go9, 0, none⟩) l0.length co13) y148) ∧ Aside0 (Kept w w' (fun k_ => P0_ k_)) ∧ Aside0 (Below w0.heap.size w0 w'))
      case atStart => exact ⟨(wrap64 (a1 + 1)), sw, H', ⟨Nat.le_refl _⟩, ⟨by (with_reducible repeat (first | apply Kz.R_alloc | apply Kz.R_drewN | apply Kz.R_drew)); exact HQ15.out⟩, ⟨by repeat (first | (with_reducible first | exact HK.out | apply Kept.alloc | apply Kept.drewN | apply Kept.drew | refine Kept.setCell ?_ HMgo9.out _ | refine Kept.setCell ?_ HMgo9.out _) | exact HK.out)⟩, ⟨by repeat (first | (with_reducible first | exact HB.out | apply XA | apply XN | apply XD | refine XS ?_ GB9.out | refine XS ?_ GB9.out) | exact HB.out)⟩⟩
      case round =>
       clear H'
       try clear c1
       try clear p1
       try clear q1
       try clear hx1
       try clear p2
       try clear c5
       try clear c5b0
       try clear c6
       try clear c6b0
       try clear p6
       try clear c7
       try clear c7b0
       try clear c8
       try clear c8b0
       try clear p9
       try clear q9
       try clear hx9
       try clear hf9
       try clear p10
       try clear q10
       try clear hx10
       try clear hf10
       try clear c11
       try clear p14
       try clear q14
       try clear hx14
       try clear hx10_0
       try clear hx145_0
       try clear hx146_0
       try clear hx9_0
       try clear p10
       try clear p145
       try clear p146
       try clear p9
       try clear q10
       try clear q145
       try clear q146
       try clear q9
       obtain ⟨x10_1, rfl, HA, HK1, HO_0, HK, HB⟩ := hrel;have hl0_1 := (Kz.R_reads' HO_0.out).1;rw [hl0_1] at HO_0
       (try simp only [hl0_1])
       cases gk with
       | zero => exact absurd HA.out (by simp [slices_partitionOrdered_byte.l0])
       | succ k1 =>
        have H := HA.out;clear HA;simp only [slices_partitionOrdered_byte.l0] at H
        by_cases c16 : x10_1 ≤ (wrap64 (a2 - 1))
        focus
         rw [if_pos c16] at H;have c16b0 : decide (x10_1 ≤ (wrap64 (a2 - 1))) = true := dY c16;clear c16
         (first | rw [c16b0] | (simp only [i64_w, i32_w]; rw [c16b0]) | skip)
         by_cases c17 : 0 ≤ x10_1
         rotate_left
         ·rw [if_neg c17] at H;exact absurd H (by simp)
         rw [if_pos c17] at H;have c17b0 : decide (0 ≤ x10_1) = true := dY c17;clear c17
         by_cases c18 : x10_1 < (y148.length : Int)
         rotate_left
         ·rw [if_neg c18] at H;exact absurd H (by simp)
         rw [if_pos c18] at H;have c18b0 : decide (x10_1 < (y148.length : Int)) = true := dY c18;clear c18
         by_cases c19 : 0 ≤ a1
         rotate_left
         ·rw [if_neg c19] at H;exact absurd H (by simp)
         rw [if_pos c19] at H;have c19b0 : decide (0 ≤ a1) = true := dY c19;clear c19
         by_cases c20 : a1 < (y148.length : Int)
         rotate_left
         ·rw [if_neg c20] at H;exact absurd H (by simp)
         rw [if_pos c20] at H;have c20b0 : decide (a1 < (y148.length : Int)) = true := dY c20;clear c20;replace H := bE H;obtain ⟨t151, A210, H⟩ := H;replace H : (if t151 = true then (slices_partitionOrdered_byte.l0 k1 y148 a1 (wrap64 (x10_1 + 1)) (wrap64 (a2 - 1))) else (slices_partitionOrdered_byte.j1 k1 y148 a1 x10_1 (wrap64 (a2 - 1)))) = some (r1, r2, r3) := H;have A21 := As A210;clear A210
         by_cases c22 : t151 = true
         subst c22
         have H1 : (slices_partitionOrdered_byte.l0 k1 y148 a1 (wrap64 (x10_1 + 1)) (wrap64 (a2 - 1))) = some (r1, r2, r3) := by rw [if_pos rfl] at H; exact H
         clear H;have H := H1;clear H1;have H' := As H;clear H
         have m2_ := trivial
         rotate_left
         replace c22 := Bool.eq_false_iff.mpr c22;subst c22
         have H1 : (slices_partitionOrdered_byte.j1 k1 y148 a1 x10_1 (wrap64 (a2 - 1))) = some (r1, r2, r3) := by rw [if_neg (show ¬ (false = true) by decide)] at H; exact H
         clear H;have H := H1;clear H1;have H' := As H;clear H
         have m1_ := trivial
        rotate_left 2
        rw [if_neg c16] at H;have c16b0 : decide (x10_1 ≤ (wrap64 (a2 - 1))) = false := dN c16;clear c16
        (first | rw [c16b0] | (simp only [i64_w, i32_w]; rw [c16b0]) | skip)
        have H' := As H;clear H
        all_goals try go_wp2
        all_goals try
         first | (clear m1_; have m1_ := trivial) | (clear m2_; have m2_ := trivial)
         replace HO_0 := As (Kz.R_drew HO_0.out);replace HK := As (Kept.drew HK.out);replace HB := As (XD HB.out);have p149 : 0 ≤ (x10_1 : Int) := dT hy;have q149 : x10_1 < (y148.length : Int) := dT hy;obtain ⟨ad149, e149, hx149_0⟩ := Kd.at_int (Kz.R_reads' HO_0.out).2.2 x10_1 p149 q149
         obtain rfl : (⟨go9, 0, none⟩ : Addr) = ad149 := (by injection e149)
         (first | simp only [add_plain] at hx149_0 | simp only [add_at] at hx149_0 | simp only [Addr.add, Nat.zero_add] at hx149_0 | skip)
         replace p149 := eq_true p149;replace q149 := eq_true q149;have p150 : 0 ≤ (a1 : Int) := dT hy;have q150 : a1 < (y148.length : Int) := dT hy;obtain ⟨ad150, e150, hx150_0⟩ := Kd.at_int (Kz.R_reads' HO_0.out).2.2 a1 p150 q150
         obtain rfl : (⟨go9, 0, none⟩ : Addr) = ad150 := (by injection e150)
         (first | simp only [add_plain] at hx150_0 | simp only [add_at] at hx150_0 | simp only [Addr.add, Nat.zero_add] at hx150_0 | skip)
         replace p150 := eq_true p150;replace q150 := eq_true q150;refine start_ (n := 14) (S := fun w' => w'.cell? ⟨go9, (x10_1).toNat, none⟩ = some (.int .u8 (rd y148 x10_1)) ∧ w'.cell? ⟨go9, (a1).toNat, none⟩ = some (.int .u8 (rd y148 a1))) (ds := []) (fl 0 14) kr rfl rfl ⟨hx149_0, hx150_0⟩ (fun hHeld => ?_); refine with_tabW slices_partitionOrdered_byte.tab3 slices_partitionOrdered_byte.bits3 (fun HT_ HW_ => ?_);generalize wr.drew = w24 at HO_0 HK HB hx149_0 hx150_0 hHeld ⊢;refine pure_ (i := 0) (N := some 30) (v := ?_) (a' := ?_) (fl 1 13) rfl rfl (any_of HT_.out kr) (fun _ _ _ h => h) (Or.inl ⟨by rfl, ?_⟩) ?_ ?_;rotate_left;(intro w';go_simp;with_reducible rfl);rotate_left;(simp only [Act.put,z0,z1,z2,i64_w,i32_w];rfl);refine pure_ (i := 1) (N := some 31) (v := ?_) (a' := ?_) (fl 2 12) rfl rfl (any_of HT_.out kr) (fun _ _ _ h => h) (Or.inl ⟨by rfl, ?_⟩) ?_ ?_;rotate_left;(intro w';go_simp;with_reducible rfl);rotate_left;(simp only [Act.put,z0,z1,z2,i64_w,i32_w];rfl);refine pure_ (i := 2) (N := some 32) (v := ?_) (a' := ?_) (fl 3 11) rfl rfl (any_of HT_.out kr) (fun _ _ _ h => h) (Or.inl ⟨by rfl, ?_⟩) ?_ ?_;rotate_left;(intro w';go_simp;with_reducible rfl);rotate_left;(simp only [Act.put,z0,z1,z2,i64_w,i32_w];rfl);refine pure_ (i := 3) (N := some 33) (v := ?_) (a' := ?_) (fl 4 10) rfl rfl (any_of HT_.out kr) (fun _ _ _ h => h) (Or.inl ⟨by rfl, ?_⟩) ?_ ?_;rotate_left;(intro w';go_simp;with_reducible rfl);rotate_left;(simp only [Act.put,z0,z1,z2,i64_w,i32_w];rfl);refine pure_ (i := 4) (N := some 34) (v := ?_) (a' := ?_) (fl 5 9) rfl rfl (any_of HT_.out kr) (fun _ _ _ h => h) (Or.inl ⟨by rfl, ?_⟩) ?_ ?_;rotate_left;(intro w';go_simp;with_reducible rfl);rotate_left;(simp only [Act.put,z0,z1,z2,i64_w,i32_w];rfl);refine pure_ (i := 5) (N := some 35) (v := ?_) (a' := ?_) (fl 6 8) rfl rfl (any_of HT_.out kr) (fun _ _ _ h => h) (Or.inl ⟨by rfl, ?_⟩) ?_ ?_;rotate_left;(intro w';go_simp;with_reducible rfl);rotate_left;(simp only [Act.put,z0,z1,z2,i64_w,i32_w];rfl);refine pure_ (i := 6) (N := some 36) (v := ?_) (a' := ?_) (fl 7 7) rfl rfl (any_of HT_.out kr) (fun _ _ _ h => h) (Or.inl ⟨by rfl, ?_⟩) ?_ ?_;rotate_left;(intro w';go_simp;with_reducible rfl);rotate_left;(simp only [Act.put,z0,z1,z2,i64_w,i32_w];rfl);refine pure_ (i := 8) (N := some 38) (v := ?_) (a' := ?_) #[Y,Y,Y,Y,Y,Y,Y,O,Y,O,O,O,O,O] rfl rfl (any_of HT_.out kr) (fun _ _ _ h => h) (Or.inl ⟨by rfl, ?_⟩) ?_ ?_;rotate_left;(intro w';go_simp;with_reducible rfl);rotate_left;(simp only [Act.put,z0,z1,z2,i64_w,i32_w];rfl);refine pure_ (i := 9) (N := some 39) (v := ?_) (a' := ?_) #[Y,Y,Y,Y,Y,Y,Y,O,Y,Y,O,O,O,O] rfl rfl (any_of HT_.out kr) (fun _ _ _ h => h) (Or.inl ⟨by rfl, ?_⟩) ?_ ?_;rotate_left;(intro w';go_simp;with_reducible rfl);rotate_left;(simp only [Act.put,z0,z1,z2,i64_w,i32_w];rfl);refine pure_ (i := 10) (N := some 40) (v := ?_) (a' := ?_) #[Y,Y,Y,Y,Y,Y,Y,O,Y,Y,Y,O,O,O] rfl rfl (any_of HT_.out kr) (fun _ _ _ h => h) (Or.inl ⟨by rfl, ?_⟩) ?_ ?_;rotate_left;(intro w';go_simp;with_reducible rfl);rotate_left;(simp only [Act.put,z0,z1,z2,i64_w,i32_w];rfl);refine take_ (i := 7) (N := some 37) (v := ?_) (a' := ?_) (fl 11 3) rfl rfl (take_ofW HT_.out HW_.out kr) (fun _ _ _ h => h) (Or.inl ⟨by rfl, ?_⟩) hHeld ?_ ?_;rotate_left;(rintro w' ⟨s0, s1⟩;go_simp;with_reducible rfl);rotate_left;(simp only [Act.put,z0,z1,z2,i64_w,i32_w];rfl);refine take_ (i := 11) (N := some 41) (v := ?_) (a' := ?_) (fl 12 2) rfl rfl (take_ofW HT_.out HW_.out kr) (fun _ _ _ h => h) (Or.inl ⟨by rfl, ?_⟩) hHeld ?_ ?_;rotate_left;(rintro w' ⟨s0, s1⟩;go_simp;with_reducible rfl);rotate_left;(simp only [Act.put,z0,z1,z2,i64_w,i32_w];rfl);refine one_ (i := 12) (N := some 42) (fl 13 1) rfl rfl (one_of HT_.out kr) (by decide) (fun K hK => ?_);refine goes_ Tryz.func109 kr rfl #[.int .u8 (rd y148 x10_1), .int .u8 (rd y148 a1)] (by rfl) rfl rfl sa ?_
         with_reducible refine (cmp_Less_byte.calls (rd y148 x10_1) (rd y148 a1) _ _ A21.out).mono ?_
         rintro e w' ⟨rfl, ⟨nd, rfl⟩⟩;refine ⟨_, rfl, ?_⟩;refine hK.out _ _ ⟨hHeld.1, hHeld.2⟩ (fun hHeld => ?_);clear hK K;refine norm_ (a' := ?_) ?_ ?_;rotate_left
         ·show Act.put _ (some 42) _ = _
          simp only [Act.put, z0,z1,z2,i64_w,i32_w];rfl
         refine pure_ (i := 13) (N := some 43) (v := ?_) (a' := ?_) (fl 14 0) rfl rfl (any_of HT_.out kr) (fun _ _ _ h => h) (Or.inl ⟨by rfl, ?_⟩) ?_ ?_;rotate_left;(intro w';go_simp;with_reducible rfl);rotate_left;(simp only [Act.put,z0,z1,z2,i64_w,i32_w];rfl);refine done_ (done_of HT_.out kr) ?_
         try go_wp2
         (try simp only [← hl0_1])
        ·replace HO_0 := As (Kz.R_drew HO_0.out);replace HK := As (Kept.drew HK.out);replace HB := As (XD HB.out);refine start_ (n := 14) (S := fun w' => True) (ds := []) (fl 0 14) kr rfl rfl trivial (fun hHeld => ?_); refine with_tabW slices_partitionOrdered_byte.tab3 slices_partitionOrdered_byte.bits3 (fun HT_ HW_ => ?_);generalize wr.drew = w25 at HO_0 HK HB hHeld ⊢;refine pure_ (i := 0) (N := some 30) (v := ?_) (a' := ?_) (fl 1 13) rfl rfl (any_of HT_.out kr) (fun _ _ _ h => h) (Or.inl ⟨by rfl, ?_⟩) ?_ ?_;rotate_left;(intro w';go_simp;with_reducible rfl);rotate_left;(simp only [Act.put,z0,z1,z2,i64_w,i32_w];rfl);refine pure_ (i := 1) (N := some 31) (v := ?_) (a' := ?_) (fl 2 12) rfl rfl (any_of HT_.out kr) (fun _ _ _ h => h) (Or.inl ⟨by rfl, ?_⟩) ?_ ?_;rotate_left;(intro w';go_simp;with_reducible rfl);rotate_left;(simp only [Act.put,z0,z1,z2,i64_w,i32_w];rfl);refine pure_ (i := 2) (N := some 32) (v := ?_) (a' := ?_) (fl 3 11) rfl rfl (any_of HT_.out kr) (fun _ _ _ h => h) (Or.inl ⟨by rfl, ?_⟩) ?_ ?_;rotate_left;(intro w';go_simp;with_reducible rfl);rotate_left;(simp only [Act.put,z0,z1,z2,i64_w,i32_w];rfl);refine pure_ (i := 3) (N := some 33) (v := ?_) (a' := ?_) (fl 4 10) rfl rfl (any_of HT_.out kr) (fun _ _ _ h => h) (Or.inl ⟨by rfl, ?_⟩) ?_ ?_;rotate_left;(intro w';go_simp;with_reducible rfl);rotate_left;(simp only [Act.put,z0,z1,z2,i64_w,i32_w];rfl);refine pure_ (i := 4) (N := some 34) (v := undef) (a' := ?_) (fl 5 9) rfl rfl (any_of HT_.out kr) (fun _ _ _ h => h) (Or.inr ⟨by rfl, rfl⟩) ?_ ?_;rotate_left
         ·simp only [Act.put, z0,z1,z2,i64_w,i32_w];rfl
         refine pure_ (i := 5) (N := some 35) (v := undef) (a' := ?_) (fl 6 8) rfl rfl (any_of HT_.out kr) (fun _ _ _ h => h) (Or.inr ⟨by rfl, rfl⟩) ?_ ?_;rotate_left
         ·simp only [Act.put, z0,z1,z2,i64_w,i32_w];rfl
         refine pure_ (i := 6) (N := some 36) (v := undef) (a' := ?_) (fl 7 7) rfl rfl (any_of HT_.out kr) (fun _ _ _ h => h) (Or.inr ⟨by rfl, rfl⟩) ?_ ?_;rotate_left
         ·simp only [Act.put, z0,z1,z2,i64_w,i32_w];rfl
         refine pure_ (i := 7) (N := some 37) (v := undef) (a' := ?_) (fl 8 6) rfl rfl (any_of HT_.out kr) (fun _ _ _ h => h) (Or.inr ⟨by rfl, rfl⟩) ?_ ?_;rotate_left
         ·simp only [Act.put, z0,z1,z2,i64_w,i32_w];rfl
         refine pure_ (i := 8) (N := some 38) (v := undef) (a' := ?_) (fl 9 5) rfl rfl (any_of HT_.out kr) (fun _ _ _ h => h) (Or.inr ⟨by rfl, rfl⟩) ?_ ?_;rotate_left
         ·simp only [Act.put, z0,z1,z2,i64_w,i32_w];rfl
         refine pure_ (i := 9) (N := some 39) (v := undef) (a' := ?_) (fl 10 4) rfl rfl (any_of HT_.out kr) (fun _ _ _ h => h) (Or.inr ⟨by rfl, rfl⟩) ?_ ?_;rotate_left
         ·simp only [Act.put, z0,z1,z2,i64_w,i32_w];rfl
         refine pure_ (i := 10) (N := some 40) (v := undef) (a' := ?_) (fl 11 3) rfl rfl (any_of HT_.out kr) (fun _ _ _ h => h) (Or.inr ⟨by rfl, rfl⟩) ?_ ?_;rotate_left
         ·simp only [Act.put, z0,z1,z2,i64_w,i32_w];rfl
         refine pure_ (i := 11) (N := some 41) (v := undef) (a' := ?_) (fl 12 2) rfl rfl (any_of HT_.out kr) (fun _ _ _ h => h) (Or.inr ⟨by rfl, rfl⟩) ?_ ?_;rotate_left
         ·simp only [Act.put, z0,z1,z2,i64_w,i32_w];rfl
         refine pure_ (i := 12) (N := some 42) (v := undef) (a' := ?_) (fl 13 1) rfl rfl (any_of HT_.out kr) (fun _ _ _ h => h) (Or.inr ⟨by rfl, rfl⟩) ?_ ?_;rotate_left
         ·simp only [Act.put, z0,z1,z2,i64_w,i32_w];rfl
         refine pure_ (i := 13) (N := some 43) (v := ?_) (a' := ?_) (fl 14 0) rfl rfl (any_of HT_.out kr) (fun _ _ _ h => h) (Or.inl ⟨by rfl, ?_⟩) ?_ ?_;rotate_left;(intro w';go_simp;with_reducible rfl);rotate_left;(simp only [Act.put,z0,z1,z2,i64_w,i32_w];rfl);refine done_ (done_of HT_.out kr) ?_
         try go_wp2
         (try simp only [← hl0_1])
         go_meet
         case rel => exact ⟨_, (x10_1), sw, H', ⟨by have := HK1.out; first | omega | exact Nat.le_refl _⟩, ⟨by (try simp only [hl0_1]); (with_reducible repeat (first | apply Kz.R_alloc | apply Kz.R_drewN | apply Kz.R_drew)); exact HO_0.out⟩, ⟨by repeat (first | (with_reducible first | exact HK.out | apply Kept.alloc | apply Kept.drewN | apply Kept.drew) | exact HK.out)⟩, ⟨by repeat (first | (with_reducible first | exact HB.out | apply XA | apply XN | apply XD) | exact HB.out)⟩⟩
        ·go_meet
         case rel => exact ⟨_, (x10_1), sw, H', ⟨by have := HK1.out; first | omega | exact Nat.le_refl _⟩, ⟨by (try simp only [hl0_1]); (with_reducible repeat (first | apply Kz.R_alloc | apply Kz.R_drewN | apply Kz.R_drew)); exact HO_0.out⟩, ⟨by repeat (first | (with_reducible first | exact HK.out | apply Kept.alloc | apply Kept.drewN | apply Kept.drew) | exact HK.out)⟩, ⟨by repeat (first | (with_reducible first | exact HB.out | apply XA | apply XN | apply XD) | exact HB.out)⟩⟩
        ·go_roundg k1
         case measure => have := HK1.out; omega
         case rel => exact ⟨(wrap64 (x10_1 + 1)), sw, H', ⟨by have := HK1.out; omega⟩, ⟨by (try simp only [hl0_1]); (with_reducible repeat (first | apply Kz.R_alloc | apply Kz.R_drewN | apply Kz.R_drew)); exact HO_0.out⟩, ⟨by repeat (first | (with_reducible first | exact HK.out | apply Kept.alloc | apply Kept.drewN | apply Kept.drew) | exact HK.out)⟩, ⟨by repeat (first | (with_reducible first | exact HB.out | apply XA | apply XN | apply XD) | exact HB.out)⟩⟩
     case rest =>
      clear HC11
      try clear c1
      try clear p1
      try clear q1
      try clear hx1
      try clear c2
      try clear p2
      try clear c5
      try clear c5b0
      try clear c6
      try clear c6b0
      try clear p6
      try clear c7
      try clear c7b0
      try clear c8
      try clear c8b0
      try clear p9
      try clear q9
      try clear hx9
      try clear hf9
      try clear c10
      try clear p10
      try clear q10
      try clear hx10
      try clear hf10
      try clear c11
      try clear p14
      try clear q14
      try clear hx14
      try clear p15
      try clear q15
      try clear hx15
      try clear c16
      try clear c16b0
      try clear c17
      try clear c17b0
      try clear c18
      try clear c18b0
      try clear c19
      try clear c19b0
      try clear c20
      try clear c20b0
      try clear c22
      try clear hx10_0
      try clear hx145_0
      try clear hx146_0
      try clear hx149_0
      try clear hx150_0
      try clear hx9_0
      try clear p1
      try clear p10
      try clear p14
      try clear p145
      try clear p146
      try clear p149
      try clear p150
      try clear p2
      try clear p6
      try clear p9
      try clear q1
      try clear q10
      try clear q14
      try clear q145
      try clear q146
      try clear q149
      try clear q150
      try clear q9
      obtain ⟨kq, x10_10, rfl, HA, HJ10, HO_0, HK, HB⟩ := hcut;have hl0_10 := (Kz.R_reads' HO_0.out).1;rw [hl0_10] at HO_0
      (try simp only [hl0_10])
      cases kq with
      | zero => exact absurd HA.out (by simp [slices_partitionOrdered_byte.j1])
      | succ kj10 =>
       have H := HA.out;clear HA;simp only [slices_partitionOrdered_byte.j1] at H;have HC26 := As H;clear H
       go_upto_block 2 with (fail)
       go_cut [11] (fun v11 wc => ∃ (kq : Nat) (x11_25 : Int), v11 = .int .i64 x11_25 ∧ Aside0 (slices_partitionOrdered_byte.j3 kq y148 a1 x10_10 x11_25 = some (r1, r2, r3)) ∧ Aside0 (kq ≤ kj10) ∧ Aside0 (Kz.R (Kd.int .u8) 5 wc w0.heap.size (fun k_ => (P0_ k_ ∨ w.heap.size ≤ k_)) (.slice (some ⟨go9, 0, none⟩) y148.length co13) y148) ∧ Aside0 (Kept w wc (fun k_ => P0_ k_)) ∧ Aside0 (Below w0.heap.size w0 wc))
       case first =>
        have H := HC26.out;clear HC26;have H' := As H;clear H
        go_wp2
        go_loopg [11] kj10 (fun kq v11 w' => ∃ (x11_2 : Int), v11 = .int .i64 x11_2 ∧ Aside0 (slices_partitionOrdered_byte.l1 kq y148 a1 x10_10 x11_2 = some (r1, r2, r3)) ∧ Aside0 (kq ≤ kj10) ∧ Aside0 (Kz.R (Kd.int .u8) 5 w' w0.heap.size (fun k_ => (P0_ k_ ∨ w.heap.size ≤ k_)) (.slice (some ⟨go9, 0, none⟩) y148.length co13) y148) ∧ Aside0 (Kept w w' (fun k_ => P0_ k_)) ∧ Aside0 (Below w0.heap.size w0 w'))
        case atStart => exact ⟨((wrap64 (a2 - 1))), sw, H', ⟨Nat.le_refl _⟩, ⟨by (try simp only [hl0_10]); (with_reducible repeat (first | apply Kz.R_alloc | apply Kz.R_drewN | apply Kz.R_drew)); exact HO_0.out⟩, ⟨by repeat (first | (with_reducible first | exact HK.out | apply Kept.alloc | apply Kept.drewN | apply Kept.drew) | exact HK.out)⟩, ⟨by repeat (first | (with_reducible first | exact HB.out | apply XA | apply XN | apply XD) | exact HB.out)⟩⟩
        case round =>
         clear H'
         try clear c1
         try clear p1
         try clear q1
         try clear hx1
         try clear c2
         try clear p2
         try clear c5
         try clear c5b0
         try clear c6
         try clear c6b0
         try clear p6
         try clear c7
         try clear c7b0
         try clear c8
         try clear c8b0
         try clear p9
         try clear q9
         try clear hx9
         try clear hf9
         try clear c10
         try clear p10
         try clear q10
         try clear hx10
         try clear hf10
         try clear c11
         try clear p14
         try clear q14
         try clear hx14
         try clear p15
         try clear q15
         try clear hx15
         try clear c16
         try clear c16b0
         try clear c17
         try clear c17b0
         try clear c18
         try clear c18b0
         try clear c19
         try clear c19b0
         try clear c20
         try clear c20b0
         try clear c22
         try clear hx10_0
         try clear hx145_0
         try clear hx146_0
         try clear hx149_0
         try clear hx150_0
         try clear hx9_0
         try clear p1
         try clear p10
         try clear p14
         try clear p145
         try clear p146
         try clear p149
         try clear p15
         try clear p150
         try clear p2
         try clear p6
         try clear p9
         try clear q1
         try clear q10
         try clear q14
         try clear q145
         try clear q146
         try clear q149
         try clear q15
         try clear q150
         try clear q9
         obtain ⟨x11_2, rfl, HA, HK2, HO_0, HK, HB⟩ := hrel
         cases gk with
         | zero => exact absurd HA.out (by simp [slices_partitionOrdered_byte.l1])
         | succ k2 =>
          have H := HA.out;clear HA;simp only [slices_partitionOrdered_byte.l1] at H
          by_cases c27 : x10_10 ≤ x11_2
          focus
           rw [if_pos c27] at H;have c27b0 : decide (x10_10 ≤ x11_2) = true := dY c27;clear c27
           (first | rw [c27b0] | (simp only [i64_w, i32_w]; rw [c27b0]) | skip)
           by_cases c28 : 0 ≤ x11_2
           rotate_left
           ·rw [if_neg c28] at H;exact absurd H (by simp)
           rw [if_pos c28] at H;have c28b0 : decide (0 ≤ x11_2) = true := dY c28;clear c28
           by_cases c29 : x11_2 < (y148.length : Int)
           rotate_left
           ·rw [if_neg c29] at H;exact absurd H (by simp)
           rw [if_pos c29] at H;have c29b0 : decide (x11_2 < (y148.length : Int)) = true := dY c29;clear c29
           by_cases c30 : 0 ≤ a1
           rotate_left
           ·rw [if_neg c30] at H;exact absurd H (by simp)
           rw [if_pos c30] at H;have c30b0 : decide (0 ≤ a1) = true := dY c30;clear c30
           by_cases c31 : a1 < (y148.length : Int)
           rotate_left
           ·rw [if_neg c31] at H;exact absurd H (by simp)
           rw [if_pos c31] at H;have c31b0 : decide (a1 < (y148.length : Int)) = true := dY c31;clear c31;replace H := bE H;obtain ⟨t154, A320, H⟩ := H;replace H : (if t154 = true then (slices_partitionOrdered_byte.j3 k2 y148 a1 x10_10 x11_2) else (slices_partitionOrdered_byte.l1 k2 y148 a1 x10_10 (wrap64 (x11_2 - 1)))) = some (r1, r2, r3) := H;have A32 := As A320;clear A320
           by_cases c33 : t154 = true
           subst c33
           have H1 : (slices_partitionOrdered_byte.j3 k2 y148 a1 x10_10 x11_2) = some (r1, r2, r3) := by rw [if_pos rfl] at H; exact H
           clear H;have H := H1;clear H1;have H' := As H;clear H
           have m4_ := trivial
           rotate_left
           replace c33 := Bool.eq_false_iff.mpr c33;subst c33
           have H1 : (slices_partitionOrdered_byte.l1 k2 y148 a1 x10_10 (wrap64 (x11_2 - 1))) = some (r1, r2, r3) := by rw [if_neg (show ¬ (false = true) by decide)] at H; exact H
           clear H;have H := H1;clear H1;have H' := As H;clear H
           have m3_ := trivial
          rotate_left 2
          rw [if_neg c27] at H;have c27b0 : decide (x10_10 ≤ x11_2) = false := dN c27;clear c27
          (first | rw [c27b0] | (simp only [i64_w, i32_w]; rw [c27b0]) | skip)
          have H' := As H;clear H
          all_goals try go_wp2
          all_goals try
           first | (clear m3_; have m3_ := trivial) | (clear m4_; have m4_ := trivial)
           replace HO_0 := As (Kz.R_drew HO_0.out);replace HK := As (Kept.drew HK.out);replace HB := As (XD HB.out);have p152 : 0 ≤ (x11_2 : Int) := dT hy;have q152 : x11_2 < (y148.length : Int) := dT hy;obtain ⟨ad152, e152, hx152_0⟩ := Kd.at_int (Kz.R_reads' HO_0.out).2.2 x11_2 p152 q152
           obtain rfl : (⟨go9, 0, none⟩ : Addr) = ad152 := (by injection e152)
           (first | simp only [add_plain] at hx152_0 | simp only [add_at] at hx152_0 | simp only [Addr.add, Nat.zero_add] at hx152_0 | skip)
           replace p152 := eq_true p152;replace q152 := eq_true q152;have p153 : 0 ≤ (a1 : Int) := dT hy;have q153 : a1 < (y148.length : Int) := dT hy;obtain ⟨ad153, e153, hx153_0⟩ := Kd.at_int (Kz.R_reads' HO_0.out).2.2 a1 p153 q153
           obtain rfl : (⟨go9, 0, none⟩ : Addr) = ad153 := (by injection e153)
           (first | simp only [add_plain] at hx153_0 | simp only [add_at] at hx153_0 | simp only [Addr.add, Nat.zero_add] at hx153_0 | skip)
           replace p153 := eq_true p153;replace q153 := eq_true q153;refine start_ (n := 15) (S := fun w' => w'.cell? ⟨go9, (x11_2).toNat, none⟩ = some (.int .u8 (rd y148 x11_2)) ∧ w'.cell? ⟨go9, (a1).toNat, none⟩ = some (.int .u8 (rd y148 a1))) (ds := []) (fl 0 15) kr rfl rfl ⟨hx152_0, hx153_0⟩ (fun hHeld => ?_); refine with_tabW slices_partitionOrdered_byte.tab5 slices_partitionOrdered_byte.bits5 (fun HT_ HW_ => ?_);generalize wr.drew = w35 at HO_0 HK HB hx152_0 hx153_0 hHeld ⊢;refine pure_ (i := 0) (N := some 46) (v := ?_) (a' := ?_) (fl 1 14) rfl rfl (any_of HT_.out kr) (fun _ _ _ h => h) (Or.inl ⟨by rfl, ?_⟩) ?_ ?_;rotate_left;(intro w';go_simp;with_reducible rfl);rotate_left;(simp only [Act.put,z0,z1,z2,i64_w,i32_w];rfl);refine pure_ (i := 1) (N := some 47) (v := ?_) (a' := ?_) (fl 2 13) rfl rfl (any_of HT_.out kr) (fun _ _ _ h => h) (Or.inl ⟨by rfl, ?_⟩) ?_ ?_;rotate_left;(intro w';go_simp;with_reducible rfl);rotate_left;(simp only [Act.put,z0,z1,z2,i64_w,i32_w];rfl);refine pure_ (i := 2) (N := some 48) (v := ?_) (a' := ?_) (fl 3 12) rfl rfl (any_of HT_.out kr) (fun _ _ _ h => h) (Or.inl ⟨by rfl, ?_⟩) ?_ ?_;rotate_left;(intro w';go_simp;with_reducible rfl);rotate_left;(simp only [Act.put,z0,z1,z2,i64_w,i32_w];rfl);refine pure_ (i := 3) (N := some 49) (v := ?_) (a' := ?_) (fl 4 11) rfl rfl (any_of HT_.out kr) (fun _ _ _ h => h) (Or.inl ⟨by rfl, ?_⟩) ?_ ?_;rotate_left;(intro w';go_simp;with_reducible rfl);rotate_left;(simp only [Act.put,z0,z1,z2,i64_w,i32_w];rfl);refine pure_ (i := 4) (N := some 50) (v := ?_) (a' := ?_) (fl 5 10) rfl rfl (any_of HT_.out kr) (fun _ _ _ h => h) (Or.inl ⟨by rfl, ?_⟩) ?_ ?_;rotate_left;(intro w';go_simp;with_reducible rfl);rotate_left;(simp only [Act.put,z0,z1,z2,i64_w,i32_w];rfl);refine pure_ (i := 5) (N := some 51) (v := ?_) (a' := ?_) (fl 6 9) rfl rfl (any_of HT_.out kr) (fun _ _ _ h => h) (Or.inl ⟨by rfl, ?_⟩) ?_ ?_;rotate_left;(intro w';go_simp;with_reducible rfl);rotate_left;(simp only [Act.put,z0,z1,z2,i64_w,i32_w];rfl);refine pure_ (i := 6) (N := some 52) (v := ?_) (a' := ?_) (fl 7 8) rfl rfl (any_of HT_.out kr) (fun _ _ _ h => h) (Or.inl ⟨by rfl, ?_⟩) ?_ ?_;rotate_left;(intro w';go_simp;with_reducible rfl);rotate_left;(simp only [Act.put,z0,z1,z2,i64_w,i32_w];rfl);refine pure_ (i := 8) (N := some 54) (v := ?_) (a' := ?_) #[Y,Y,Y,Y,Y,Y,Y,O,Y,O,O,O,O,O,O] rfl rfl (any_of HT_.out kr) (fun _ _ _ h => h) (Or.inl ⟨by rfl, ?_⟩) ?_ ?_;rotate_left;(intro w';go_simp;with_reducible rfl);rotate_left;(simp only [Act.put,z0,z1,z2,i64_w,i32_w];rfl);refine pure_ (i := 9) (N := some 55) (v := ?_) (a' := ?_) #[Y,Y,Y,Y,Y,Y,Y,O,Y,Y,O,O,O,O,O] rfl rfl (any_of HT_.out kr) (fun _ _ _ h => h) (Or.inl ⟨by rfl, ?_⟩) ?_ ?_;rotate_left;(intro w';go_simp;with_reducible rfl);rotate_left;(simp only [Act.put,z0,z1,z2,i64_w,i32_w];rfl);refine pure_ (i := 10) (N := some 56) (v := ?_) (a' := ?_) #[Y,Y,Y,Y,Y,Y,Y,O,Y,Y,Y,O,O,O,O] rfl rfl (any_of HT_.out kr) (fun _ _ _ h => h) (Or.inl ⟨by rfl, ?_⟩) ?_ ?_;rotate_left;(intro w';go_simp;with_reducible rfl);rotate_left;(simp only [Act.put,z0,z1,z2,i64_w,i32_w];rfl);refine take_ (i := 7) (N := some 53) (v := ?_) (a' := ?_) (fl 11 4) rfl rfl (take_ofW HT_.out HW_.out kr) (fun _ _ _ h => h) (Or.inl ⟨by rfl, ?_⟩) hHeld ?_ ?_;rotate_left;(rintro w' ⟨s0, s1⟩;go_simp;with_reducible rfl);rotate_left;(simp only [Act.put,z0,z1,z2,i64_w,i32_w];rfl);refine take_ (i := 11) (N := some 57) (v := ?_) (a' := ?_) (fl 12 3) rfl rfl (take_ofW HT_.out HW_.out kr) (fun _ _ _ h => h) (Or.inl ⟨by rfl, ?_⟩) hHeld ?_ ?_;rotate_left;(rintro w' ⟨s0, s1⟩;go_simp;with_reducible rfl);rotate_left;(simp only [Act.put,z0,z1,z2,i64_w,i32_w];rfl);refine one_ (i := 12) (N := some 58) (fl 13 2) rfl rfl (one_of HT_.out kr) (by decide) (fun K hK => ?_);refine goes_ Tryz.func109 kr rfl #[.int .u8 (rd y148 x11_2), .int .u8 (rd y148 a1)] (by rfl) rfl rfl sa ?_
           with_reducible refine (cmp_Less_byte.calls (rd y148 x11_2) (rd y148 a1) _ _ A32.out).mono ?_
           rintro e w' ⟨rfl, ⟨nd, rfl⟩⟩;refine ⟨_, rfl, ?_⟩;refine hK.out _ _ ⟨hHeld.1, hHeld.2⟩ (fun hHeld => ?_);clear hK K;refine norm_ (a' := ?_) ?_ ?_;rotate_left
           ·show Act.put _ (some 58) _ = _
            simp only [Act.put, z0,z1,z2,i64_w,i32_w];rfl
           refine pure_ (i := 13) (N := some 59) (v := ?_) (a' := ?_) (fl 14 1) rfl rfl (any_of HT_.out kr) (fun _ _ _ h => h) (Or.inl ⟨by rfl, ?_⟩) ?_ ?_;rotate_left;(intro w';go_simp;with_reducible rfl);rotate_left;(simp only [Act.put,z0,z1,z2,i64_w,i32_w];rfl);refine pure_ (i := 14) (N := some 60) (v := ?_) (a' := ?_) (fl 15 0) rfl rfl (any_of HT_.out kr) (fun _ _ _ h => h) (Or.inl ⟨by rfl, ?_⟩) ?_ ?_;rotate_left;(intro w';go_simp;with_reducible rfl);rotate_left;(simp only [Act.put,z0,z1,z2,i64_w,i32_w];rfl);refine done_ (done_of HT_.out kr) ?_
           try go_wp2
          ·replace HO_0 := As (Kz.R_drew HO_0.out);replace HK := As (Kept.drew HK.out);replace HB := As (XD HB.out);refine start_ (n := 15) (S := fun w' => True) (ds := []) (fl 0 15) kr rfl rfl trivial (fun hHeld => ?_); refine with_tabW slices_partitionOrdered_byte.tab5 slices_partitionOrdered_byte.bits5 (fun HT_ HW_ => ?_);generalize wr.drew = w36 at HO_0 HK HB hHeld ⊢;refine pure_ (i := 0) (N := some 46) (v := ?_) (a' := ?_) (fl 1 14) rfl rfl (any_of HT_.out kr) (fun _ _ _ h => h) (Or.inl ⟨by rfl, ?_⟩) ?_ ?_;rotate_left;(intro w';go_simp;with_reducible rfl);rotate_left;(simp only [Act.put,z0,z1,z2,i64_w,i32_w];rfl);refine pure_ (i := 1) (N := some 47) (v := ?_) (a' := ?_) (fl 2 13) rfl rfl (any_of HT_.out kr) (fun _ _ _ h => h) (Or.inl ⟨by rfl, ?_⟩) ?_ ?_;rotate_left;(intro w';go_simp;with_reducible rfl);rotate_left;(simp only [Act.put,z0,z1,z2,i64_w,i32_w];rfl);refine pure_ (i := 2) (N := some 48) (v := ?_) (a' := ?_) (fl 3 12) rfl rfl (any_of HT_.out kr) (fun _ _ _ h => h) (Or.inl ⟨by rfl, ?_⟩) ?_ ?_;rotate_left;(intro w';go_simp;with_reducible rfl);rotate_left;(simp only [Act.put,z0,z1,z2,i64_w,i32_w];rfl);refine pure_ (i := 3) (N := some 49) (v := ?_) (a' := ?_) (fl 4 11) rfl rfl (any_of HT_.out kr) (fun _ _ _ h => h) (Or.inl ⟨by rfl, ?_⟩) ?_ ?_;rotate_left;(intro w';go_simp;with_reducible rfl);rotate_left;(simp only [Act.put,z0,z1,z2,i64_w,i32_w];rfl);refine pure_ (i := 4) (N := some 50) (v := undef) (a' := ?_) (fl 5 10) rfl rfl (any_of HT_.out kr) (fun _ _ _ h => h) (Or.inr ⟨by rfl, rfl⟩) ?_ ?_;rotate_left
           ·simp only [Act.put, z0,z1,z2,i64_w,i32_w];rfl
           refine pure_ (i := 5) (N := some 51) (v := undef) (a' := ?_) (fl 6 9) rfl rfl (any_of HT_.out kr) (fun _ _ _ h => h) (Or.inr ⟨by rfl, rfl⟩) ?_ ?_;rotate_left
           ·simp only [Act.put, z0,z1,z2,i64_w,i32_w];rfl
           refine pure_ (i := 6) (N := some 52) (v := undef) (a' := ?_) (fl 7 8) rfl rfl (any_of HT_.out kr) (fun _ _ _ h => h) (Or.inr ⟨by rfl, rfl⟩) ?_ ?_;rotate_left
           ·simp only [Act.put, z0,z1,z2,i64_w,i32_w];rfl
           refine pure_ (i := 7) (N := some 53) (v := undef) (a' := ?_) (fl 8 7) rfl rfl (any_of HT_.out kr) (fun _ _ _ h => h) (Or.inr ⟨by rfl, rfl⟩) ?_ ?_;rotate_left
           ·simp only [Act.put, z0,z1,z2,i64_w,i32_w];rfl
           refine pure_ (i := 8) (N := some 54) (v := undef) (a' := ?_) (fl 9 6) rfl rfl (any_of HT_.out kr) (fun _ _ _ h => h) (Or.inr ⟨by rfl, rfl⟩) ?_ ?_;rotate_left
           ·simp only [Act.put, z0,z1,z2,i64_w,i32_w];rfl
           refine pure_ (i := 9) (N := some 55) (v := undef) (a' := ?_) (fl 10 5) rfl rfl (any_of HT_.out kr) (fun _ _ _ h => h) (Or.inr ⟨by rfl, rfl⟩) ?_ ?_;rotate_left
           ·simp only [Act.put, z0,z1,z2,i64_w,i32_w];rfl
           refine pure_ (i := 10) (N := some 56) (v := undef) (a' := ?_) (fl 11 4) rfl rfl (any_of HT_.out kr) (fun _ _ _ h => h) (Or.inr ⟨by rfl, rfl⟩) ?_ ?_;rotate_left
           ·simp only [Act.put, z0,z1,z2,i64_w,i32_w];rfl
           refine pure_ (i := 11) (N := some 57) (v := undef) (a' := ?_) (fl 12 3) rfl rfl (any_of HT_.out kr) (fun _ _ _ h => h) (Or.inr ⟨by rfl, rfl⟩) ?_ ?_;rotate_left
           ·simp only [Act.put, z0,z1,z2,i64_w,i32_w];rfl
           refine pure_ (i := 12) (N := some 58) (v := undef) (a' := ?_) (fl 13 2) rfl rfl (any_of HT_.out kr) (fun _ _ _ h => h) (Or.inr ⟨by rfl, rfl⟩) ?_ ?_;rotate_left
           ·simp only [Act.put, z0,z1,z2,i64_w,i32_w];rfl
           refine pure_ (i := 13) (N := some 59) (v := undef) (a' := ?_) (fl 14 1) rfl rfl (any_of HT_.out kr) (fun _ _ _ h => h) (Or.inr ⟨by rfl, rfl⟩) ?_ ?_;rotate_left
           ·simp only [Act.put, z0,z1,z2,i64_w,i32_w];rfl
           refine pure_ (i := 14) (N := some 60) (v := ?_) (a' := ?_) (fl 15 0) rfl rfl (any_of HT_.out kr) (fun _ _ _ h => h) (Or.inl ⟨by rfl, ?_⟩) ?_ ?_;rotate_left;(intro w';go_simp;with_reducible rfl);rotate_left;(simp only [Act.put,z0,z1,z2,i64_w,i32_w];rfl);refine done_ (done_of HT_.out kr) ?_
           try go_wp2
           go_meet
           case rel => exact ⟨_, (x11_2), sw, H', ⟨by have := HJ10.out; have := HK2.out; first | omega | exact Nat.le_refl _⟩, ⟨by (try simp only [hl0_10]); (with_reducible repeat (first | apply Kz.R_alloc | apply Kz.R_drewN | apply Kz.R_drew)); exact HO_0.out⟩, ⟨by repeat (first | (with_reducible first | exact HK.out | apply Kept.alloc | apply Kept.drewN | apply Kept.drew) | exact HK.out)⟩, ⟨by repeat (first | (with_reducible first | exact HB.out | apply XA | apply XN | apply XD) | exact HB.out)⟩⟩
          ·go_roundg k2
           case measure => have := HJ10.out; have := HK2.out; omega
           case rel => exact ⟨(wrap64 (x11_2 - 1)), sw, H', ⟨by have := HJ10.out; have := HK2.out; omega⟩, ⟨by (try simp only [hl0_10]); (with_reducible repeat (first | apply Kz.R_alloc | apply Kz.R_drewN | apply Kz.R_drew)); exact HO_0.out⟩, ⟨by repeat (first | (with_reducible first | exact HK.out | apply Kept.alloc | apply Kept.drewN | apply Kept.drew) | exact HK.out)⟩, ⟨by repeat (first | (with_reducible first | exact HB.out | apply XA | apply XN | apply XD) | exact HB.out)⟩⟩
          ·go_meet
           case rel => exact ⟨_, (x11_2), sw, H', ⟨by have := HJ10.out; have := HK2.out; first | omega | exact Nat.le_refl _⟩, ⟨by (try simp only [hl0_10]); (with_reducible repeat (first | apply Kz.R_alloc | apply Kz.R_drewN | apply Kz.R_drew)); exact HO_0.out⟩, ⟨by repeat (first | (with_reducible first | exact HK.out | apply Kept.alloc | apply Kept.drewN | apply Kept.drew) | exact HK.out)⟩, ⟨by repeat (first | (with_reducible first | exact HB.out | apply XA | apply XN | apply XD) | exact HB.out)⟩⟩
       case rest =>
        clear HC26
        try clear c1
        try clear p1
        try clear q1
        try clear hx1
        try clear c2
        try clear p2
        try clear c3
        try clear c5
        try clear c5b0
        try clear c6
        try clear c6b0
        try clear p6
        try clear c7
        try clear c7b0
        try clear c8
        try clear c8b0
        try clear p9
        try clear q9
        try clear hx9
        try clear hf9
        try clear c10
        try clear p10
        try clear q10
        try clear hx10
        try clear hf10
        try clear c11
        try clear p14
        try clear q14
        try clear hx14
        try clear p15
        try clear q15
        try clear hx15
        try clear c16
        try clear c16b0
        try clear c17
        try clear c17b0
        try clear c18
        try clear c18b0
        try clear c19
        try clear c19b0
        try clear c20
        try clear c20b0
        try clear c22
        try clear c27
        try clear c27b0
        try clear c28
        try clear c28b0
        try clear c29
        try clear c29b0
        try clear c30
        try clear c30b0
        try clear c31
        try clear c31b0
        try clear c33
        try clear hx10_0
        try clear hx145_0
        try clear hx146_0
        try clear hx149_0
        try clear hx150_0
        try clear hx152_0
        try clear hx153_0
        try clear hx9_0
        try clear p1
        try clear p10
        try clear p14
        try clear p145
        try clear p146
        try clear p149
        try clear p15
        try clear p150
        try clear p152
        try clear p153
        try clear p2
        try clear p6
        try clear p9
        try clear q1
        try clear q10
        try clear q14
        try clear q145
        try clear q146
        try clear q149
        try clear q15
        try clear q150
        try clear q152
        try clear q153
        try clear q9
        obtain ⟨kq, x11_25, rfl, HA, HJ25, HO_0, HK, HB⟩ := hcut
        cases kq with
        | zero => exact absurd HA.out (by simp [slices_partitionOrdered_byte.j3])
        | succ kj25 =>
         have H := HA.out;clear HA;simp only [slices_partitionOrdered_byte.j3] at H
         by_cases c37 : x10_10 > x11_25
         ·rw [if_pos c37] at H;have c37b0 : decide (x11_25 < x10_10) = true := dY c37;clear c37
          by_cases c38 : 0 ≤ a1
          ·rw [if_pos c38] at H;have c38b0 : decide (0 ≤ a1) = true := dY c38;clear c38
           by_cases c39 : a1 < (y148.length : Int)
           ·rw [if_pos c39] at H;have c39b0 : decide (a1 < (y148.length : Int)) = true := dY c39;clear c39
            by_cases c40 : 0 ≤ x11_25
            ·rw [if_pos c40] at H;have c40b0 : decide (0 ≤ x11_25) = true := dY c40;clear c40
             by_cases c41 : x11_25 < (y148.length : Int)
             ·rw [if_pos c41] at H;have c41b0 : decide (x11_25 < (y148.length : Int)) = true := dY c41;clear c41
              obtain ⟨y157, hy157⟩ : ∃ y_ : List Int, y_ = (y148.set (x11_25 : Int).toNat (rd y148 a1)) := ⟨_, rfl⟩
              replace H : (some (x11_25, true, (y157.set (a1 : Int).toNat (rd y148 x11_25)))) = some (r1, r2, r3) := by first | (rw [hy157]; with_reducible exact H) | (have H2_ := (Option.bind_some _ _).symm.trans H; rw [hy157]; with_reducible exact H2_) | (have H2_ := (Option.bind_some _ _).symm.trans H; with_reducible exact H2_) | with_reducible exact H | (rw [hy157]; exact H) | exact H
              have Ny157 := As hy157;clear hy157
              obtain ⟨y158, hy158⟩ : ∃ y_ : List Int, y_ = (y157.set (a1 : Int).toNat (rd y148 x11_25)) := ⟨_, rfl⟩
              replace H : (some (x11_25, true, y158)) = some (r1, r2, r3) := by first | (rw [hy158]; with_reducible exact H) | (have H2_ := (Option.bind_some _ _).symm.trans H; rw [hy158]; with_reducible exact H2_) | (have H2_ := (Option.bind_some _ _).symm.trans H; with_reducible exact H2_) | with_reducible exact H | (rw [hy158]; exact H) | exact H
              have Ny158 := As hy158;clear hy158;simp only [Option.some.injEq, Prod.mk.injEq] at H;obtain ⟨rfl, rfl, rfl⟩ := H
              try go_wp2
              replace HO_0 := As (Kz.R_drew HO_0.out);replace HK := As (Kept.drew HK.out);replace HB := As (XD HB.out);have p155 : 0 ≤ (a1 : Int) := dT hy;have q155 : a1 < (y148.length : Int) := dT hy;obtain ⟨ad155, e155, hx155_0⟩ := Kd.at_int (Kz.R_reads' HO_0.out).2.2 a1 p155 q155
              obtain rfl : (⟨go9, 0, none⟩ : Addr) = ad155 := (by injection e155)
              (first | simp only [add_plain] at hx155_0 | simp only [add_at] at hx155_0 | simp only [Addr.add, Nat.zero_add] at hx155_0 | skip)
              replace p155 := eq_true p155;replace q155 := eq_true q155;have p156 : 0 ≤ (x11_25 : Int) := dT hy;have q156 : x11_25 < (y148.length : Int) := dT hy;obtain ⟨ad156, e156, hx156_0⟩ := Kd.at_int (Kz.R_reads' HO_0.out).2.2 x11_25 p156 q156
              obtain rfl : (⟨go9, 0, none⟩ : Addr) = ad156 := (by injection e156)
              (first | simp only [add_plain] at hx156_0 | simp only [add_at] at hx156_0 | simp only [Addr.add, Nat.zero_add] at hx156_0 | skip)
              replace p156 := eq_true p156;replace q156 := eq_true q156;have p42 : 0 ≤ (x11_25 : Int) := dT hy;have q42 : (x11_25 : Int) < ((y148.length : Int) : Int) := dT hy;obtain ⟨hx42_0, hf42_0⟩ := Kz.R_celln 0 HO_0.out (x11_25 : Int) p42 q42;replace p42 := eq_true p42;replace q42 := eq_true q42;have HP45 := Kz.R_putn HO_0.out (x11_25 : Int) (rd y148 a1);rw [← Ny157.out] at HP45;have HQ45 := As HP45;clear HP45;have p43 : 0 ≤ (a1 : Int) := dT hy;have q43 : (a1 : Int) < ((y148.length : Int) : Int) := dT hy;obtain ⟨hx43_0, hf43_0⟩ := Kz.R_celln 0 HQ45.out (a1 : Int) p43 q43;replace p43 := eq_true p43;replace q43 := eq_true q43;have HP46 := Kz.R_putn HQ45.out (a1 : Int) (rd y148 x11_25);rw [← Ny158.out] at HP46;have HQ46 := As HP46;clear HP46;refine start_ (n := 16) (S := fun w' => w'.cell? ⟨go9, (a1).toNat, none⟩ = some (.int .u8 (rd y148 a1)) ∧ w'.cell? ⟨go9, (x11_25).toNat, none⟩ = some (.int .u8 (rd y148 x11_25))) (ds := [13, 15]) (fl 0 16) kr rfl rfl ⟨hx155_0, hx156_0⟩ (fun hHeld => ?_); refine with_tabW slices_partitionOrdered_byte.tab8 slices_partitionOrdered_byte.bits8 (fun HT_ HW_ => ?_);generalize wc.drew = w44 at HO_0 HK HB HQ45 HQ46 hf42_0 hf43_0 hx155_0 hx156_0 hx42_0 hx43_0 hHeld ⊢;refine pure_ (i := 0) (N := some 66) (v := ?_) (a' := ?_) (fl 1 15) rfl rfl (any_of HT_.out kr) (fun _ _ _ h => h) (Or.inl ⟨by rfl, ?_⟩) ?_ ?_;rotate_left;(intro w';go_simp;with_reducible rfl);rotate_left;(simp only [Act.put,z0,z1,z2,i64_w,i32_w];rfl);refine pure_ (i := 1) (N := some 67) (v := ?_) (a' := ?_) (fl 2 14) rfl rfl (any_of HT_.out kr) (fun _ _ _ h => h) (Or.inl ⟨by rfl, ?_⟩) ?_ ?_;rotate_left;(intro w';go_simp;with_reducible rfl);rotate_left;(simp only [Act.put,z0,z1,z2,i64_w,i32_w];rfl);refine pure_ (i := 2) (N := some 68) (v := ?_) (a' := ?_) (fl 3 13) rfl rfl (any_of HT_.out kr) (fun _ _ _ h => h) (Or.inl ⟨by rfl, ?_⟩) ?_ ?_;rotate_left;(intro w';go_simp;with_reducible rfl);rotate_left;(simp only [Act.put,z0,z1,z2,i64_w,i32_w];rfl);refine pure_ (i := 3) (N := some 69) (v := ?_) (a' := ?_) (fl 4 12) rfl rfl (any_of HT_.out kr) (fun _ _ _ h => h) (Or.inl ⟨by rfl, ?_⟩) ?_ ?_;rotate_left;(intro w';go_simp;with_reducible rfl);rotate_left;(simp only [Act.put,z0,z1,z2,i64_w,i32_w];rfl);refine pure_ (i := 4) (N := some 70) (v := ?_) (a' := ?_) (fl 5 11) rfl rfl (any_of HT_.out kr) (fun _ _ _ h => h) (Or.inl ⟨by rfl, ?_⟩) ?_ ?_;rotate_left;(intro w';go_simp;with_reducible rfl);rotate_left;(simp only [Act.put,z0,z1,z2,i64_w,i32_w];rfl);refine pure_ (i := 5) (N := some 71) (v := ?_) (a' := ?_) (fl 6 10) rfl rfl (any_of HT_.out kr) (fun _ _ _ h => h) (Or.inl ⟨by rfl, ?_⟩) ?_ ?_;rotate_left;(intro w';go_simp;with_reducible rfl);rotate_left;(simp only [Act.put,z0,z1,z2,i64_w,i32_w];rfl);refine pure_ (i := 6) (N := some 72) (v := ?_) (a' := ?_) (fl 7 9) rfl rfl (any_of HT_.out kr) (fun _ _ _ h => h) (Or.inl ⟨by rfl, ?_⟩) ?_ ?_;rotate_left;(intro w';go_simp;with_reducible rfl);rotate_left;(simp only [Act.put,z0,z1,z2,i64_w,i32_w];rfl);refine pure_ (i := 8) (N := some 74) (v := ?_) (a' := ?_) #[Y,Y,Y,Y,Y,Y,Y,O,Y,O,O,O,O,O,O,O] rfl rfl (any_of HT_.out kr) (fun _ _ _ h => h) (Or.inl ⟨by rfl, ?_⟩) ?_ ?_;rotate_left;(intro w';go_simp;with_reducible rfl);rotate_left;(simp only [Act.put,z0,z1,z2,i64_w,i32_w];rfl);refine pure_ (i := 9) (N := some 75) (v := ?_) (a' := ?_) #[Y,Y,Y,Y,Y,Y,Y,O,Y,Y,O,O,O,O,O,O] rfl rfl (any_of HT_.out kr) (fun _ _ _ h => h) (Or.inl ⟨by rfl, ?_⟩) ?_ ?_;rotate_left;(intro w';go_simp;with_reducible rfl);rotate_left;(simp only [Act.put,z0,z1,z2,i64_w,i32_w];rfl);refine pure_ (i := 10) (N := some 76) (v := ?_) (a' := ?_) #[Y,Y,Y,Y,Y,Y,Y,O,Y,Y,Y,O,O,O,O,O] rfl rfl (any_of HT_.out kr) (fun _ _ _ h => h) (Or.inl ⟨by rfl, ?_⟩) ?_ ?_;rotate_left;(intro w';go_simp;with_reducible rfl);rotate_left;(simp only [Act.put,z0,z1,z2,i64_w,i32_w];rfl);refine take_ (i := 7) (N := some 73) (v := ?_) (a' := ?_) (fl 11 5) rfl rfl (take_ofW HT_.out HW_.out kr) (fun _ _ _ h => h) (Or.inl ⟨by rfl, ?_⟩) hHeld ?_ ?_;rotate_left;(rintro w' ⟨s0, s1⟩;go_simp;with_reducible rfl);rotate_left;(simp only [Act.put,z0,z1,z2,i64_w,i32_w];rfl);refine take_ (i := 11) (N := some 77) (v := ?_) (a' := ?_) (fl 12 4) rfl rfl (take_ofW HT_.out HW_.out kr) (fun _ _ _ h => h) (Or.inl ⟨by rfl, ?_⟩) hHeld ?_ ?_;rotate_left;(rintro w' ⟨s0, s1⟩;go_simp;with_reducible rfl);rotate_left;(simp only [Act.put,z0,z1,z2,i64_w,i32_w];rfl);refine pure_ (i := 12) (N := some 78) (v := ?_) (a' := ?_) (fl 13 3) rfl rfl (any_of HT_.out kr) (fun _ _ _ h => h) (Or.inl ⟨by rfl, ?_⟩) ?_ ?_;rotate_left;(intro w';go_simp;with_reducible rfl);rotate_left;(simp only [Act.put,z0,z1,z2,i64_w,i32_w];rfl);refine last_ (i := 13) (N := none) (fl 14 2) rfl rfl (one_of HT_.out kr) (by decide) (fun K hK => ?_);refine skip_ (w1 := ?_) (by rfl) rfl ?_ ?_;rotate_left
              ·go_simp;rfl
              refine hK.out _ _ ?_;clear hK K;refine pure_ (i := 14) (N := some 79) (v := ?_) (a' := ?_) (fl 15 1) rfl rfl (any_of HT_.out kr) (fun _ _ _ h => h) (Or.inl ⟨by rfl, ?_⟩) ?_ ?_;rotate_left;(intro w';go_simp;with_reducible rfl);rotate_left;(simp only [Act.put,z0,z1,z2,i64_w,i32_w];rfl);refine last_ (i := 15) (N := none) (fl 16 0) rfl rfl (one_of HT_.out kr) (by decide) (fun K hK => ?_);refine skip_ (w1 := ?_) (by rfl) rfl ?_ ?_;rotate_left
              ·go_simp;rfl
              refine hK.out _ _ ?_;clear hK K;refine done_ (done_of HT_.out kr) ?_
              try go_wp2
              go_ret2
              exact ⟨by first | rfl | (simp [errW_none, errW_some] <;> rfl) | (simp [*, errW_none, errW_some] <;> rfl), (by first | exact (by (with_reducible repeat (first | apply Kz.R_alloc | apply Kz.R_drewN | apply Kz.R_drew)); exact HQ46.out) | (simp only [hl0_10]; exact (by (with_reducible repeat (first | apply Kz.R_alloc | apply Kz.R_drewN | apply Kz.R_drew)); exact HQ46.out))), by repeat (first | (with_reducible first | exact HB.out | apply XA | apply XN | apply XD | refine XS ?_ GB9.out | refine XS ?_ GB9.out) | exact HB.out), by repeat (first | (with_reducible first | exact HK.out | apply Kept.alloc | apply Kept.drewN | apply Kept.drew | refine Kept.setCell ?_ HMgo9.out _ | refine Kept.setCell ?_ HMgo9.out _) | exact HK.out)⟩
             ·rw [if_neg c41] at H;exact absurd H (by simp)
            ·rw [if_neg c40] at H;exact absurd H (by simp)
           ·rw [if_neg c39] at H;exact absurd H (by simp)
          ·rw [if_neg c38] at H;exact absurd H (by simp)
         ·rw [if_neg c37] at H;have c37b0 : decide (x11_25 < x10_10) = false := dN c37;clear c37
          by_cases c47 : 0 ≤ x11_25
          ·rw [if_pos c47] at H;have c47b0 : decide (0 ≤ x11_25) = true := dY c47;clear c47
           by_cases c48 : x11_25 < (y148.length : Int)
           ·rw [if_pos c48] at H;have c48b0 : decide (x11_25 < (y148.length : Int)) = true := dY c48;clear c48
            by_cases c49 : 0 ≤ x10_10
            ·rw [if_pos c49] at H;have c49b0 : decide (0 ≤ x10_10) = true := dY c49;clear c49
             by_cases c50 : x10_10 < (y148.length : Int)
             ·rw [if_pos c50] at H;have c50b0 : decide (x10_10 < (y148.length : Int)) = true := dY c50;clear c50
              obtain ⟨y161, hy161⟩ : ∃ y_ : List Int, y_ = (y148.set (x10_10 : Int).toNat (rd y148 x11_25)) := ⟨_, rfl⟩
              replace H : (slices_partitionOrdered_byte.l2 kj25 (y161.set (x11_25 : Int).toNat (rd y148 x10_10)) a1 (wrap64 (x10_10 + 1)) (wrap64 (x11_25 - 1))) = some (r1, r2, r3) := by first | (rw [hy161]; with_reducible exact H) | (have H2_ := (Option.bind_some _ _).symm.trans H; rw [hy161]; with_reducible exact H2_) | (have H2_ := (Option.bind_some _ _).symm.trans H; with_reducible exact H2_) | with_reducible exact H | (rw [hy161]; exact H) | exact H
              have Ny161 := As hy161;clear hy161
              obtain ⟨y162, hy162⟩ : ∃ y_ : List Int, y_ = (y161.set (x11_25 : Int).toNat (rd y148 x10_10)) := ⟨_, rfl⟩
              replace H : (slices_partitionOrdered_byte.l2 kj25 y162 a1 (wrap64 (x10_10 + 1)) (wrap64 (x11_25 - 1))) = some (r1, r2, r3) := by first | (rw [hy162]; with_reducible exact H) | (have H2_ := (Option.bind_some _ _).symm.trans H; rw [hy162]; with_reducible exact H2_) | (have H2_ := (Option.bind_some _ _).symm.trans H; with_reducible exact H2_) | with_reducible exact H | (rw [hy162]; exact H) | exact H
              have Ny162 := As hy162;clear hy162;have H' := As H;clear H
              try go_wp2
              replace HO_0 := As (Kz.R_drew HO_0.out);replace HK := As (Kept.drew HK.out);replace HB := As (XD HB.out);have p159 : 0 ≤ (x11_25 : Int) := dT hy;have q159 : x11_25 < (y148.length : Int) := dT hy;obtain ⟨ad159, e159, hx159_0⟩ := Kd.at_int (Kz.R_reads' HO_0.out).2.2 x11_25 p159 q159
              obtain rfl : (⟨go9, 0, none⟩ : Addr) = ad159 := (by injection e159)
              (first | simp only [add_plain] at hx159_0 | simp only [add_at] at hx159_0 | simp only [Addr.add, Nat.zero_add] at hx159_0 | skip)
              replace p159 := eq_true p159;replace q159 := eq_true q159;have p160 : 0 ≤ (x10_10 : Int) := dT hy;have q160 : x10_10 < (y148.length : Int) := dT hy;obtain ⟨ad160, e160, hx160_0⟩ := Kd.at_int (Kz.R_reads' HO_0.out).2.2 x10_10 p160 q160
              obtain rfl : (⟨go9, 0, none⟩ : Addr) = ad160 := (by injection e160)
              (first | simp only [add_plain] at hx160_0 | simp only [add_at] at hx160_0 | simp only [Addr.add, Nat.zero_add] at hx160_0 | skip)
              replace p160 := eq_true p160;replace q160 := eq_true q160;have p51 : 0 ≤ (x10_10 : Int) := dT hy;have q51 : (x10_10 : Int) < ((y148.length : Int) : Int) := dT hy;obtain ⟨hx51_0, hf51_0⟩ := Kz.R_celln 0 HO_0.out (x10_10 : Int) p51 q51;replace p51 := eq_true p51;replace q51 := eq_true q51;have HP54 := Kz.R_putn HO_0.out (x10_10 : Int) (rd y148 x11_25);rw [← Ny161.out] at HP54;have HQ54 := As HP54;clear HP54;have p52 : 0 ≤ (x11_25 : Int) := dT hy;have q52 : (x11_25 : Int) < ((y148.length : Int) : Int) := dT hy;obtain ⟨hx52_0, hf52_0⟩ := Kz.R_celln 0 HQ54.out (x11_25 : Int) p52 q52;replace p52 := eq_true p52;replace q52 := eq_true q52;have HP55 := Kz.R_putn HQ54.out (x11_25 : Int) (rd y148 x10_10);rw [← Ny162.out] at HP55;have HQ55 := As HP55;clear HP55;refine start_ (n := 16) (S := fun w' => w'.cell? ⟨go9, (x11_25).toNat, none⟩ = some (.int .u8 (rd y148 x11_25)) ∧ w'.cell? ⟨go9, (x10_10).toNat, none⟩ = some (.int .u8 (rd y148 x10_10))) (ds := [13, 15]) (fl 0 16) kr rfl rfl ⟨hx159_0, hx160_0⟩ (fun hHeld => ?_); refine with_tabW slices_partitionOrdered_byte.tab10 slices_partitionOrdered_byte.bits10 (fun HT_ HW_ => ?_);generalize wc.drew = w53 at HO_0 HK HB HQ54 HQ55 hf51_0 hf52_0 hx159_0 hx160_0 hx51_0 hx52_0 hHeld ⊢;refine pure_ (i := 0) (N := some 81) (v := ?_) (a' := ?_) (fl 1 15) rfl rfl (any_of HT_.out kr) (fun _ _ _ h => h) (Or.inl ⟨by rfl, ?_⟩) ?_ ?_;rotate_left;(intro w';go_simp;with_reducible rfl);rotate_left;(simp only [Act.put,z0,z1,z2,i64_w,i32_w];rfl);refine pure_ (i := 1) (N := some 82) (v := ?_) (a' := ?_) (fl 2 14) rfl rfl (any_of HT_.out kr) (fun _ _ _ h => h) (Or.inl ⟨by rfl, ?_⟩) ?_ ?_;rotate_left;(intro w';go_simp;with_reducible rfl);rotate_left;(simp only [Act.put,z0,z1,z2,i64_w,i32_w];rfl);refine pure_ (i := 2) (N := some 83) (v := ?_) (a' := ?_) (fl 3 13) rfl rfl (any_of HT_.out kr) (fun _ _ _ h => h) (Or.inl ⟨by rfl, ?_⟩) ?_ ?_;rotate_left;(intro w';go_simp;with_reducible rfl);rotate_left;(simp only [Act.put,z0,z1,z2,i64_w,i32_w];rfl);refine pure_ (i := 3) (N := some 84) (v := ?_) (a' := ?_) (fl 4 12) rfl rfl (any_of HT_.out kr) (fun _ _ _ h => h) (Or.inl ⟨by rfl, ?_⟩) ?_ ?_;rotate_left;(intro w';go_simp;with_reducible rfl);rotate_left;(simp only [Act.put,z0,z1,z2,i64_w,i32_w];rfl);refine pure_ (i := 4) (N := some 85) (v := ?_) (a' := ?_) (fl 5 11) rfl rfl (any_of HT_.out kr) (fun _ _ _ h => h) (Or.inl ⟨by rfl, ?_⟩) ?_ ?_;rotate_left;(intro w';go_simp;with_reducible rfl);rotate_left;(simp only [Act.put,z0,z1,z2,i64_w,i32_w];rfl);refine pure_ (i := 5) (N := some 86) (v := ?_) (a' := ?_) (fl 6 10) rfl rfl (any_of HT_.out kr) (fun _ _ _ h => h) (Or.inl ⟨by rfl, ?_⟩) ?_ ?_;rotate_left;(intro w';go_simp;with_reducible rfl);rotate_left;(simp only [Act.put,z0,z1,z2,i64_w,i32_w];rfl);refine pure_ (i := 6) (N := some 87) (v := ?_) (a' := ?_) (fl 7 9) rfl rfl (any_of HT_.out kr) (fun _ _ _ h => h) (Or.inl ⟨by rfl, ?_⟩) ?_ ?_;rotate_left;(intro w';go_simp;with_reducible rfl);rotate_left;(simp only [Act.put,z0,z1,z2,i64_w,i32_w];rfl);refine pure_ (i := 8) (N := some 89) (v := ?_) (a' := ?_) #[Y,Y,Y,Y,Y,Y,Y,O,Y,O,O,O,O,O,O,O] rfl rfl (any_of HT_.out kr) (fun _ _ _ h => h) (Or.inl ⟨by rfl, ?_⟩) ?_ ?_;rotate_left;(intro w';go_simp;with_reducible rfl);rotate_left;(simp only [Act.put,z0,z1,z2,i64_w,i32_w];rfl);refine pure_ (i := 9) (N := some 90) (v := ?_) (a' := ?_) #[Y,Y,Y,Y,Y,Y,Y,O,Y,Y,O,O,O,O,O,O] rfl rfl (any_of HT_.out kr) (fun _ _ _ h => h) (Or.inl ⟨by rfl, ?_⟩) ?_ ?_;rotate_left;(intro w';go_simp;with_reducible rfl);rotate_left;(simp only [Act.put,z0,z1,z2,i64_w,i32_w];rfl);refine pure_ (i := 10) (N := some 91) (v := ?_) (a' := ?_) #[Y,Y,Y,Y,Y,Y,Y,O,Y,Y,Y,O,O,O,O,O] rfl rfl (any_of HT_.out kr) (fun _ _ _ h => h) (Or.inl ⟨by rfl, ?_⟩) ?_ ?_;rotate_left;(intro w';go_simp;with_reducible rfl);rotate_left;(simp only [Act.put,z0,z1,z2,i64_w,i32_w];rfl);refine take_ (i := 7) (N := some 88) (v := ?_) (a' := ?_) (fl 11 5) rfl rfl (take_ofW HT_.out HW_.out kr) (fun _ _ _ h => h) (Or.inl ⟨by rfl, ?_⟩) hHeld ?_ ?_;rotate_left;(rintro w' ⟨s0, s1⟩;go_simp;with_reducible rfl);rotate_left;(simp only [Act.put,z0,z1,z2,i64_w,i32_w];rfl);refine take_ (i := 11) (N := some 92) (v := ?_) (a' := ?_) (fl 12 4) rfl rfl (take_ofW HT_.out HW_.out kr) (fun _ _ _ h => h) (Or.inl ⟨by rfl, ?_⟩) hHeld ?_ ?_;rotate_left;(rintro w' ⟨s0, s1⟩;go_simp;with_reducible rfl);rotate_left;(simp only [Act.put,z0,z1,z2,i64_w,i32_w];rfl);refine pure_ (i := 12) (N := some 93) (v := ?_) (a' := ?_) (fl 13 3) rfl rfl (any_of HT_.out kr) (fun _ _ _ h => h) (Or.inl ⟨by rfl, ?_⟩) ?_ ?_;rotate_left;(intro w';go_simp;with_reducible rfl);rotate_left;(simp only [Act.put,z0,z1,z2,i64_w,i32_w];rfl);refine last_ (i := 13) (N := none) (fl 14 2) rfl rfl (one_of HT_.out kr) (by decide) (fun K hK => ?_);refine skip_ (w1 := ?_) (by rfl) rfl ?_ ?_;rotate_left
              ·go_simp;rfl
              refine hK.out _ _ ?_;clear hK K;refine pure_ (i := 14) (N := some 94) (v := ?_) (a' := ?_) (fl 15 1) rfl rfl (any_of HT_.out kr) (fun _ _ _ h => h) (Or.inl ⟨by rfl, ?_⟩) ?_ ?_;rotate_left;(intro w';go_simp;with_reducible rfl);rotate_left;(simp only [Act.put,z0,z1,z2,i64_w,i32_w];rfl);refine last_ (i := 15) (N := none) (fl 16 0) rfl rfl (one_of HT_.out kr) (by decide) (fun K hK => ?_);refine skip_ (w1 := ?_) (by rfl) rfl ?_ ?_;rotate_left
              ·go_simp;rfl
              refine hK.out _ _ ?_;clear hK K;refine done_ (done_of HT_.out kr) ?_
              try go_wp2
              go_loopg [10, 11] kj25 (fun kq v10 v11 w' => ∃ (x0_3 : List Int) (x10_3 : Int) (x11_3 : Int), v10 = .int .i64 x10_3 ∧ v11 = .int .i64 x11_3 ∧ Aside0 (slices_partitionOrdered_byte.l2 kq x0_3 a1 x10_3 x11_3 = some (r1, r2, r3)) ∧ Aside0 (kq ≤ kj25) ∧ Aside0 (Kz.R (Kd.int .u8) 5 w' w0.heap.size (fun k_ => (P0_ k_ ∨ w.heap.size ≤ k_)) (.slice (some ⟨go9, 0, none⟩) y148.length co13) x0_3) ∧ Aside0 (Kept w w' (fun k_ => P0_ k_)) ∧ Aside0 (Below w0.heap.size w0 w'))
              case atStart => exact ⟨(y162), (wrap64 (x10_10 + 1)), (wrap64 (x11_25 - 1)), sw, sw, H', ⟨Nat.le_refl _⟩, ⟨by (try simp only [hl0_10]); (with_reducible repeat (first | apply Kz.R_alloc | apply Kz.R_drewN | apply Kz.R_drew)); exact HQ55.out⟩, ⟨by repeat (first | (with_reducible first | exact HK.out | apply Kept.alloc | apply Kept.drewN | apply Kept.drew | refine Kept.setCell ?_ HMgo9.out _ | refine Kept.setCell ?_ HMgo9.out _) | exact HK.out)⟩, ⟨by repeat (first | (with_reducible first | exact HB.out | apply XA | apply XN | apply XD | refine XS ?_ GB9.out | refine XS ?_ GB9.out) | exact HB.out)⟩⟩
              case round =>
               clear H'
               try clear c1
               try clear p1
               try clear q1
               try clear hx1
               try clear c2
               try clear p2
               try clear c3
               try clear c4
               try clear p4
               try clear q4
               try clear hx4
               try clear hf4
               try clear c5
               try clear c5b0
               try clear p5
               try clear q5
               try clear hx5
               try clear hf5
               try clear c6
               try clear c6b0
               try clear p6
               try clear c7
               try clear c7b0
               try clear c8
               try clear c8b0
               try clear p9
               try clear q9
               try clear hx9
               try clear hf9
               try clear c10
               try clear p10
               try clear q10
               try clear hx10
               try clear hf10
               try clear c11
               try clear p14
               try clear q14
               try clear hx14
               try clear p15
               try clear q15
               try clear hx15
               try clear c16
               try clear c16b0
               try clear p16
               try clear q16
               try clear hx16
               try clear c17
               try clear c17b0
               try clear c18
               try clear c18b0
               try clear c19
               try clear c19b0
               try clear c20
               try clear c20b0
               try clear c22
               try clear c27
               try clear c27b0
               try clear c28
               try clear c28b0
               try clear c29
               try clear c29b0
               try clear c30
               try clear c30b0
               try clear c31
               try clear c31b0
               try clear c33
               try clear c37
               try clear c37b0
               try clear c38
               try clear c38b0
               try clear c39
               try clear c39b0
               try clear c40
               try clear c40b0
               try clear c41
               try clear c41b0
               try clear p42
               try clear q42
               try clear hx42
               try clear hf42
               try clear p43
               try clear q43
               try clear hx43
               try clear hf43
               try clear c47
               try clear c47b0
               try clear c48
               try clear c48b0
               try clear c49
               try clear c49b0
               try clear c50
               try clear c50b0
               try clear p51
               try clear q51
               try clear hx51
               try clear hf51
               try clear p52
               try clear q52
               try clear hx52
               try clear hf52
               try clear hx10_0
               try clear hx145_0
               try clear hx146_0
               try clear hx149_0
               try clear hx150_0
               try clear hx152_0
               try clear hx153_0
               try clear hx155_0
               try clear hx156_0
               try clear hx159_0
               try clear hx160_0
               try clear hx42_0
               try clear hx43_0
               try clear hx51_0
               try clear hx52_0
               try clear hx9_0
               try clear p1
               try clear p10
               try clear p14
               try clear p145
               try clear p146
               try clear p149
               try clear p15
               try clear p150
               try clear p152
               try clear p153
               try clear p155
               try clear p156
               try clear p159
               try clear p160
               try clear p2
               try clear p42
               try clear p43
               try clear p51
               try clear p52
               try clear p6
               try clear p9
               try clear q1
               try clear q10
               try clear q14
               try clear q145
               try clear q146
               try clear q149
               try clear q15
               try clear q150
               try clear q152
               try clear q153
               try clear q155
               try clear q156
               try clear q159
               try clear q160
               try clear q42
               try clear q43
               try clear q51
               try clear q52
               try clear q9
               obtain ⟨x0_3, x10_3, x11_3, rfl, rfl, HA, HK3, HO_0, HK, HB⟩ := hrel;have hl0_3 := (Kz.R_reads' HO_0.out).1;rw [hl0_3] at HO_0
               (try simp only [hl0_3])
               cases gk with
               | zero => exact absurd HA.out (by simp [slices_partitionOrdered_byte.l2])
               | succ k3 =>
                have H := HA.out;clear HA;simp only [slices_partitionOrdered_byte.l2] at H;have HC56 := As H;clear H
                go_upto_block 6 with (fail)
                go_cut [10] (fun v10 wc => ∃ (kq : Nat) (x10_55 : Int), v10 = .int .i64 x10_55 ∧ Aside0 (slices_partitionOrdered_byte.j6 kq x0_3 a1 x10_55 x11_3 = some (r1, r2, r3)) ∧ Aside0 (kq ≤ k3) ∧ Aside0 (Kz.R (Kd.int .u8) 5 wc w0.heap.size (fun k_ => (P0_ k_ ∨ w.heap.size ≤ k_)) (.slice (some ⟨go9, 0, none⟩) x0_3.length co13) x0_3) ∧ Aside0 (Kept w wc (fun k_ => P0_ k_)) ∧ Aside0 (Below w0.heap.size w0 wc))
                case first =>
                 have H := HC56.out;clear HC56;have H' := As H;clear H
                 go_wp2
                 go_loopg [10] k3 (fun kq v10 w' => ∃ (x10_4 : Int), v10 = .int .i64 x10_4 ∧ Aside0 (slices_partitionOrdered_byte.l3 kq x0_3 a1 x10_4 x11_3 = some (r1, r2, r3)) ∧ Aside0 (kq ≤ k3) ∧ Aside0 (Kz.R (Kd.int .u8) 5 w' w0.heap.size (fun k_ => (P0_ k_ ∨ w.heap.size ≤ k_)) (.slice (some ⟨go9, 0, none⟩) x0_3.length co13) x0_3) ∧ Aside0 (Kept w w' (fun k_ => P0_ k_)) ∧ Aside0 (Below w0.heap.size w0 w'))
                 case atStart => exact ⟨(x10_3), sw, H', ⟨Nat.le_refl _⟩, ⟨by (try simp only [hl0_10]); (try simp only [hl0_3]); (with_reducible repeat (first | apply Kz.R_alloc | apply Kz.R_drewN | apply Kz.R_drew)); exact HO_0.out⟩, ⟨by repeat (first | (with_reducible first | exact HK.out | apply Kept.alloc | apply Kept.drewN | apply Kept.drew) | exact HK.out)⟩, ⟨by repeat (first | (with_reducible first | exact HB.out | apply XA | apply XN | apply XD) | exact HB.out)⟩⟩
                 case round =>
                  clear H'
                  try clear c1
                  try clear p1
                  try clear q1
                  try clear hx1
                  try clear c2
                  try clear p2
                  try clear c3
                  try clear c4
                  try clear p4
                  try clear q4
                  try clear hx4
                  try clear hf4
                  try clear c5
                  try clear c5b0
                  try clear p5
                  try clear q5
                  try clear hx5
                  try clear hf5
                  try clear c6
                  try clear c6b0
                  try clear p6
                  try clear c7
                  try clear c7b0
                  try clear c8
                  try clear c8b0
                  try clear p9
                  try clear q9
                  try clear hx9
                  try clear hf9
                  try clear c10
                  try clear p10
                  try clear q10
                  try clear hx10
                  try clear hf10
                  try clear c11
                  try clear p14
                  try clear q14
                  try clear hx14
                  try clear p15
                  try clear q15
                  try clear hx15
                  try clear c16
                  try clear c16b0
                  try clear p16
                  try clear q16
                  try clear hx16
                  try clear c17
                  try clear c17b0
                  try clear c18
                  try clear c18b0
                  try clear c19
                  try clear c19b0
                  try clear c20
                  try clear c20b0
                  try clear c22
                  try clear c27
                  try clear c27b0
                  try clear c28
                  try clear c28b0
                  try clear c29
                  try clear c29b0
                  try clear c30
                  try clear c30b0
                  try clear c31
                  try clear c31b0
                  try clear c33
                  try clear c37
                  try clear c37b0
                  try clear c38
                  try clear c38b0
                  try clear c39
                  try clear c39b0
                  try clear c40
                  try clear c40b0
                  try clear c41
                  try clear c41b0
                  try clear p42
                  try clear q42
                  try clear hx42
                  try clear hf42
                  try clear p43
                  try clear q43
                  try clear hx43
                  try clear hf43
                  try clear c47
                  try clear c47b0
                  try clear c48
                  try clear c48b0
                  try clear c49
                  try clear c49b0
                  try clear c50
                  try clear c50b0
                  try clear p51
                  try clear q51
                  try clear hx51
                  try clear hf51
                  try clear p52
                  try clear q52
                  try clear hx52
                  try clear hf52
                  try clear hx10_0
                  try clear hx145_0
                  try clear hx146_0
                  try clear hx149_0
                  try clear hx150_0
                  try clear hx152_0
                  try clear hx153_0
                  try clear hx155_0
                  try clear hx156_0
                  try clear hx159_0
                  try clear hx160_0
                  try clear hx42_0
                  try clear hx43_0
                  try clear hx51_0
                  try clear hx52_0
                  try clear hx9_0
                  try clear p1
                  try clear p10
                  try clear p14
                  try clear p145
                  try clear p146
                  try clear p149
                  try clear p15
                  try clear p150
                  try clear p152
                  try clear p153
                  try clear p155
                  try clear p156
                  try clear p159
                  try clear p16
                  try clear p160
                  try clear p2
                  try clear p4
                  try clear p42
                  try clear p43
                  try clear p5
                  try clear p51
                  try clear p52
                  try clear p6
                  try clear p9
                  try clear q1
                  try clear q10
                  try clear q14
                  try clear q145
                  try clear q146
                  try clear q149
                  try clear q15
                  try clear q150
                  try clear q152
                  try clear q153
                  try clear q155
                  try clear q156
                  try clear q159
                  try clear q16
                  try clear q160
                  try clear q4
                  try clear q42
                  try clear q43
                  try clear q5
                  try clear q51
                  try clear q52
                  try clear q9
                  obtain ⟨x10_4, rfl, HA, HK4, HO_0, HK, HB⟩ := hrel
                  cases gk with
                  | zero => exact absurd HA.out (by simp [slices_partitionOrdered_byte.l3])
                  | succ k4 =>
                   have H := HA.out;clear HA;simp only [slices_partitionOrdered_byte.l3] at H
                   by_cases c57 : x10_4 ≤ x11_3
                   focus
                    rw [if_pos c57] at H;have c57b0 : decide (x10_4 ≤ x11_3) = true := dY c57;clear c57
                    (first | rw [c57b0] | (simp only [i64_w, i32_w]; rw [c57b0]) | skip)
                    by_cases c58 : 0 ≤ x10_4
                    rotate_left
                    ·rw [if_neg c58] at H;exact absurd H (by simp)
                    rw [if_pos c58] at H;have c58b0 : decide (0 ≤ x10_4) = true := dY c58;clear c58
                    by_cases c59 : x10_4 < (x0_3.length : Int)
                    rotate_left
                    ·rw [if_neg c59] at H;exact absurd H (by simp)
                    rw [if_pos c59] at H;have c59b0 : decide (x10_4 < (x0_3.length : Int)) = true := dY c59;clear c59
                    by_cases c60 : 0 ≤ a1
                    rotate_left
                    ·rw [if_neg c60] at H;exact absurd H (by simp)
                    rw [if_pos c60] at H;have c60b0 : decide (0 ≤ a1) = true := dY c60;clear c60
                    by_cases c61 : a1 < (x0_3.length : Int)
                    rotate_left
                    ·rw [if_neg c61] at H;exact absurd H (by simp)
                    rw [if_pos c61] at H;have c61b0 : decide (a1 < (x0_3.length : Int)) = true := dY c61;clear c61;replace H := bE H;obtain ⟨t165, A620, H⟩ := H;replace H : (if t165 = true then (slices_partitionOrdered_byte.l3 k4 x0_3 a1 (wrap64 (x10_4 + 1)) x11_3) else (slices_partitionOrdered_byte.j6 k4 x0_3 a1 x10_4 x11_3)) = some (r1, r2, r3) := H;have A62 := As A620;clear A620
                    by_cases c63 : t165 = true
                    subst c63
                    have H1 : (slices_partitionOrdered_byte.l3 k4 x0_3 a1 (wrap64 (x10_4 + 1)) x11_3) = some (r1, r2, r3) := by rw [if_pos rfl] at H; exact H
                    clear H;have H := H1;clear H1;have H' := As H;clear H
                    have m6_ := trivial
                    rotate_left
                    replace c63 := Bool.eq_false_iff.mpr c63;subst c63
                    have H1 : (slices_partitionOrdered_byte.j6 k4 x0_3 a1 x10_4 x11_3) = some (r1, r2, r3) := by rw [if_neg (show ¬ (false = true) by decide)] at H; exact H
                    clear H;have H := H1;clear H1;have H' := As H;clear H
                    have m5_ := trivial
                   rotate_left 2
                   rw [if_neg c57] at H;have c57b0 : decide (x10_4 ≤ x11_3) = false := dN c57;clear c57
                   (first | rw [c57b0] | (simp only [i64_w, i32_w]; rw [c57b0]) | skip)
                   have H' := As H;clear H
                   all_goals try go_wp2
                   all_goals try
                    first | (clear m5_; have m5_ := trivial) | (clear m6_; have m6_ := trivial)
                    replace HO_0 := As (Kz.R_drew HO_0.out);replace HK := As (Kept.drew HK.out);replace HB := As (XD HB.out);have p163 : 0 ≤ (x10_4 : Int) := dT hy;have q163 : x10_4 < (x0_3.length : Int) := dT hy;obtain ⟨ad163, e163, hx163_0⟩ := Kd.at_int (Kz.R_reads' HO_0.out).2.2 x10_4 p163 q163
                    obtain rfl : (⟨go9, 0, none⟩ : Addr) = ad163 := (by injection e163)
                    (first | simp only [add_plain] at hx163_0 | simp only [add_at] at hx163_0 | simp only [Addr.add, Nat.zero_add] at hx163_0 | skip)
                    replace p163 := eq_true p163;replace q163 := eq_true q163;have p164 : 0 ≤ (a1 : Int) := dT hy;have q164 : a1 < (x0_3.length : Int) := dT hy;obtain ⟨ad164, e164, hx164_0⟩ := Kd.at_int (Kz.R_reads' HO_0.out).2.2 a1 p164 q164
                    obtain rfl : (⟨go9, 0, none⟩ : Addr) = ad164 := (by injection e164)
                    (first | simp only [add_plain] at hx164_0 | simp only [add_at] at hx164_0 | simp only [Addr.add, Nat.zero_add] at hx164_0 | skip)
                    replace p164 := eq_true p164;replace q164 := eq_true q164;refine start_ (n := 14) (S := fun w' => w'.cell? ⟨go9, (x10_4).toNat, none⟩ = some (.int .u8 (rd x0_3 x10_4)) ∧ w'.cell? ⟨go9, (a1).toNat, none⟩ = some (.int .u8 (rd x0_3 a1))) (ds := []) (fl 0 14) kr rfl rfl ⟨hx163_0, hx164_0⟩ (fun hHeld => ?_); refine with_tabW slices_partitionOrdered_byte.tab13 slices_partitionOrdered_byte.bits13 (fun HT_ HW_ => ?_);generalize wr.drew = w65 at HO_0 HK HB hx163_0 hx164_0 hHeld ⊢;refine pure_ (i := 0) (N := some 99) (v := ?_) (a' := ?_) (fl 1 13) rfl rfl (any_of HT_.out kr) (fun _ _ _ h => h) (Or.inl ⟨by rfl, ?_⟩) ?_ ?_;rotate_left;(intro w';go_simp;with_reducible rfl);rotate_left;(simp only [Act.put,z0,z1,z2,i64_w,i32_w];rfl);refine pure_ (i := 1) (N := some 100) (v := ?_) (a' := ?_) (fl 2 12) rfl rfl (any_of HT_.out kr) (fun _ _ _ h => h) (Or.inl ⟨by rfl, ?_⟩) ?_ ?_;rotate_left;(intro w';go_simp;with_reducible rfl);rotate_left;(simp only [Act.put,z0,z1,z2,i64_w,i32_w];rfl);refine pure_ (i := 2) (N := some 101) (v := ?_) (a' := ?_) (fl 3 11) rfl rfl (any_of HT_.out kr) (fun _ _ _ h => h) (Or.inl ⟨by rfl, ?_⟩) ?_ ?_;rotate_left;(intro w';go_simp;with_reducible rfl);rotate_left;(simp only [Act.put,z0,z1,z2,i64_w,i32_w];rfl);refine pure_ (i := 3) (N := some 102) (v := ?_) (a' := ?_) (fl 4 10) rfl rfl (any_of HT_.out kr) (fun _ _ _ h => h) (Or.inl ⟨by rfl, ?_⟩) ?_ ?_;rotate_left;(intro w';go_simp;with_reducible rfl);rotate_left;(simp only [Act.put,z0,z1,z2,i64_w,i32_w];rfl);refine pure_ (i := 4) (N := some 103) (v := ?_) (a' := ?_) (fl 5 9) rfl rfl (any_of HT_.out kr) (fun _ _ _ h => h) (Or.inl ⟨by rfl, ?_⟩) ?_ ?_;rotate_left;(intro w';go_simp;with_reducible rfl);rotate_left;(simp only [Act.put,z0,z1,z2,i64_w,i32_w];rfl);refine pure_ (i := 5) (N := some 104) (v := ?_) (a' := ?_) (fl 6 8) rfl rfl (any_of HT_.out kr) (fun _ _ _ h => h) (Or.inl ⟨by rfl, ?_⟩) ?_ ?_;rotate_left;(intro w';go_simp;with_reducible rfl);rotate_left;(simp only [Act.put,z0,z1,z2,i64_w,i32_w];rfl);refine pure_ (i := 6) (N := some 105) (v := ?_) (a' := ?_) (fl 7 7) rfl rfl (any_of HT_.out kr) (fun _ _ _ h => h) (Or.inl ⟨by rfl, ?_⟩) ?_ ?_;rotate_left;(intro w';go_simp;with_reducible rfl);rotate_left;(simp only [Act.put,z0,z1,z2,i64_w,i32_w];rfl);refine pure_ (i := 8) (N := some 107) (v := ?_) (a' := ?_) #[Y,Y,Y,Y,Y,Y,Y,O,Y,O,O,O,O,O] rfl rfl (any_of HT_.out kr) (fun _ _ _ h => h) (Or.inl ⟨by rfl, ?_⟩) ?_ ?_;rotate_left;(intro w';go_simp;with_reducible rfl);rotate_left;(simp only [Act.put,z0,z1,z2,i64_w,i32_w];rfl);refine pure_ (i := 9) (N := some 108) (v := ?_) (a' := ?_) #[Y,Y,Y,Y,Y,Y,Y,O,Y,Y,O,O,O,O] rfl rfl (any_of HT_.out kr) (fun _ _ _ h => h) (Or.inl ⟨by rfl, ?_⟩) ?_ ?_;rotate_left;(intro w';go_simp;with_reducible rfl);rotate_left;(simp only [Act.put,z0,z1,z2,i64_w,i32_w];rfl);refine pure_ (i := 10) (N := some 109) (v := ?_) (a' := ?_) #[Y,Y,Y,Y,Y,Y,Y,O,Y,Y,Y,O,O,O] rfl rfl (any_of HT_.out kr) (fun _ _ _ h => h) (Or.inl ⟨by rfl, ?_⟩) ?_ ?_;rotate_left;(intro w';go_simp;with_reducible rfl);rotate_left;(simp only [Act.put,z0,z1,z2,i64_w,i32_w];rfl);refine take_ (i := 7) (N := some 106) (v := ?_) (a' := ?_) (fl 11 3) rfl rfl (take_ofW HT_.out HW_.out kr) (fun _ _ _ h => h) (Or.inl ⟨by rfl, ?_⟩) hHeld ?_ ?_;rotate_left;(rintro w' ⟨s0, s1⟩;go_simp;with_reducible rfl);rotate_left;(simp only [Act.put,z0,z1,z2,i64_w,i32_w];rfl);refine take_ (i := 11) (N := some 110) (v := ?_) (a' := ?_) (fl 12 2) rfl rfl (take_ofW HT_.out HW_.out kr) (fun _ _ _ h => h) (Or.inl ⟨by rfl, ?_⟩) hHeld ?_ ?_;rotate_left;(rintro w' ⟨s0, s1⟩;go_simp;with_reducible rfl);rotate_left;(simp only [Act.put,z0,z1,z2,i64_w,i32_w];rfl);refine one_ (i := 12) (N := some 111) (fl 13 1) rfl rfl (one_of HT_.out kr) (by decide) (fun K hK => ?_);refine goes_ Tryz.func109 kr rfl #[.int .u8 (rd x0_3 x10_4), .int .u8 (rd x0_3 a1)] (by rfl) rfl rfl sa ?_
                    with_reducible refine (cmp_Less_byte.calls (rd x0_3 x10_4) (rd x0_3 a1) _ _ A62.out).mono ?_
                    rintro e w' ⟨rfl, ⟨nd, rfl⟩⟩;refine ⟨_, rfl, ?_⟩;refine hK.out _ _ ⟨hHeld.1, hHeld.2⟩ (fun hHeld => ?_);clear hK K;refine norm_ (a' := ?_) ?_ ?_;rotate_left
                    ·show Act.put _ (some 111) _ = _
                     simp only [Act.put, z0,z1,z2,i64_w,i32_w];rfl
                    refine pure_ (i := 13) (N := some 112) (v := ?_) (a' := ?_) (fl 14 0) rfl rfl (any_of HT_.out kr) (fun _ _ _ h => h) (Or.inl ⟨by rfl, ?_⟩) ?_ ?_;rotate_left;(intro w';go_simp;with_reducible rfl);rotate_left;(simp only [Act.put,z0,z1,z2,i64_w,i32_w];rfl);refine done_ (done_of HT_.out kr) ?_
                    try go_wp2
                   ·replace HO_0 := As (Kz.R_drew HO_0.out);replace HK := As (Kept.drew HK.out);replace HB := As (XD HB.out);refine start_ (n := 14) (S := fun w' => True) (ds := []) (fl 0 14) kr rfl rfl trivial (fun hHeld => ?_); refine with_tabW slices_partitionOrdered_byte.tab13 slices_partitionOrdered_byte.bits13 (fun HT_ HW_ => ?_);generalize wr.drew = w66 at HO_0 HK HB hHeld ⊢;refine pure_ (i := 0) (N := some 99) (v := ?_) (a' := ?_) (fl 1 13) rfl rfl (any_of HT_.out kr) (fun _ _ _ h => h) (Or.inl ⟨by rfl, ?_⟩) ?_ ?_;rotate_left;(intro w';go_simp;with_reducible rfl);rotate_left;(simp only [Act.put,z0,z1,z2,i64_w,i32_w];rfl);refine pure_ (i := 1) (N := some 100) (v := ?_) (a' := ?_) (fl 2 12) rfl rfl (any_of HT_.out kr) (fun _ _ _ h => h) (Or.inl ⟨by rfl, ?_⟩) ?_ ?_;rotate_left;(intro w';go_simp;with_reducible rfl);rotate_left;(simp only [Act.put,z0,z1,z2,i64_w,i32_w];rfl);refine pure_ (i := 2) (N := some 101) (v := ?_) (a' := ?_) (fl 3 11) rfl rfl (any_of HT_.out kr) (fun _ _ _ h => h) (Or.inl ⟨by rfl, ?_⟩) ?_ ?_;rotate_left;(intro w';go_simp;with_reducible rfl);rotate_left;(simp only [Act.put,z0,z1,z2,i64_w,i32_w];rfl);refine pure_ (i := 3) (N := some 102) (v := ?_) (a' := ?_) (fl 4 10) rfl rfl (any_of HT_.out kr) (fun _ _ _ h => h) (Or.inl ⟨by rfl, ?_⟩) ?_ ?_;rotate_left;(intro w';go_simp;with_reducible rfl);rotate_left;(simp only [Act.put,z0,z1,z2,i64_w,i32_w];rfl);refine pure_ (i := 4) (N := some 103) (v := undef) (a' := ?_) (fl 5 9) rfl rfl (any_of HT_.out kr) (fun _ _ _ h => h) (Or.inr ⟨by rfl, rfl⟩) ?_ ?_;rotate_left
                    ·simp only [Act.put, z0,z1,z2,i64_w,i32_w];rfl
                    refine pure_ (i := 5) (N := some 104) (v := undef) (a' := ?_) (fl 6 8) rfl rfl (any_of HT_.out kr) (fun _ _ _ h => h) (Or.inr ⟨by rfl, rfl⟩) ?_ ?_;rotate_left
                    ·simp only [Act.put, z0,z1,z2,i64_w,i32_w];rfl
                    refine pure_ (i := 6) (N := some 105) (v := undef) (a' := ?_) (fl 7 7) rfl rfl (any_of HT_.out kr) (fun _ _ _ h => h) (Or.inr ⟨by rfl, rfl⟩) ?_ ?_;rotate_left
                    ·simp only [Act.put, z0,z1,z2,i64_w,i32_w];rfl
                    refine pure_ (i := 7) (N := some 106) (v := undef) (a' := ?_) (fl 8 6) rfl rfl (any_of HT_.out kr) (fun _ _ _ h => h) (Or.inr ⟨by rfl, rfl⟩) ?_ ?_;rotate_left
                    ·simp only [Act.put, z0,z1,z2,i64_w,i32_w];rfl
                    refine pure_ (i := 8) (N := some 107) (v := undef) (a' := ?_) (fl 9 5) rfl rfl (any_of HT_.out kr) (fun _ _ _ h => h) (Or.inr ⟨by rfl, rfl⟩) ?_ ?_;rotate_left
                    ·simp only [Act.put, z0,z1,z2,i64_w,i32_w];rfl
                    refine pure_ (i := 9) (N := some 108) (v := undef) (a' := ?_) (fl 10 4) rfl rfl (any_of HT_.out kr) (fun _ _ _ h => h) (Or.inr ⟨by rfl, rfl⟩) ?_ ?_;rotate_left
                    ·simp only [Act.put, z0,z1,z2,i64_w,i32_w];rfl
                    refine pure_ (i := 10) (N := some 109) (v := undef) (a' := ?_) (fl 11 3) rfl rfl (any_of HT_.out kr) (fun _ _ _ h => h) (Or.inr ⟨by rfl, rfl⟩) ?_ ?_;rotate_left
                    ·simp only [Act.put, z0,z1,z2,i64_w,i32_w];rfl
                    refine pure_ (i := 11) (N := some 110) (v := undef) (a' := ?_) (fl 12 2) rfl rfl (any_of HT_.out kr) (fun _ _ _ h => h) (Or.inr ⟨by rfl, rfl⟩) ?_ ?_;rotate_left
                    ·simp only [Act.put, z0,z1,z2,i64_w,i32_w];rfl
                    refine pure_ (i := 12) (N := some 111) (v := undef) (a' := ?_) (fl 13 1) rfl rfl (any_of HT_.out kr) (fun _ _ _ h => h) (Or.inr ⟨by rfl, rfl⟩) ?_ ?_;rotate_left
                    ·simp only [Act.put, z0,z1,z2,i64_w,i32_w];rfl
                    refine pure_ (i := 13) (N := some 112) (v := ?_) (a' := ?_) (fl 14 0) rfl rfl (any_of HT_.out kr) (fun _ _ _ h => h) (Or.inl ⟨by rfl, ?_⟩) ?_ ?_;rotate_left;(intro w';go_simp;with_reducible rfl);rotate_left;(simp only [Act.put,z0,z1,z2,i64_w,i32_w];rfl);refine done_ (done_of HT_.out kr) ?_
                    try go_wp2
                    go_meet
                    case rel => exact ⟨_, (x10_4), sw, H', ⟨by have := HJ10.out; have := HJ25.out; have := HK3.out; have := HK4.out; first | omega | exact Nat.le_refl _⟩, ⟨by (try simp only [hl0_10]); (try simp only [hl0_3]); (with_reducible repeat (first | apply Kz.R_alloc | apply Kz.R_drewN | apply Kz.R_drew)); exact HO_0.out⟩, ⟨by repeat (first | (with_reducible first | exact HK.out | apply Kept.alloc | apply Kept.drewN | apply Kept.drew) | exact HK.out)⟩, ⟨by repeat (first | (with_reducible first | exact HB.out | apply XA | apply XN | apply XD) | exact HB.out)⟩⟩
                   ·go_meet
                    case rel => exact ⟨_, (x10_4), sw, H', ⟨by have := HJ10.out; have := HJ25.out; have := HK3.out; have := HK4.out; first | omega | exact Nat.le_refl _⟩, ⟨by (try simp only [hl0_10]); (try simp only [hl0_3]); (with_reducible repeat (first | apply Kz.R_alloc | apply Kz.R_drewN | apply Kz.R_drew)); exact HO_0.out⟩, ⟨by repeat (first | (with_reducible first | exact HK.out | apply Kept.alloc | apply Kept.drewN | apply Kept.drew) | exact HK.out)⟩, ⟨by repeat (first | (with_reducible first | exact HB.out | apply XA | apply XN | apply XD) | exact HB.out)⟩⟩
                   ·go_roundg k4
                    case measure => have := HJ10.out; have := HJ25.out; have := HK3.out; have := HK4.out; omega
                    case rel => exact ⟨(wrap64 (x10_4 + 1)), sw, H', ⟨by have := HJ10.out; have := HJ25.out; have := HK3.out; have := HK4.out; omega⟩, ⟨by (try simp only [hl0_10]); (try simp only [hl0_3]); (with_reducible repeat (first | apply Kz.R_alloc | apply Kz.R_drewN | apply Kz.R_drew)); exact HO_0.out⟩, ⟨by repeat (first | (with_reducible first | exact HK.out | apply Kept.alloc | apply Kept.drewN | apply Kept.drew) | exact HK.out)⟩, ⟨by repeat (first | (with_reducible first | exact HB.out | apply XA | apply XN | apply XD) | exact HB.out)⟩⟩
                case rest =>
                 clear HC56
                 try clear c1
                 try clear p1
                 try clear q1
                 try clear hx1
                 try clear c2
                 try clear p2
                 try clear c3
                 try clear c4
                 try clear p4
                 try clear q4
                 try clear hx4
                 try clear hf4
                 try clear c5
                 try clear p5
                 try clear q5
                 try clear hx5
                 try clear hf5
                 try clear c6
                 try clear c6b0
                 try clear p6
                 try clear c7
                 try clear c7b0
                 try clear c8
                 try clear c8b0
                 try clear p9
                 try clear q9
                 try clear hx9
                 try clear hf9
                 try clear c10
                 try clear p10
                 try clear q10
                 try clear hx10
                 try clear hf10
                 try clear c11
                 try clear p14
                 try clear q14
                 try clear hx14
                 try clear p15
                 try clear q15
                 try clear hx15
                 try clear c16
                 try clear c16b0
                 try clear p16
                 try clear q16
                 try clear hx16
                 try clear c17
                 try clear c17b0
                 try clear c18
                 try clear c18b0
                 try clear c19
                 try clear c19b0
                 try clear c20
                 try clear c20b0
                 try clear c22
                 try clear c27
                 try clear c27b0
                 try clear c28
                 try clear c28b0
                 try clear c29
                 try clear c29b0
                 try clear c30
                 try clear c30b0
                 try clear c31
                 try clear c31b0
                 try clear c33
                 try clear c37
                 try clear c37b0
                 try clear c38
                 try clear c38b0
                 try clear c39
                 try clear c39b0
                 try clear c40
                 try clear c40b0
                 try clear c41
                 try clear c41b0
                 try clear p42
                 try clear q42
                 try clear hx42
                 try clear hf42
                 try clear p43
                 try clear q43
                 try clear hx43
                 try clear hf43
                 try clear c47
                 try clear c47b0
                 try clear c48
                 try clear c48b0
                 try clear c49
                 try clear c49b0
                 try clear c50
                 try clear c50b0
                 try clear p51
                 try clear q51
                 try clear hx51
                 try clear hf51
                 try clear p52
                 try clear q52
                 try clear hx52
                 try clear hf52
                 try clear c57
                 try clear c57b0
                 try clear c58
                 try clear c58b0
                 try clear c59
                 try clear c59b0
                 try clear c60
                 try clear c60b0
                 try clear c61
                 try clear c61b0
                 try clear c63
                 try clear p64
                 try clear hx10_0
                 try clear hx145_0
                 try clear hx146_0
                 try clear hx149_0
                 try clear hx150_0
                 try clear hx152_0
                 try clear hx153_0
                 try clear hx155_0
                 try clear hx156_0
                 try clear hx159_0
                 try clear hx160_0
                 try clear hx163_0
                 try clear hx164_0
                 try clear hx42_0
                 try clear hx43_0
                 try clear hx51_0
                 try clear hx52_0
                 try clear hx9_0
                 try clear p1
                 try clear p10
                 try clear p14
                 try clear p145
                 try clear p146
                 try clear p149
                 try clear p15
                 try clear p150
                 try clear p152
                 try clear p153
                 try clear p155
                 try clear p156
                 try clear p159
                 try clear p16
                 try clear p160
                 try clear p163
                 try clear p164
                 try clear p2
                 try clear p4
                 try clear p42
                 try clear p43
                 try clear p5
                 try clear p51
                 try clear p52
                 try clear p6
                 try clear p9
                 try clear q1
                 try clear q10
                 try clear q14
                 try clear q145
                 try clear q146
                 try clear q149
                 try clear q15
                 try clear q150
                 try clear q152
                 try clear q153
                 try clear q155
                 try clear q156
                 try clear q159
                 try clear q16
                 try clear q160
                 try clear q163
                 try clear q164
                 try clear q4
                 try clear q42
                 try clear q43
                 try clear q5
                 try clear q51
                 try clear q52
                 try clear q9
                 obtain ⟨kq, x10_55, rfl, HA, HJ55, HO_0, HK, HB⟩ := hcut
                 cases kq with
                 | zero => exact absurd HA.out (by simp [slices_partitionOrdered_byte.j6])
                 | succ kj55 =>
                  have H := HA.out;clear HA;simp only [slices_partitionOrdered_byte.j6] at H;have H' := As H;clear H
                  go_wp2
                  go_loopg [11] kj55 (fun kq v11 w' => ∃ (x11_5 : Int), v11 = .int .i64 x11_5 ∧ Aside0 (slices_partitionOrdered_byte.l4 kq x0_3 a1 x10_55 x11_5 = some (r1, r2, r3)) ∧ Aside0 (kq ≤ kj55) ∧ Aside0 (Kz.R (Kd.int .u8) 5 w' w0.heap.size (fun k_ => (P0_ k_ ∨ w.heap.size ≤ k_)) (.slice (some ⟨go9, 0, none⟩) x0_3.length co13) x0_3) ∧ Aside0 (Kept w w' (fun k_ => P0_ k_)) ∧ Aside0 (Below w0.heap.size w0 w'))
                  case atStart => exact ⟨(x11_3), sw, H', ⟨Nat.le_refl _⟩, ⟨by (try simp only [hl0_10]); (try simp only [hl0_3]); (with_reducible repeat (first | apply Kz.R_alloc | apply Kz.R_drewN | apply Kz.R_drew)); exact HO_0.out⟩, ⟨by repeat (first | (with_reducible first | exact HK.out | apply Kept.alloc | apply Kept.drewN | apply Kept.drew) | exact HK.out)⟩, ⟨by repeat (first | (with_reducible first | exact HB.out | apply XA | apply XN | apply XD) | exact HB.out)⟩⟩
                  case round =>
                   clear H'
                   try clear c1
                   try clear p1
                   try clear q1
                   try clear hx1
                   try clear c2
                   try clear p2
                   try clear c3
                   try clear c4
                   try clear p4
                   try clear q4
                   try clear hx4
                   try clear hf4
                   try clear c5
                   try clear p5
                   try clear q5
                   try clear hx5
                   try clear hf5
                   try clear c6
                   try clear c6b0
                   try clear p6
                   try clear c7
                   try clear c7b0
                   try clear c8
                   try clear c8b0
                   try clear p9
                   try clear q9
                   try clear hx9
                   try clear hf9
                   try clear c10
                   try clear p10
                   try clear q10
                   try clear hx10
                   try clear hf10
                   try clear c11
                   try clear p14
                   try clear q14
                   try clear hx14
                   try clear p15
                   try clear q15
                   try clear hx15
                   try clear c16
                   try clear c16b0
                   try clear p16
                   try clear q16
                   try clear hx16
                   try clear c17
                   try clear c17b0
                   try clear c18
                   try clear c18b0
                   try clear c19
                   try clear c19b0
                   try clear c20
                   try clear c20b0
                   try clear c22
                   try clear c27
                   try clear c27b0
                   try clear c28
                   try clear c28b0
                   try clear c29
                   try clear c29b0
                   try clear c30
                   try clear c30b0
                   try clear c31
                   try clear c31b0
                   try clear c33
                   try clear c37
                   try clear c37b0
                   try clear c38
                   try clear c38b0
                   try clear c39
                   try clear c39b0
                   try clear c40
                   try clear c40b0
                   try clear c41
                   try clear c41b0
                   try clear p42
                   try clear q42
                   try clear hx42
                   try clear hf42
                   try clear p43
                   try clear q43
                   try clear hx43
                   try clear hf43
                   try clear c47
                   try clear c47b0
                   try clear c48
                   try clear c48b0
                   try clear c49
                   try clear c49b0
                   try clear c50
                   try clear c50b0
                   try clear p51
                   try clear q51
                   try clear hx51
                   try clear hf51
                   try clear p52
                   try clear q52
                   try clear hx52
                   try clear hf52
                   try clear c57
                   try clear c57b0
                   try clear c58
                   try clear c58b0
                   try clear c59
                   try clear c59b0
                   try clear c60
                   try clear c60b0
                   try clear c61
                   try clear c61b0
                   try clear c63
                   try clear p64
                   try clear hx10_0
                   try clear hx145_0
                   try clear hx146_0
                   try clear hx149_0
                   try clear hx150_0
                   try clear hx152_0
                   try clear hx153_0
                   try clear hx155_0
                   try clear hx156_0
                   try clear hx159_0
                   try clear hx160_0
                   try clear hx163_0
                   try clear hx164_0
                   try clear hx42_0
                   try clear hx43_0
                   try clear hx51_0
                   try clear hx52_0
                   try clear hx9_0
                   try clear p1
                   try clear p10
                   try clear p14
                   try clear p145
                   try clear p146
                   try clear p149
                   try clear p15
                   try clear p150
                   try clear p152
                   try clear p153
                   try clear p155
                   try clear p156
                   try clear p159
                   try clear p16
                   try clear p160
                   try clear p163
                   try clear p164
                   try clear p2
                   try clear p4
                   try clear p42
                   try clear p43
                   try clear p5
                   try clear p51
                   try clear p52
                   try clear p6
                   try clear p64
                   try clear p9
                   try clear q1
                   try clear q10
                   try clear q14
                   try clear q145
                   try clear q146
                   try clear q149
                   try clear q15
                   try clear q150
                   try clear q152
                   try clear q153
                   try clear q155
                   try clear q156
                   try clear q159
                   try clear q16
                   try clear q160
                   try clear q163
                   try clear q164
                   try clear q4
                   try clear q42
                   try clear q43
                   try clear q5
                   try clear q51
                   try clear q52
                   try clear q9
                   obtain ⟨x11_5, rfl, HA, HK5, HO_0, HK, HB⟩ := hrel
                   cases gk with
                   | zero => exact absurd HA.out (by simp [slices_partitionOrdered_byte.l4])
                   | succ k5 =>
                    have H := HA.out;clear HA;simp only [slices_partitionOrdered_byte.l4] at H
                    by_cases c67 : x10_55 ≤ x11_5
                    focus
                     rw [if_pos c67] at H;have c67b0 : decide (x10_55 ≤ x11_5) = true := dY c67;clear c67
                     by_cases c68 : 0 ≤ x11_5
                     rotate_left
                     ·rw [if_neg c68] at H;exact absurd H (by simp)
                     rw [if_pos c68] at H;have c68b0 : decide (0 ≤ x11_5) = true := dY c68;clear c68
                     by_cases c69 : x11_5 < (x0_3.length : Int)
                     rotate_left
                     ·rw [if_neg c69] at H;exact absurd H (by simp)
                     rw [if_pos c69] at H;have c69b0 : decide (x11_5 < (x0_3.length : Int)) = true := dY c69;clear c69
                     by_cases c70 : 0 ≤ a1
                     rotate_left
                     ·rw [if_neg c70] at H;exact absurd H (by simp)
                     rw [if_pos c70] at H;have c70b0 : decide (0 ≤ a1) = true := dY c70;clear c70
                     by_cases c71 : a1 < (x0_3.length : Int)
                     rotate_left
                     ·rw [if_neg c71] at H;exact absurd H (by simp)
                     rw [if_pos c71] at H;have c71b0 : decide (a1 < (x0_3.length : Int)) = true := dY c71;clear c71;replace H := bE H;obtain ⟨t168, A720, H⟩ := H;replace H : (if t168 = true then (if x10_55 > x11_5 then (some (x11_5, false, ((x0_3.set (x11_5 : Int).toNat (rd x0_3 a1)).set (a1 : Int).toNat (rd x0_3 x11_5)))) else (if 0 ≤ x10_55 then (if x10_55 < (x0_3.length : Int) then (slices_partitionOrdered_byte.l2 k5 ((x0_3.set (x10_55 : Int).toNat (rd x0_3 x11_5)).set (x11_5 : Int).toNat (rd x0_3 x10_55)) a1 (wrap64 (x10_55 + 1)) (wrap64 (x11_5 - 1))) else (none)) else (none))) else (slices_partitionOrdered_byte.l4 k5 x0_3 a1 x10_55 (wrap64 (x11_5 - 1)))) = some (r1, r2, r3) := H;have A72 := As A720;clear A720
                     by_cases c73 : t168 = true
                     focus
                      subst c73
                      have H1 : (if x10_55 > x11_5 then (some (x11_5, false, ((x0_3.set (x11_5 : Int).toNat (rd x0_3 a1)).set (a1 : Int).toNat (rd x0_3 x11_5)))) else (if 0 ≤ x10_55 then (if x10_55 < (x0_3.length : Int) then (slices_partitionOrdered_byte.l2 k5 ((x0_3.set (x10_55 : Int).toNat (rd x0_3 x11_5)).set (x11_5 : Int).toNat (rd x0_3 x10_55)) a1 (wrap64 (x10_55 + 1)) (wrap64 (x11_5 - 1))) else (none)) else (none))) = some (r1, r2, r3) := by rw [if_pos rfl] at H; exact H
                      clear H;have H := H1;clear H1
                      by_cases c74 : x10_55 > x11_5
                      rw [if_pos c74] at H;have c74b0 : decide (x11_5 < x10_55) = true := dY c74;clear c74
                      obtain ⟨y171, hy171⟩ : ∃ y_ : List Int, y_ = (x0_3.set (x11_5 : Int).toNat (rd x0_3 a1)) := ⟨_, rfl⟩
                      replace H : (some (x11_5, false, (y171.set (a1 : Int).toNat (rd x0_3 x11_5)))) = some (r1, r2, r3) := by first | (rw [hy171]; with_reducible exact H) | (have H2_ := (Option.bind_some _ _).symm.trans H; rw [hy171]; with_reducible exact H2_) | (have H2_ := (Option.bind_some _ _).symm.trans H; with_reducible exact H2_) | with_reducible exact H | (rw [hy171]; exact H) | exact H
                      have Ny171 := As hy171;clear hy171
                      obtain ⟨y172, hy172⟩ : ∃ y_ : List Int, y_ = (y171.set (a1 : Int).toNat (rd x0_3 x11_5)) := ⟨_, rfl⟩
                      replace H : (some (x11_5, false, y172)) = some (r1, r2, r3) := by first | (rw [hy172]; with_reducible exact H) | (have H2_ := (Option.bind_some _ _).symm.trans H; rw [hy172]; with_reducible exact H2_) | (have H2_ := (Option.bind_some _ _).symm.trans H; with_reducible exact H2_) | with_reducible exact H | (rw [hy172]; exact H) | exact H
                      have Ny172 := As hy172;clear hy172;simp only [Option.some.injEq, Prod.mk.injEq] at H;obtain ⟨rfl, rfl, rfl⟩ := H
                      have m11_ := trivial
                      rotate_left
                      focus
                       rw [if_neg c74] at H;have c74b0 : decide (x11_5 < x10_55) = false := dN c74;clear c74
                       by_cases c81 : 0 ≤ x10_55
                       rotate_left
                       ·rw [if_neg c81] at H;exact absurd H (by simp)
                       rw [if_pos c81] at H;have c81b0 : decide (0 ≤ x10_55) = true := dY c81;clear c81
                       by_cases c82 : x10_55 < (x0_3.length : Int)
                       rotate_left
                       ·rw [if_neg c82] at H;exact absurd H (by simp)
                       rw [if_pos c82] at H;have c82b0 : decide (x10_55 < (x0_3.length : Int)) = true := dY c82;clear c82
                       obtain ⟨y175, hy175⟩ : ∃ y_ : List Int, y_ = (x0_3.set (x10_55 : Int).toNat (rd x0_3 x11_5)) := ⟨_, rfl⟩
                       replace H : (slices_partitionOrdered_byte.l2 k5 (y175.set (x11_5 : Int).toNat (rd x0_3 x10_55)) a1 (wrap64 (x10_55 + 1)) (wrap64 (x11_5 - 1))) = some (r1, r2, r3) := by first | (rw [hy175]; with_reducible exact H) | (have H2_ := (Option.bind_some _ _).symm.trans H; rw [hy175]; with_reducible exact H2_) | (have H2_ := (Option.bind_some _ _).symm.trans H; with_reducible exact H2_) | with_reducible exact H | (rw [hy175]; exact H) | exact H
                       have Ny175 := As hy175;clear hy175
                       obtain ⟨y176, hy176⟩ : ∃ y_ : List Int, y_ = (y175.set (x11_5 : Int).toNat (rd x0_3 x10_55)) := ⟨_, rfl⟩
                       replace H : (slices_partitionOrdered_byte.l2 k5 y176 a1 (wrap64 (x10_55 + 1)) (wrap64 (x11_5 - 1))) = some (r1, r2, r3) := by first | (rw [hy176]; with_reducible exact H) | (have H2_ := (Option.bind_some _ _).symm.trans H; rw [hy176]; with_reducible exact H2_) | (have H2_ := (Option.bind_some _ _).symm.trans H; with_reducible exact H2_) | with_reducible exact H | (rw [hy176]; exact H) | exact H
                       have Ny176 := As hy176;clear hy176;have H' := As H;clear H
                       have m10_ := trivial
                     rotate_left 2
                     replace c73 := Bool.eq_false_iff.mpr c73;subst c73
                     have H1 : (slices_partitionOrdered_byte.l4 k5 x0_3 a1 x10_55 (wrap64 (x11_5 - 1))) = some (r1, r2, r3) := by rw [if_neg (show ¬ (false = true) by decide)] at H; exact H
                     clear H;have H := H1;clear H1;have H' := As H;clear H
                     have m9_ := trivial
                    rotate_left 3
                    focus
                     rw [if_neg c67] at H;have c67b0 : decide (x10_55 ≤ x11_5) = false := dN c67;clear c67
                     by_cases c90 : x10_55 > x11_5
                     focus
                      rw [if_pos c90] at H;have c90b0 : decide (x11_5 < x10_55) = true := dY c90;clear c90
                      by_cases c91 : 0 ≤ a1
                      rotate_left
                      ·rw [if_neg c91] at H;exact absurd H (by simp)
                      rw [if_pos c91] at H;have c91b0 : decide (0 ≤ a1) = true := dY c91;clear c91
                      by_cases c92 : a1 < (x0_3.length : Int)
                      rotate_left
                      ·rw [if_neg c92] at H;exact absurd H (by simp)
                      rw [if_pos c92] at H;have c92b0 : decide (a1 < (x0_3.length : Int)) = true := dY c92;clear c92
                      by_cases c93 : 0 ≤ x11_5
                      rotate_left
                      ·rw [if_neg c93] at H;exact absurd H (by simp)
                      rw [if_pos c93] at H;have c93b0 : decide (0 ≤ x11_5) = true := dY c93;clear c93
                      by_cases c94 : x11_5 < (x0_3.length : Int)
                      rotate_left
                      ·rw [if_neg c94] at H;exact absurd H (by simp)
                      rw [if_pos c94] at H;have c94b0 : decide (x11_5 < (x0_3.length : Int)) = true := dY c94;clear c94
                      obtain ⟨y179, hy179⟩ : ∃ y_ : List Int, y_ = (x0_3.set (x11_5 : Int).toNat (rd x0_3 a1)) := ⟨_, rfl⟩
                      replace H : (some (x11_5, false, (y179.set (a1 : Int).toNat (rd x0_3 x11_5)))) = some (r1, r2, r3) := by first | (rw [hy179]; with_reducible exact H) | (have H2_ := (Option.bind_some _ _).symm.trans H; rw [hy179]; with_reducible exact H2_) | (have H2_ := (Option.bind_some _ _).symm.trans H; with_reducible exact H2_) | with_reducible exact H | (rw [hy179]; exact H) | exact H
                      have Ny179 := As hy179;clear hy179
                      obtain ⟨y180, hy180⟩ : ∃ y_ : List Int, y_ = (y179.set (a1 : Int).toNat (rd x0_3 x11_5)) := ⟨_, rfl⟩
                      replace H : (some (x11_5, false, y180)) = some (r1, r2, r3) := by first | (rw [hy180]; with_reducible exact H) | (have H2_ := (Option.bind_some _ _).symm.trans H; rw [hy180]; with_reducible exact H2_) | (have H2_ := (Option.bind_some _ _).symm.trans H; with_reducible exact H2_) | with_reducible exact H | (rw [hy180]; exact H) | exact H
                      have Ny180 := As hy180;clear hy180;simp only [Option.some.injEq, Prod.mk.injEq] at H;obtain ⟨rfl, rfl, rfl⟩ := H
                      have m8_ := trivial
                     rotate_left
                     focus
                      rw [if_neg c90] at H;have c90b0 : decide (x11_5 < x10_55) = false := dN c90;clear c90
                      by_cases c101 : 0 ≤ x11_5
                      rotate_left
                      ·rw [if_neg c101] at H;exact absurd H (by simp)
                      rw [if_pos c101] at H;have c101b0 : decide (0 ≤ x11_5) = true := dY c101;clear c101
                      by_cases c102 : x11_5 < (x0_3.length : Int)
                      rotate_left
                      ·rw [if_neg c102] at H;exact absurd H (by simp)
                      rw [if_pos c102] at H;have c102b0 : decide (x11_5 < (x0_3.length : Int)) = true := dY c102;clear c102
                      by_cases c103 : 0 ≤ x10_55
                      rotate_left
                      ·rw [if_neg c103] at H;exact absurd H (by simp)
                      rw [if_pos c103] at H;have c103b0 : decide (0 ≤ x10_55) = true := dY c103;clear c103
                      by_cases c104 : x10_55 < (x0_3.length : Int)
                      rotate_left
                      ·rw [if_neg c104] at H;exact absurd H (by simp)
                      rw [if_pos c104] at H;have c104b0 : decide (x10_55 < (x0_3.length : Int)) = true := dY c104;clear c104
                      obtain ⟨y183, hy183⟩ : ∃ y_ : List Int, y_ = (x0_3.set (x10_55 : Int).toNat (rd x0_3 x11_5)) := ⟨_, rfl⟩
                      replace H : (slices_partitionOrdered_byte.l2 k5 (y183.set (x11_5 : Int).toNat (rd x0_3 x10_55)) a1 (wrap64 (x10_55 + 1)) (wrap64 (x11_5 - 1))) = some (r1, r2, r3) := by first | (rw [hy183]; with_reducible exact H) | (have H2_ := (Option.bind_some _ _).symm.trans H; rw [hy183]; with_reducible exact H2_) | (have H2_ := (Option.bind_some _ _).symm.trans H; with_reducible exact H2_) | with_reducible exact H | (rw [hy183]; exact H) | exact H
                      have Ny183 := As hy183;clear hy183
                      obtain ⟨y184, hy184⟩ : ∃ y_ : List Int, y_ = (y183.set (x11_5 : Int).toNat (rd x0_3 x10_55)) := ⟨_, rfl⟩
                      replace H : (slices_partitionOrdered_byte.l2 k5 y184 a1 (wrap64 (x10_55 + 1)) (wrap64 (x11_5 - 1))) = some (r1, r2, r3) := by first | (rw [hy184]; with_reducible exact H) | (have H2_ := (Option.bind_some _ _).symm.trans H; rw [hy184]; with_reducible exact H2_) | (have H2_ := (Option.bind_some _ _).symm.trans H; with_reducible exact H2_) | with_reducible exact H | (rw [hy184]; exact H) | exact H
                      have Ny184 := As hy184;clear hy184;have H' := As H;clear H
                      have m7_ := trivial
                    all_goals try go_wp2
                    all_goals try
                     first | (clear m7_; have m7_ := trivial) | (clear m8_; have m8_ := trivial)
                     replace HO_0 := As (Kz.R_drew HO_0.out);replace HK := As (Kept.drew HK.out);replace HB := As (XD HB.out);refine start_ (n := 15) (S := fun w' => True) (ds := []) (fl 0 15) kr rfl rfl trivial (fun hHeld => ?_); refine with_tabW slices_partitionOrdered_byte.tab15 slices_partitionOrdered_byte.bits15 (fun HT_ HW_ => ?_);generalize wr.drew = w107 at HO_0 HK HB hHeld ⊢;refine pure_ (i := 0) (N := some 115) (v := ?_) (a' := ?_) (fl 1 14) rfl rfl (any_of HT_.out kr) (fun _ _ _ h => h) (Or.inl ⟨by rfl, ?_⟩) ?_ ?_;rotate_left;(intro w';go_simp;with_reducible rfl);rotate_left;(simp only [Act.put,z0,z1,z2,i64_w,i32_w];rfl);refine pure_ (i := 1) (N := some 116) (v := ?_) (a' := ?_) (fl 2 13) rfl rfl (any_of HT_.out kr) (fun _ _ _ h => h) (Or.inl ⟨by rfl, ?_⟩) ?_ ?_;rotate_left;(intro w';go_simp;with_reducible rfl);rotate_left;(simp only [Act.put,z0,z1,z2,i64_w,i32_w];rfl);refine pure_ (i := 2) (N := some 117) (v := ?_) (a' := ?_) (fl 3 12) rfl rfl (any_of HT_.out kr) (fun _ _ _ h => h) (Or.inl ⟨by rfl, ?_⟩) ?_ ?_;rotate_left;(intro w';go_simp;with_reducible rfl);rotate_left;(simp only [Act.put,z0,z1,z2,i64_w,i32_w];rfl);refine pure_ (i := 3) (N := some 118) (v := ?_) (a' := ?_) (fl 4 11) rfl rfl (any_of HT_.out kr) (fun _ _ _ h => h) (Or.inl ⟨by rfl, ?_⟩) ?_ ?_;rotate_left;(intro w';go_simp;with_reducible rfl);rotate_left;(simp only [Act.put,z0,z1,z2,i64_w,i32_w];rfl);refine pure_ (i := 4) (N := some 119) (v := undef) (a' := ?_) (fl 5 10) rfl rfl (any_of HT_.out kr) (fun _ _ _ h => h) (Or.inr ⟨by rfl, rfl⟩) ?_ ?_;rotate_left
                     ·simp only [Act.put, z0,z1,z2,i64_w,i32_w];rfl
                     refine pure_ (i := 5) (N := some 120) (v := undef) (a' := ?_) (fl 6 9) rfl rfl (any_of HT_.out kr) (fun _ _ _ h => h) (Or.inr ⟨by rfl, rfl⟩) ?_ ?_;rotate_left
                     ·simp only [Act.put, z0,z1,z2,i64_w,i32_w];rfl
                     refine pure_ (i := 6) (N := some 121) (v := undef) (a' := ?_) (fl 7 8) rfl rfl (any_of HT_.out kr) (fun _ _ _ h => h) (Or.inr ⟨by rfl, rfl⟩) ?_ ?_;rotate_left
                     ·simp only [Act.put, z0,z1,z2,i64_w,i32_w];rfl
                     refine pure_ (i := 7) (N := some 122) (v := undef) (a' := ?_) (fl 8 7) rfl rfl (any_of HT_.out kr) (fun _ _ _ h => h) (Or.inr ⟨by rfl, rfl⟩) ?_ ?_;rotate_left
                     ·simp only [Act.put, z0,z1,z2,i64_w,i32_w];rfl
                     refine pure_ (i := 8) (N := some 123) (v := undef) (a' := ?_) (fl 9 6) rfl rfl (any_of HT_.out kr) (fun _ _ _ h => h) (Or.inr ⟨by rfl, rfl⟩) ?_ ?_;rotate_left
                     ·simp only [Act.put, z0,z1,z2,i64_w,i32_w];rfl
                     refine pure_ (i := 9) (N := some 124) (v := undef) (a' := ?_) (fl 10 5) rfl rfl (any_of HT_.out kr) (fun _ _ _ h => h) (Or.inr ⟨by rfl, rfl⟩) ?_ ?_;rotate_left
                     ·simp only [Act.put, z0,z1,z2,i64_w,i32_w];rfl
                     refine pure_ (i := 10) (N := some 125) (v := undef) (a' := ?_) (fl 11 4) rfl rfl (any_of HT_.out kr) (fun _ _ _ h => h) (Or.inr ⟨by rfl, rfl⟩) ?_ ?_;rotate_left
                     ·simp only [Act.put, z0,z1,z2,i64_w,i32_w];rfl
                     refine pure_ (i := 11) (N := some 126) (v := undef) (a' := ?_) (fl 12 3) rfl rfl (any_of HT_.out kr) (fun _ _ _ h => h) (Or.inr ⟨by rfl, rfl⟩) ?_ ?_;rotate_left
                     ·simp only [Act.put, z0,z1,z2,i64_w,i32_w];rfl
                     refine pure_ (i := 12) (N := some 127) (v := undef) (a' := ?_) (fl 13 2) rfl rfl (any_of HT_.out kr) (fun _ _ _ h => h) (Or.inr ⟨by rfl, rfl⟩) ?_ ?_;rotate_left
                     ·simp only [Act.put, z0,z1,z2,i64_w,i32_w];rfl
                     refine pure_ (i := 13) (N := some 128) (v := undef) (a' := ?_) (fl 14 1) rfl rfl (any_of HT_.out kr) (fun _ _ _ h => h) (Or.inr ⟨by rfl, rfl⟩) ?_ ?_;rotate_left
                     ·simp only [Act.put, z0,z1,z2,i64_w,i32_w];rfl
                     refine pure_ (i := 14) (N := some 129) (v := ?_) (a' := ?_) (fl 15 0) rfl rfl (any_of HT_.out kr) (fun _ _ _ h => h) (Or.inl ⟨by rfl, ?_⟩) ?_ ?_;rotate_left;(intro w';go_simp;with_reducible rfl);rotate_left;(simp only [Act.put,z0,z1,z2,i64_w,i32_w];rfl);refine done_ (done_of HT_.out kr) ?_
                     try go_wp2
                    all_goals try
                     first | (clear m9_; have m9_ := trivial) | (clear m10_; have m10_ := trivial) | (clear m11_; have m11_ := trivial)
                     replace HO_0 := As (Kz.R_drew HO_0.out);replace HK := As (Kept.drew HK.out);replace HB := As (XD HB.out);have p166 : 0 ≤ (x11_5 : Int) := dT hy;have q166 : x11_5 < (x0_3.length : Int) := dT hy;obtain ⟨ad166, e166, hx166_0⟩ := Kd.at_int (Kz.R_reads' HO_0.out).2.2 x11_5 p166 q166
                     obtain rfl : (⟨go9, 0, none⟩ : Addr) = ad166 := (by injection e166)
                     (first | simp only [add_plain] at hx166_0 | simp only [add_at] at hx166_0 | simp only [Addr.add, Nat.zero_add] at hx166_0 | skip)
                     replace p166 := eq_true p166;replace q166 := eq_true q166;have p167 : 0 ≤ (a1 : Int) := dT hy;have q167 : a1 < (x0_3.length : Int) := dT hy;obtain ⟨ad167, e167, hx167_0⟩ := Kd.at_int (Kz.R_reads' HO_0.out).2.2 a1 p167 q167
                     obtain rfl : (⟨go9, 0, none⟩ : Addr) = ad167 := (by injection e167)
                     (first | simp only [add_plain] at hx167_0 | simp only [add_at] at hx167_0 | simp only [Addr.add, Nat.zero_add] at hx167_0 | skip)
                     replace p167 := eq_true p167;replace q167 := eq_true q167;refine start_ (n := 15) (S := fun w' => w'.cell? ⟨go9, (x11_5).toNat, none⟩ = some (.int .u8 (rd x0_3 x11_5)) ∧ w'.cell? ⟨go9, (a1).toNat, none⟩ = some (.int .u8 (rd x0_3 a1))) (ds := []) (fl 0 15) kr rfl rfl ⟨hx166_0, hx167_0⟩ (fun hHeld => ?_); refine with_tabW slices_partitionOrdered_byte.tab15 slices_partitionOrdered_byte.bits15 (fun HT_ HW_ => ?_);generalize wr.drew = w89 at HO_0 HK HB hx166_0 hx167_0 hHeld ⊢;refine pure_ (i := 0) (N := some 115) (v := ?_) (a' := ?_) (fl 1 14) rfl rfl (any_of HT_.out kr) (fun _ _ _ h => h) (Or.inl ⟨by rfl, ?_⟩) ?_ ?_;rotate_left;(intro w';go_simp;with_reducible rfl);rotate_left;(simp only [Act.put,z0,z1,z2,i64_w,i32_w];rfl);refine pure_ (i := 1) (N := some 116) (v := ?_) (a' := ?_) (fl 2 13) rfl rfl (any_of HT_.out kr) (fun _ _ _ h => h) (Or.inl ⟨by rfl, ?_⟩) ?_ ?_;rotate_left;(intro w';go_simp;with_reducible rfl);rotate_left;(simp only [Act.put,z0,z1,z2,i64_w,i32_w];rfl);refine pure_ (i := 2) (N := some 117) (v := ?_) (a' := ?_) (fl 3 12) rfl rfl (any_of HT_.out kr) (fun _ _ _ h => h) (Or.inl ⟨by rfl, ?_⟩) ?_ ?_;rotate_left;(intro w';go_simp;with_reducible rfl);rotate_left;(simp only [Act.put,z0,z1,z2,i64_w,i32_w];rfl);refine pure_ (i := 3) (N := some 118) (v := ?_) (a' := ?_) (fl 4 11) rfl rfl (any_of HT_.out kr) (fun _ _ _ h => h) (Or.inl ⟨by rfl, ?_⟩) ?_ ?_;rotate_left;(intro w';go_simp;with_reducible rfl);rotate_left;(simp only [Act.put,z0,z1,z2,i64_w,i32_w];rfl);refine pure_ (i := 4) (N := some 119) (v := ?_) (a' := ?_) (fl 5 10) rfl rfl (any_of HT_.out kr) (fun _ _ _ h => h) (Or.inl ⟨by rfl, ?_⟩) ?_ ?_;rotate_left;(intro w';go_simp;with_reducible rfl);rotate_left;(simp only [Act.put,z0,z1,z2,i64_w,i32_w];rfl);refine pure_ (i := 5) (N := some 120) (v := ?_) (a' := ?_) (fl 6 9) rfl rfl (any_of HT_.out kr) (fun _ _ _ h => h) (Or.inl ⟨by rfl, ?_⟩) ?_ ?_;rotate_left;(intro w';go_simp;with_reducible rfl);rotate_left;(simp only [Act.put,z0,z1,z2,i64_w,i32_w];rfl);refine pure_ (i := 6) (N := some 121) (v := ?_) (a' := ?_) (fl 7 8) rfl rfl (any_of HT_.out kr) (fun _ _ _ h => h) (Or.inl ⟨by rfl, ?_⟩) ?_ ?_;rotate_left;(intro w';go_simp;with_reducible rfl);rotate_left;(simp only [Act.put,z0,z1,z2,i64_w,i32_w];rfl);refine pure_ (i := 8) (N := some 123) (v := ?_) (a' := ?_) #[Y,Y,Y,Y,Y,Y,Y,O,Y,O,O,O,O,O,O] rfl rfl (any_of HT_.out kr) (fun _ _ _ h => h) (Or.inl ⟨by rfl, ?_⟩) ?_ ?_;rotate_left;(intro w';go_simp;with_reducible rfl);rotate_left;(simp only [Act.put,z0,z1,z2,i64_w,i32_w];rfl);refine pure_ (i := 9) (N := some 124) (v := ?_) (a' := ?_) #[Y,Y,Y,Y,Y,Y,Y,O,Y,Y,O,O,O,O,O] rfl rfl (any_of HT_.out kr) (fun _ _ _ h => h) (Or.inl ⟨by rfl, ?_⟩) ?_ ?_;rotate_left;(intro w';go_simp;with_reducible rfl);rotate_left;(simp only [Act.put,z0,z1,z2,i64_w,i32_w];rfl);refine pure_ (i := 10) (N := some 125) (v := ?_) (a' := ?_) #[Y,Y,Y,Y,Y,Y,Y,O,Y,Y,Y,O,O,O,O] rfl rfl (any_of HT_.out kr) (fun _ _ _ h => h) (Or.inl ⟨by rfl, ?_⟩) ?_ ?_;rotate_left;(intro w';go_simp;with_reducible rfl);rotate_left;(simp only [Act.put,z0,z1,z2,i64_w,i32_w];rfl);refine take_ (i := 7) (N := some 122) (v := ?_) (a' := ?_) (fl 11 4) rfl rfl (take_ofW HT_.out HW_.out kr) (fun _ _ _ h => h) (Or.inl ⟨by rfl, ?_⟩) hHeld ?_ ?_;rotate_left;(rintro w' ⟨s0, s1⟩;go_simp;with_reducible rfl);rotate_left;(simp only [Act.put,z0,z1,z2,i64_w,i32_w];rfl);refine take_ (i := 11) (N := some 126) (v := ?_) (a' := ?_) (fl 12 3) rfl rfl (take_ofW HT_.out HW_.out kr) (fun _ _ _ h => h) (Or.inl ⟨by rfl, ?_⟩) hHeld ?_ ?_;rotate_left;(rintro w' ⟨s0, s1⟩;go_simp;with_reducible rfl);rotate_left;(simp only [Act.put,z0,z1,z2,i64_w,i32_w];rfl);refine one_ (i := 12) (N := some 127) (fl 13 2) rfl rfl (one_of HT_.out kr) (by decide) (fun K hK => ?_);refine goes_ Tryz.func109 kr rfl #[.int .u8 (rd x0_3 x11_5), .int .u8 (rd x0_3 a1)] (by rfl) rfl rfl sa ?_
                     with_reducible refine (cmp_Less_byte.calls (rd x0_3 x11_5) (rd x0_3 a1) _ _ A72.out).mono ?_
                     rintro e w' ⟨rfl, ⟨nd, rfl⟩⟩;refine ⟨_, rfl, ?_⟩;refine hK.out _ _ ⟨hHeld.1, hHeld.2⟩ (fun hHeld => ?_);clear hK K;refine norm_ (a' := ?_) ?_ ?_;rotate_left
                     ·show Act.put _ (some 127) _ = _
                      simp only [Act.put, z0,z1,z2,i64_w,i32_w];rfl
                     refine pure_ (i := 13) (N := some 128) (v := ?_) (a' := ?_) (fl 14 1) rfl rfl (any_of HT_.out kr) (fun _ _ _ h => h) (Or.inl ⟨by rfl, ?_⟩) ?_ ?_;rotate_left;(intro w';go_simp;with_reducible rfl);rotate_left;(simp only [Act.put,z0,z1,z2,i64_w,i32_w];rfl);refine pure_ (i := 14) (N := some 129) (v := ?_) (a' := ?_) (fl 15 0) rfl rfl (any_of HT_.out kr) (fun _ _ _ h => h) (Or.inl ⟨by rfl, ?_⟩) ?_ ?_;rotate_left;(intro w';go_simp;with_reducible rfl);rotate_left;(simp only [Act.put,z0,z1,z2,i64_w,i32_w];rfl);refine done_ (done_of HT_.out kr) ?_
                     try go_wp2
                    all_goals try
                     first | (clear m10_; have m10_ := trivial) | (clear m11_; have m11_ := trivial)
                     (try (rw [drewN_self w89]; generalize hq_ : World.drewN w89 _ = w89; have n0_ : Aside0 (Kz.R (Kd.int .u8) 5 w89 w0.heap.size (fun k_ => (P0_ k_ ∨ w.heap.size ≤ k_)) (.slice (some ⟨go9, 0, none⟩) x0_3.length co13) x0_3) := ⟨by rw [← hq_]; exact (by (with_reducible repeat (first | apply Kz.R_alloc | apply Kz.R_drewN | apply Kz.R_drew)); exact HO_0.out)⟩; have n1_ : Aside0 (Kept w w89 (fun k_ => P0_ k_)) := ⟨by rw [← hq_]; exact (by repeat (first | (with_reducible first | exact HK.out | apply Kept.alloc | apply Kept.drewN | apply Kept.drew) | exact HK.out))⟩; have n2_ : Aside0 (Below w0.heap.size w0 w89) := ⟨by rw [← hq_]; exact (be HB.out)⟩; clear HO_0 HK HB hq_; have HO_0 := n0_; have HK := n1_; have HB := n2_; clear n0_ n1_ n2_))
                    ·replace HO_0 := As (Kz.R_drew HO_0.out);replace HK := As (Kept.drew HK.out);replace HB := As (XD HB.out);have p181 : 0 ≤ (x11_5 : Int) := dT hy;have q181 : x11_5 < (x0_3.length : Int) := dT hy;obtain ⟨ad181, e181, hx181_0⟩ := Kd.at_int (Kz.R_reads' HO_0.out).2.2 x11_5 p181 q181
                     obtain rfl : (⟨go9, 0, none⟩ : Addr) = ad181 := (by injection e181)
                     (first | simp only [add_plain] at hx181_0 | simp only [add_at] at hx181_0 | simp only [Addr.add, Nat.zero_add] at hx181_0 | skip)
                     replace p181 := eq_true p181;replace q181 := eq_true q181;have p182 : 0 ≤ (x10_55 : Int) := dT hy;have q182 : x10_55 < (x0_3.length : Int) := dT hy;obtain ⟨ad182, e182, hx182_0⟩ := Kd.at_int (Kz.R_reads' HO_0.out).2.2 x10_55 p182 q182
                     obtain rfl : (⟨go9, 0, none⟩ : Addr) = ad182 := (by injection e182)
                     (first | simp only [add_plain] at hx182_0 | simp only [add_at] at hx182_0 | simp only [Addr.add, Nat.zero_add] at hx182_0 | skip)
                     replace p182 := eq_true p182;replace q182 := eq_true q182;have p105 : 0 ≤ (x10_55 : Int) := dT hy;have q105 : (x10_55 : Int) < ((x0_3.length : Int) : Int) := dT hy;obtain ⟨hx105_0, hf105_0⟩ := Kz.R_celln 0 HO_0.out (x10_55 : Int) p105 q105;replace p105 := eq_true p105;replace q105 := eq_true q105;have HP109 := Kz.R_putn HO_0.out (x10_55 : Int) (rd x0_3 x11_5);rw [← Ny183.out] at HP109;have HQ109 := As HP109;clear HP109;have p106 : 0 ≤ (x11_5 : Int) := dT hy;have q106 : (x11_5 : Int) < ((x0_3.length : Int) : Int) := dT hy;obtain ⟨hx106_0, hf106_0⟩ := Kz.R_celln 0 HQ109.out (x11_5 : Int) p106 q106;replace p106 := eq_true p106;replace q106 := eq_true q106;have HP110 := Kz.R_putn HQ109.out (x11_5 : Int) (rd x0_3 x10_55);rw [← Ny184.out] at HP110;have HQ110 := As HP110;clear HP110;refine start_ (n := 16) (S := fun w' => w'.cell? ⟨go9, (x11_5).toNat, none⟩ = some (.int .u8 (rd x0_3 x11_5)) ∧ w'.cell? ⟨go9, (x10_55).toNat, none⟩ = some (.int .u8 (rd x0_3 x10_55))) (ds := [13, 15]) (fl 0 16) kr rfl rfl ⟨hx181_0, hx182_0⟩ (fun hHeld => ?_); refine with_tabW slices_partitionOrdered_byte.tab18 slices_partitionOrdered_byte.bits18 (fun HT_ HW_ => ?_);generalize w107.drew = w108 at HO_0 HK HB HQ109 HQ110 hf105_0 hf106_0 hx105_0 hx106_0 hx181_0 hx182_0 hHeld ⊢;refine pure_ (i := 0) (N := some 135) (v := ?_) (a' := ?_) (fl 1 15) rfl rfl (any_of HT_.out kr) (fun _ _ _ h => h) (Or.inl ⟨by rfl, ?_⟩) ?_ ?_;rotate_left;(intro w';go_simp;with_reducible rfl);rotate_left;(simp only [Act.put,z0,z1,z2,i64_w,i32_w];rfl);refine pure_ (i := 1) (N := some 136) (v := ?_) (a' := ?_) (fl 2 14) rfl rfl (any_of HT_.out kr) (fun _ _ _ h => h) (Or.inl ⟨by rfl, ?_⟩) ?_ ?_;rotate_left;(intro w';go_simp;with_reducible rfl);rotate_left;(simp only [Act.put,z0,z1,z2,i64_w,i32_w];rfl);refine pure_ (i := 2) (N := some 137) (v := ?_) (a' := ?_) (fl 3 13) rfl rfl (any_of HT_.out kr) (fun _ _ _ h => h) (Or.inl ⟨by rfl, ?_⟩) ?_ ?_;rotate_left;(intro w';go_simp;with_reducible rfl);rotate_left;(simp only [Act.put,z0,z1,z2,i64_w,i32_w];rfl);refine pure_ (i := 3) (N := some 138) (v := ?_) (a' := ?_) (fl 4 12) rfl rfl (any_of HT_.out kr) (fun _ _ _ h => h) (Or.inl ⟨by rfl, ?_⟩) ?_ ?_;rotate_left;(intro w';go_simp;with_reducible rfl);rotate_left;(simp only [Act.put,z0,z1,z2,i64_w,i32_w];rfl);refine pure_ (i := 4) (N := some 139) (v := ?_) (a' := ?_) (fl 5 11) rfl rfl (any_of HT_.out kr) (fun _ _ _ h => h) (Or.inl ⟨by rfl, ?_⟩) ?_ ?_;rotate_left;(intro w';go_simp;with_reducible rfl);rotate_left;(simp only [Act.put,z0,z1,z2,i64_w,i32_w];rfl);refine pure_ (i := 5) (N := some 140) (v := ?_) (a' := ?_) (fl 6 10) rfl rfl (any_of HT_.out kr) (fun _ _ _ h => h) (Or.inl ⟨by rfl, ?_⟩) ?_ ?_;rotate_left;(intro w';go_simp;with_reducible rfl);rotate_left;(simp only [Act.put,z0,z1,z2,i64_w,i32_w];rfl);refine pure_ (i := 6) (N := some 141) (v := ?_) (a' := ?_) (fl 7 9) rfl rfl (any_of HT_.out kr) (fun _ _ _ h => h) (Or.inl ⟨by rfl, ?_⟩) ?_ ?_;rotate_left;(intro w';go_simp;with_reducible rfl);rotate_left;(simp only [Act.put,z0,z1,z2,i64_w,i32_w];rfl);refine pure_ (i := 8) (N := some 143) (v := ?_) (a' := ?_) #[Y,Y,Y,Y,Y,Y,Y,O,Y,O,O,O,O,O,O,O] rfl rfl (any_of HT_.out kr) (fun _ _ _ h => h) (Or.inl ⟨by rfl, ?_⟩) ?_ ?_;rotate_left;(intro w';go_simp;with_reducible rfl);rotate_left;(simp only [Act.put,z0,z1,z2,i64_w,i32_w];rfl);refine pure_ (i := 9) (N := some 144) (v := ?_) (a' := ?_) #[Y,Y,Y,Y,Y,Y,Y,O,Y,Y,O,O,O,O,O,O] rfl rfl (any_of HT_.out kr) (fun _ _ _ h => h) (Or.inl ⟨by rfl, ?_⟩) ?_ ?_;rotate_left;(intro w';go_simp;with_reducible rfl);rotate_left;(simp only [Act.put,z0,z1,z2,i64_w,i32_w];rfl);refine pure_ (i := 10) (N := some 145) (v := ?_) (a' := ?_) #[Y,Y,Y,Y,Y,Y,Y,O,Y,Y,Y,O,O,O,O,O] rfl rfl (any_of HT_.out kr) (fun _ _ _ h => h) (Or.inl ⟨by rfl, ?_⟩) ?_ ?_;rotate_left;(intro w';go_simp;with_reducible rfl);rotate_left;(simp only [Act.put,z0,z1,z2,i64_w,i32_w];rfl);refine take_ (i := 7) (N := some 142) (v := ?_) (a' := ?_) (fl 11 5) rfl rfl (take_ofW HT_.out HW_.out kr) (fun _ _ _ h => h) (Or.inl ⟨by rfl, ?_⟩) hHeld ?_ ?_;rotate_left;(rintro w' ⟨s0, s1⟩;go_simp;with_reducible rfl);rotate_left;(simp only [Act.put,z0,z1,z2,i64_w,i32_w];rfl);refine take_ (i := 11) (N := some 146) (v := ?_) (a' := ?_) (fl 12 4) rfl rfl (take_ofW HT_.out HW_.out kr) (fun _ _ _ h => h) (Or.inl ⟨by rfl, ?_⟩) hHeld ?_ ?_;rotate_left;(rintro w' ⟨s0, s1⟩;go_simp;with_reducible rfl);rotate_left;(simp only [Act.put,z0,z1,z2,i64_w,i32_w];rfl);refine pure_ (i := 12) (N := some 147) (v := ?_) (a' := ?_) (fl 13 3) rfl rfl (any_of HT_.out kr) (fun _ _ _ h => h) (Or.inl ⟨by rfl, ?_⟩) ?_ ?_;rotate_left;(intro w';go_simp;with_reducible rfl);rotate_left;(simp only [Act.put,z0,z1,z2,i64_w,i32_w];rfl);refine last_ (i := 13) (N := none) (fl 14 2) rfl rfl (one_of HT_.out kr) (by decide) (fun K hK => ?_);refine skip_ (w1 := ?_) (by rfl) rfl ?_ ?_;rotate_left
                     ·go_simp;rfl
                     refine hK.out _ _ ?_;clear hK K;refine pure_ (i := 14) (N := some 148) (v := ?_) (a' := ?_) (fl 15 1) rfl rfl (any_of HT_.out kr) (fun _ _ _ h => h) (Or.inl ⟨by rfl, ?_⟩) ?_ ?_;rotate_left;(intro w';go_simp;with_reducible rfl);rotate_left;(simp only [Act.put,z0,z1,z2,i64_w,i32_w];rfl);refine last_ (i := 15) (N := none) (fl 16 0) rfl rfl (one_of HT_.out kr) (by decide) (fun K hK => ?_);refine skip_ (w1 := ?_) (by rfl) rfl ?_ ?_;rotate_left
                     ·go_simp;rfl
                     refine hK.out _ _ ?_;clear hK K;refine done_ (done_of HT_.out kr) ?_
                     try go_wp2
                     (try simp only [← hl0_3])
                     go_roundg k5
                     case measure => have := HJ10.out; have := HJ25.out; have := HK3.out; have := HJ55.out; have := HK5.out; omega
                     case rel => exact ⟨(y184), (wrap64 (x10_55 + 1)), (wrap64 (x11_5 - 1)), sw, sw, H', ⟨by have := HJ10.out; have := HJ25.out; have := HK3.out; have := HJ55.out; have := HK5.out; omega⟩, ⟨by (try simp only [hl0_10]); (try simp only [hl0_3]); (with_reducible repeat (first | apply Kz.R_alloc | apply Kz.R_drewN | apply Kz.R_drew)); exact HQ110.out⟩, ⟨by repeat (first | (with_reducible first | exact HK.out | apply Kept.alloc | apply Kept.drewN | apply Kept.drew | refine Kept.setCell ?_ HMgo9.out _ | refine Kept.setCell ?_ HMgo9.out _) | exact HK.out)⟩, ⟨by repeat (first | (with_reducible first | exact HB.out | apply XA | apply XN | apply XD | refine XS ?_ GB9.out | refine XS ?_ GB9.out) | exact HB.out)⟩⟩
                    ·replace HO_0 := As (Kz.R_drew HO_0.out);replace HK := As (Kept.drew HK.out);replace HB := As (XD HB.out);have p177 : 0 ≤ (a1 : Int) := dT hy;have q177 : a1 < (x0_3.length : Int) := dT hy;obtain ⟨ad177, e177, hx177_0⟩ := Kd.at_int (Kz.R_reads' HO_0.out).2.2 a1 p177 q177
                     obtain rfl : (⟨go9, 0, none⟩ : Addr) = ad177 := (by injection e177)
                     (first | simp only [add_plain] at hx177_0 | simp only [add_at] at hx177_0 | simp only [Addr.add, Nat.zero_add] at hx177_0 | skip)
                     replace p177 := eq_true p177;replace q177 := eq_true q177;have p178 : 0 ≤ (x11_5 : Int) := dT hy;have q178 : x11_5 < (x0_3.length : Int) := dT hy;obtain ⟨ad178, e178, hx178_0⟩ := Kd.at_int (Kz.R_reads' HO_0.out).2.2 x11_5 p178 q178
                     obtain rfl : (⟨go9, 0, none⟩ : Addr) = ad178 := (by injection e178)
                     (first | simp only [add_plain] at hx178_0 | simp only [add_at] at hx178_0 | simp only [Addr.add, Nat.zero_add] at hx178_0 | skip)
                     replace p178 := eq_true p178;replace q178 := eq_true q178;have p95 : 0 ≤ (x11_5 : Int) := dT hy;have q95 : (x11_5 : Int) < ((x0_3.length : Int) : Int) := dT hy;obtain ⟨hx95_0, hf95_0⟩ := Kz.R_celln 0 HO_0.out (x11_5 : Int) p95 q95;replace p95 := eq_true p95;replace q95 := eq_true q95;have HP99 := Kz.R_putn HO_0.out (x11_5 : Int) (rd x0_3 a1);rw [← Ny179.out] at HP99;have HQ99 := As HP99;clear HP99;have p96 : 0 ≤ (a1 : Int) := dT hy;have q96 : (a1 : Int) < ((x0_3.length : Int) : Int) := dT hy;obtain ⟨hx96_0, hf96_0⟩ := Kz.R_celln 0 HQ99.out (a1 : Int) p96 q96;replace p96 := eq_true p96;replace q96 := eq_true q96;have HP100 := Kz.R_putn HQ99.out (a1 : Int) (rd x0_3 x11_5);rw [← Ny180.out] at HP100;have HQ100 := As HP100;clear HP100;refine start_ (n := 16) (S := fun w' => w'.cell? ⟨go9, (a1).toNat, none⟩ = some (.int .u8 (rd x0_3 a1)) ∧ w'.cell? ⟨go9, (x11_5).toNat, none⟩ = some (.int .u8 (rd x0_3 x11_5))) (ds := [13, 15]) (fl 0 16) kr rfl rfl ⟨hx177_0, hx178_0⟩ (fun hHeld => ?_); refine with_tabW slices_partitionOrdered_byte.tab21 slices_partitionOrdered_byte.bits21 (fun HT_ HW_ => ?_);generalize w107.drew = w98 at HO_0 HK HB HQ100 HQ99 hf95_0 hf96_0 hx177_0 hx178_0 hx95_0 hx96_0 hHeld ⊢;refine pure_ (i := 0) (N := some 153) (v := ?_) (a' := ?_) (fl 1 15) rfl rfl (any_of HT_.out kr) (fun _ _ _ h => h) (Or.inl ⟨by rfl, ?_⟩) ?_ ?_;rotate_left;(intro w';go_simp;with_reducible rfl);rotate_left;(simp only [Act.put,z0,z1,z2,i64_w,i32_w];rfl);refine pure_ (i := 1) (N := some 154) (v := ?_) (a' := ?_) (fl 2 14) rfl rfl (any_of HT_.out kr) (fun _ _ _ h => h) (Or.inl ⟨by rfl, ?_⟩) ?_ ?_;rotate_left;(intro w';go_simp;with_reducible rfl);rotate_left;(simp only [Act.put,z0,z1,z2,i64_w,i32_w];rfl);refine pure_ (i := 2) (N := some 155) (v := ?_) (a' := ?_) (fl 3 13) rfl rfl (any_of HT_.out kr) (fun _ _ _ h => h) (Or.inl ⟨by rfl, ?_⟩) ?_ ?_;rotate_left;(intro w';go_simp;with_reducible rfl);rotate_left;(simp only [Act.put,z0,z1,z2,i64_w,i32_w];rfl);refine pure_ (i := 3) (N := some 156) (v := ?_) (a' := ?_) (fl 4 12) rfl rfl (any_of HT_.out kr) (fun _ _ _ h => h) (Or.inl ⟨by rfl, ?_⟩) ?_ ?_;rotate_left;(intro w';go_simp;with_reducible rfl);rotate_left;(simp only [Act.put,z0,z1,z2,i64_w,i32_w];rfl);refine pure_ (i := 4) (N := some 157) (v := ?_) (a' := ?_) (fl 5 11) rfl rfl (any_of HT_.out kr) (fun _ _ _ h => h) (Or.inl ⟨by rfl, ?_⟩) ?_ ?_;rotate_left;(intro w';go_simp;with_reducible rfl);rotate_left;(simp only [Act.put,z0,z1,z2,i64_w,i32_w];rfl);refine pure_ (i := 5) (N := some 158) (v := ?_) (a' := ?_) (fl 6 10) rfl rfl (any_of HT_.out kr) (fun _ _ _ h => h) (Or.inl ⟨by rfl, ?_⟩) ?_ ?_;rotate_left;(intro w';go_simp;with_reducible rfl);rotate_left;(simp only [Act.put,z0,z1,z2,i64_w,i32_w];rfl);refine pure_ (i := 6) (N := some 159) (v := ?_) (a' := ?_) (fl 7 9) rfl rfl (any_of HT_.out kr) (fun _ _ _ h => h) (Or.inl ⟨by rfl, ?_⟩) ?_ ?_;rotate_left;(intro w';go_simp;with_reducible rfl);rotate_left;(simp only [Act.put,z0,z1,z2,i64_w,i32_w];rfl);refine pure_ (i := 8) (N := some 161) (v := ?_) (a' := ?_) #[Y,Y,Y,Y,Y,Y,Y,O,Y,O,O,O,O,O,O,O] rfl rfl (any_of HT_.out kr) (fun _ _ _ h => h) (Or.inl ⟨by rfl, ?_⟩) ?_ ?_;rotate_left;(intro w';go_simp;with_reducible rfl);rotate_left;(simp only [Act.put,z0,z1,z2,i64_w,i32_w];rfl);refine pure_ (i := 9) (N := some 162) (v := ?_) (a' := ?_) #[Y,Y,Y,Y,Y,Y,Y,O,Y,Y,O,O,O,O,O,O] rfl rfl (any_of HT_.out kr) (fun _ _ _ h => h) (Or.inl ⟨by rfl, ?_⟩) ?_ ?_;rotate_left;(intro w';go_simp;with_reducible rfl);rotate_left;(simp only [Act.put,z0,z1,z2,i64_w,i32_w];rfl);refine pure_ (i := 10) (N := some 163) (v := ?_) (a' := ?_) #[Y,Y,Y,Y,Y,Y,Y,O,Y,Y,Y,O,O,O,O,O] rfl rfl (any_of HT_.out kr) (fun _ _ _ h => h) (Or.inl ⟨by rfl, ?_⟩) ?_ ?_;rotate_left;(intro w';go_simp;with_reducible rfl);rotate_left;(simp only [Act.put,z0,z1,z2,i64_w,i32_w];rfl);refine take_ (i := 7) (N := some 160) (v := ?_) (a' := ?_) (fl 11 5) rfl rfl (take_ofW HT_.out HW_.out kr) (fun _ _ _ h => h) (Or.inl ⟨by rfl, ?_⟩) hHeld ?_ ?_;rotate_left;(rintro w' ⟨s0, s1⟩;go_simp;with_reducible rfl);rotate_left;(simp only [Act.put,z0,z1,z2,i64_w,i32_w];rfl);refine take_ (i := 11) (N := some 164) (v := ?_) (a' := ?_) (fl 12 4) rfl rfl (take_ofW HT_.out HW_.out kr) (fun _ _ _ h => h) (Or.inl ⟨by rfl, ?_⟩) hHeld ?_ ?_;rotate_left;(rintro w' ⟨s0, s1⟩;go_simp;with_reducible rfl);rotate_left;(simp only [Act.put,z0,z1,z2,i64_w,i32_w];rfl);refine pure_ (i := 12) (N := some 165) (v := ?_) (a' := ?_) (fl 13 3) rfl rfl (any_of HT_.out kr) (fun _ _ _ h => h) (Or.inl ⟨by rfl, ?_⟩) ?_ ?_;rotate_left;(intro w';go_simp;with_reducible rfl);rotate_left;(simp only [Act.put,z0,z1,z2,i64_w,i32_w];rfl);refine last_ (i := 13) (N := none) (fl 14 2) rfl rfl (one_of HT_.out kr) (by decide) (fun K hK => ?_);refine skip_ (w1 := ?_) (by rfl) rfl ?_ ?_;rotate_left
                     ·go_simp;rfl
                     refine hK.out _ _ ?_;clear hK K;refine pure_ (i := 14) (N := some 166) (v := ?_) (a' := ?_) (fl 15 1) rfl rfl (any_of HT_.out kr) (fun _ _ _ h => h) (Or.inl ⟨by rfl, ?_⟩) ?_ ?_;rotate_left;(intro w';go_simp;with_reducible rfl);rotate_left;(simp only [Act.put,z0,z1,z2,i64_w,i32_w];rfl);refine last_ (i := 15) (N := none) (fl 16 0) rfl rfl (one_of HT_.out kr) (by decide) (fun K hK => ?_);refine skip_ (w1 := ?_) (by rfl) rfl ?_ ?_;rotate_left
                     ·go_simp;rfl
                     refine hK.out _ _ ?_;clear hK K;refine done_ (done_of HT_.out kr) ?_
                     try go_wp2
                     go_ret2
                     exact ⟨by first | rfl | (simp [errW_none, errW_some] <;> rfl) | (simp [*, errW_none, errW_some] <;> rfl), (by first | exact (by (with_reducible repeat (first | apply Kz.R_alloc | apply Kz.R_drewN | apply Kz.R_drew)); exact HQ100.out) | (simp only [hl0_10, hl0_3]; exact (by (with_reducible repeat (first | apply Kz.R_alloc | apply Kz.R_drewN | apply Kz.R_drew)); exact HQ100.out))), by repeat (first | (with_reducible first | exact HB.out | apply XA | apply XN | apply XD | refine XS ?_ GB9.out | refine XS ?_ GB9.out) | exact HB.out), by repeat (first | (with_reducible first | exact HK.out | apply Kept.alloc | apply Kept.drewN | apply Kept.drew | refine Kept.setCell ?_ HMgo9.out _ | refine Kept.setCell ?_ HMgo9.out _) | exact HK.out)⟩
                    ·go_roundg k5
                     case measure => have := HJ10.out; have := HJ25.out; have := HK3.out; have := HJ55.out; have := HK5.out; omega
                     case rel => exact ⟨(wrap64 (x11_5 - 1)), sw, H', ⟨by have := HJ10.out; have := HJ25.out; have := HK3.out; have := HJ55.out; have := HK5.out; omega⟩, ⟨by (try simp only [hl0_10]); (try simp only [hl0_3]); (with_reducible repeat (first | apply Kz.R_alloc | apply Kz.R_drewN | apply Kz.R_drew)); exact HO_0.out⟩, ⟨by repeat (first | (with_reducible first | exact HK.out | apply Kept.alloc | apply Kept.drewN | apply Kept.drew) | exact HK.out)⟩, ⟨by repeat (first | (with_reducible first | exact HB.out | apply XA | apply XN | apply XD) | exact HB.out)⟩⟩
                    ·replace HO_0 := As (Kz.R_drew HO_0.out);replace HK := As (Kept.drew HK.out);replace HB := As (XD HB.out);have p173 : 0 ≤ (x11_5 : Int) := dT hy;have q173 : x11_5 < (x0_3.length : Int) := dT hy;obtain ⟨ad173, e173, hx173_0⟩ := Kd.at_int (Kz.R_reads' HO_0.out).2.2 x11_5 p173 q173
                     obtain rfl : (⟨go9, 0, none⟩ : Addr) = ad173 := (by injection e173)
                     (first | simp only [add_plain] at hx173_0 | simp only [add_at] at hx173_0 | simp only [Addr.add, Nat.zero_add] at hx173_0 | skip)
                     replace p173 := eq_true p173;replace q173 := eq_true q173;have p174 : 0 ≤ (x10_55 : Int) := dT hy;have q174 : x10_55 < (x0_3.length : Int) := dT hy;obtain ⟨ad174, e174, hx174_0⟩ := Kd.at_int (Kz.R_reads' HO_0.out).2.2 x10_55 p174 q174
                     obtain rfl : (⟨go9, 0, none⟩ : Addr) = ad174 := (by injection e174)
                     (first | simp only [add_plain] at hx174_0 | simp only [add_at] at hx174_0 | simp only [Addr.add, Nat.zero_add] at hx174_0 | skip)
                     replace p174 := eq_true p174;replace q174 := eq_true q174;have p83 : 0 ≤ (x10_55 : Int) := dT hy;have q83 : (x10_55 : Int) < ((x0_3.length : Int) : Int) := dT hy;obtain ⟨hx83_0, hf83_0⟩ := Kz.R_celln 0 HO_0.out (x10_55 : Int) p83 q83;replace p83 := eq_true p83;replace q83 := eq_true q83;have HP87 := Kz.R_putn HO_0.out (x10_55 : Int) (rd x0_3 x11_5);rw [← Ny175.out] at HP87;have HQ87 := As HP87;clear HP87;have p84 : 0 ≤ (x11_5 : Int) := dT hy;have q84 : (x11_5 : Int) < ((x0_3.length : Int) : Int) := dT hy;obtain ⟨hx84_0, hf84_0⟩ := Kz.R_celln 0 HQ87.out (x11_5 : Int) p84 q84;replace p84 := eq_true p84;replace q84 := eq_true q84;have HP88 := Kz.R_putn HQ87.out (x11_5 : Int) (rd x0_3 x10_55);rw [← Ny176.out] at HP88;have HQ88 := As HP88;clear HP88;refine start_ (n := 16) (S := fun w' => w'.cell? ⟨go9, (x11_5).toNat, none⟩ = some (.int .u8 (rd x0_3 x11_5)) ∧ w'.cell? ⟨go9, (x10_55).toNat, none⟩ = some (.int .u8 (rd x0_3 x10_55))) (ds := [13, 15]) (fl 0 16) kr rfl rfl ⟨hx173_0, hx174_0⟩ (fun hHeld => ?_); refine with_tabW slices_partitionOrdered_byte.tab18 slices_partitionOrdered_byte.bits18 (fun HT_ HW_ => ?_);generalize w89.drew = w86 at HO_0 HK HB HQ87 HQ88 hf83_0 hf84_0 hx173_0 hx174_0 hx83_0 hx84_0 hHeld ⊢;refine pure_ (i := 0) (N := some 135) (v := ?_) (a' := ?_) (fl 1 15) rfl rfl (any_of HT_.out kr) (fun _ _ _ h => h) (Or.inl ⟨by rfl, ?_⟩) ?_ ?_;rotate_left;(intro w';go_simp;with_reducible rfl);rotate_left;(simp only [Act.put,z0,z1,z2,i64_w,i32_w];rfl);refine pure_ (i := 1) (N := some 136) (v := ?_) (a' := ?_) (fl 2 14) rfl rfl (any_of HT_.out kr) (fun _ _ _ h => h) (Or.inl ⟨by rfl, ?_⟩) ?_ ?_;rotate_left;(intro w';go_simp;with_reducible rfl);rotate_left;(simp only [Act.put,z0,z1,z2,i64_w,i32_w];rfl);refine pure_ (i := 2) (N := some 137) (v := ?_) (a' := ?_) (fl 3 13) rfl rfl (any_of HT_.out kr) (fun _ _ _ h => h) (Or.inl ⟨by rfl, ?_⟩) ?_ ?_;rotate_left;(intro w';go_simp;with_reducible rfl);rotate_left;(simp only [Act.put,z0,z1,z2,i64_w,i32_w];rfl);refine pure_ (i := 3) (N := some 138) (v := ?_) (a' := ?_) (fl 4 12) rfl rfl (any_of HT_.out kr) (fun _ _ _ h => h) (Or.inl ⟨by rfl, ?_⟩) ?_ ?_;rotate_left;(intro w';go_simp;with_reducible rfl);rotate_left;(simp only [Act.put,z0,z1,z2,i64_w,i32_w];rfl);refine pure_ (i := 4) (N := some 139) (v := ?_) (a' := ?_) (fl 5 11) rfl rfl (any_of HT_.out kr) (fun _ _ _ h => h) (Or.inl ⟨by rfl, ?_⟩) ?_ ?_;rotate_left;(intro w';go_simp;with_reducible rfl);rotate_left;(simp only [Act.put,z0,z1,z2,i64_w,i32_w];rfl);refine pure_ (i := 5) (N := some 140) (v := ?_) (a' := ?_) (fl 6 10) rfl rfl (any_of HT_.out kr) (fun _ _ _ h => h) (Or.inl ⟨by rfl, ?_⟩) ?_ ?_;rotate_left;(intro w';go_simp;with_reducible rfl);rotate_left;(simp only [Act.put,z0,z1,z2,i64_w,i32_w];rfl);refine pure_ (i := 6) (N := some 141) (v := ?_) (a' := ?_) (fl 7 9) rfl rfl (any_of HT_.out kr) (fun _ _ _ h => h) (Or.inl ⟨by rfl, ?_⟩) ?_ ?_;rotate_left;(intro w';go_simp;with_reducible rfl);rotate_left;(simp only [Act.put,z0,z1,z2,i64_w,i32_w];rfl);refine pure_ (i := 8) (N := some 143) (v := ?_) (a' := ?_) #[Y,Y,Y,Y,Y,Y,Y,O,Y,O,O,O,O,O,O,O] rfl rfl (any_of HT_.out kr) (fun _ _ _ h => h) (Or.inl ⟨by rfl, ?_⟩) ?_ ?_;rotate_left;(intro w';go_simp;with_reducible rfl);rotate_left;(simp only [Act.put,z0,z1,z2,i64_w,i32_w];rfl);refine pure_ (i := 9) (N := some 144) (v := ?_) (a' := ?_) #[Y,Y,Y,Y,Y,Y,Y,O,Y,Y,O,O,O,O,O,O] rfl rfl (any_of HT_.out kr) (fun _ _ _ h => h) (Or.inl ⟨by rfl, ?_⟩) ?_ ?_;rotate_left;(intro w';go_simp;with_reducible rfl);rotate_left;(simp only [Act.put,z0,z1,z2,i64_w,i32_w];rfl);refine pure_ (i := 10) (N := some 145) (v := ?_) (a' := ?_) #[Y,Y,Y,Y,Y,Y,Y,O,Y,Y,Y,O,O,O,O,O] rfl rfl (any_of HT_.out kr) (fun _ _ _ h => h) (Or.inl ⟨by rfl, ?_⟩) ?_ ?_;rotate_left;(intro w';go_simp;with_reducible rfl);rotate_left;(simp only [Act.put,z0,z1,z2,i64_w,i32_w];rfl);refine take_ (i := 7) (N := some 142) (v := ?_) (a' := ?_) (fl 11 5) rfl rfl (take_ofW HT_.out HW_.out kr) (fun _ _ _ h => h) (Or.inl ⟨by rfl, ?_⟩) hHeld ?_ ?_;rotate_left;(rintro w' ⟨s0, s1⟩;go_simp;with_reducible rfl);rotate_left;(simp only [Act.put,z0,z1,z2,i64_w,i32_w];rfl);refine take_ (i := 11) (N := some 146) (v := ?_) (a' := ?_) (fl 12 4) rfl rfl (take_ofW HT_.out HW_.out kr) (fun _ _ _ h => h) (Or.inl ⟨by rfl, ?_⟩) hHeld ?_ ?_;rotate_left;(rintro w' ⟨s0, s1⟩;go_simp;with_reducible rfl);rotate_left;(simp only [Act.put,z0,z1,z2,i64_w,i32_w];rfl);refine pure_ (i := 12) (N := some 147) (v := ?_) (a' := ?_) (fl 13 3) rfl rfl (any_of HT_.out kr) (fun _ _ _ h => h) (Or.inl ⟨by rfl, ?_⟩) ?_ ?_;rotate_left;(intro w';go_simp;with_reducible rfl);rotate_left;(simp only [Act.put,z0,z1,z2,i64_w,i32_w];rfl);refine last_ (i := 13) (N := none) (fl 14 2) rfl rfl (one_of HT_.out kr) (by decide) (fun K hK => ?_);refine skip_ (w1 := ?_) (by rfl) rfl ?_ ?_;rotate_left
                     ·go_simp;rfl
                     refine hK.out _ _ ?_;clear hK K;refine pure_ (i := 14) (N := some 148) (v := ?_) (a' := ?_) (fl 15 1) rfl rfl (any_of HT_.out kr) (fun _ _ _ h => h) (Or.inl ⟨by rfl, ?_⟩) ?_ ?_;rotate_left;(intro w';go_simp;with_reducible rfl);rotate_left;(simp only [Act.put,z0,z1,z2,i64_w,i32_w];rfl);refine last_ (i := 15) (N := none) (fl 16 0) rfl rfl (one_of HT_.out kr) (by decide) (fun K hK => ?_);refine skip_ (w1 := ?_) (by rfl) rfl ?_ ?_;rotate_left
                     ·go_simp;rfl
                     refine hK.out _ _ ?_;clear hK K;refine done_ (done_of HT_.out kr) ?_
                     try go_wp2
                     (try simp only [← hl0_3])
                     go_roundg k5
                     case measure => have := HJ10.out; have := HJ25.out; have := HK3.out; have := HJ55.out; have := HK5.out; omega
                     case rel => exact ⟨(y176), (wrap64 (x10_55 + 1)), (wrap64 (x11_5 - 1)), sw, sw, H', ⟨by have := HJ10.out; have := HJ25.out; have := HK3.out; have := HJ55.out; have := HK5.out; omega⟩, ⟨by (try simp only [hl0_10]); (try simp only [hl0_3]); (with_reducible repeat (first | apply Kz.R_alloc | apply Kz.R_drewN | apply Kz.R_drew)); exact HQ88.out⟩, ⟨by repeat (first | (with_reducible first | exact HK.out | apply Kept.alloc | apply Kept.drewN | apply Kept.drew | refine Kept.setCell ?_ HMgo9.out _ | refine Kept.setCell ?_ HMgo9.out _) | exact HK.out)⟩, ⟨by repeat (first | (with_reducible first | exact HB.out | apply XA | apply XN | apply XD | refine XS ?_ GB9.out | refine XS ?_ GB9.out) | exact HB.out)⟩⟩
                    ·replace HO_0 := As (Kz.R_drew HO_0.out);replace HK := As (Kept.drew HK.out);replace HB := As (XD HB.out);have p169 : 0 ≤ (a1 : Int) := dT hy;have q169 : a1 < (x0_3.length : Int) := dT hy;obtain ⟨ad169, e169, hx169_0⟩ := Kd.at_int (Kz.R_reads' HO_0.out).2.2 a1 p169 q169
                     obtain rfl : (⟨go9, 0, none⟩ : Addr) = ad169 := (by injection e169)
                     (first | simp only [add_plain] at hx169_0 | simp only [add_at] at hx169_0 | simp only [Addr.add, Nat.zero_add] at hx169_0 | skip)
                     replace p169 := eq_true p169;replace q169 := eq_true q169;have p170 : 0 ≤ (x11_5 : Int) := dT hy;have q170 : x11_5 < (x0_3.length : Int) := dT hy;obtain ⟨ad170, e170, hx170_0⟩ := Kd.at_int (Kz.R_reads' HO_0.out).2.2 x11_5 p170 q170
                     obtain rfl : (⟨go9, 0, none⟩ : Addr) = ad170 := (by injection e170)
                     (first | simp only [add_plain] at hx170_0 | simp only [add_at] at hx170_0 | simp only [Addr.add, Nat.zero_add] at hx170_0 | skip)
                     replace p170 := eq_true p170;replace q170 := eq_true q170;have p75 : 0 ≤ (x11_5 : Int) := dT hy;have q75 : (x11_5 : Int) < ((x0_3.length : Int) : Int) := dT hy;obtain ⟨hx75_0, hf75_0⟩ := Kz.R_celln 0 HO_0.out (x11_5 : Int) p75 q75;replace p75 := eq_true p75;replace q75 := eq_true q75;have HP79 := Kz.R_putn HO_0.out (x11_5 : Int) (rd x0_3 a1);rw [← Ny171.out] at HP79;have HQ79 := As HP79;clear HP79;have p76 : 0 ≤ (a1 : Int) := dT hy;have q76 : (a1 : Int) < ((x0_3.length : Int) : Int) := dT hy;obtain ⟨hx76_0, hf76_0⟩ := Kz.R_celln 0 HQ79.out (a1 : Int) p76 q76;replace p76 := eq_true p76;replace q76 := eq_true q76;have HP80 := Kz.R_putn HQ79.out (a1 : Int) (rd x0_3 x11_5);rw [← Ny172.out] at HP80;have HQ80 := As HP80;clear HP80;refine start_ (n := 16) (S := fun w' => w'.cell? ⟨go9, (a1).toNat, none⟩ = some (.int .u8 (rd x0_3 a1)) ∧ w'.cell? ⟨go9, (x11_5).toNat, none⟩ = some (.int .u8 (rd x0_3 x11_5))) (ds := [13, 15]) (fl 0 16) kr rfl rfl ⟨hx169_0, hx170_0⟩ (fun hHeld => ?_); refine with_tabW slices_partitionOrdered_byte.tab21 slices_partitionOrdered_byte.bits21 (fun HT_ HW_ => ?_);generalize w89.drew = w78 at HO_0 HK HB HQ79 HQ80 hf75_0 hf76_0 hx169_0 hx170_0 hx75_0 hx76_0 hHeld ⊢;refine pure_ (i := 0) (N := some 153) (v := ?_) (a' := ?_) (fl 1 15) rfl rfl (any_of HT_.out kr) (fun _ _ _ h => h) (Or.inl ⟨by rfl, ?_⟩) ?_ ?_;rotate_left;(intro w';go_simp;with_reducible rfl);rotate_left;(simp only [Act.put,z0,z1,z2,i64_w,i32_w];rfl);refine pure_ (i := 1) (N := some 154) (v := ?_) (a' := ?_) (fl 2 14) rfl rfl (any_of HT_.out kr) (fun _ _ _ h => h) (Or.inl ⟨by rfl, ?_⟩) ?_ ?_;rotate_left;(intro w';go_simp;with_reducible rfl);rotate_left;(simp only [Act.put,z0,z1,z2,i64_w,i32_w];rfl);refine pure_ (i := 2) (N := some 155) (v := ?_) (a' := ?_) (fl 3 13) rfl rfl (any_of HT_.out kr) (fun _ _ _ h => h) (Or.inl ⟨by rfl, ?_⟩) ?_ ?_;rotate_left;(intro w';go_simp;with_reducible rfl);rotate_left;(simp only [Act.put,z0,z1,z2,i64_w,i32_w];rfl);refine pure_ (i := 3) (N := some 156) (v := ?_) (a' := ?_) (fl 4 12) rfl rfl (any_of HT_.out kr) (fun _ _ _ h => h) (Or.inl ⟨by rfl, ?_⟩) ?_ ?_;rotate_left;(intro w';go_simp;with_reducible rfl);rotate_left;(simp only [Act.put,z0,z1,z2,i64_w,i32_w];rfl);refine pure_ (i := 4) (N := some 157) (v := ?_) (a' := ?_) (fl 5 11) rfl rfl (any_of HT_.out kr) (fun _ _ _ h => h) (Or.inl ⟨by rfl, ?_⟩) ?_ ?_;rotate_left;(intro w';go_simp;with_reducible rfl);rotate_left;(simp only [Act.put,z0,z1,z2,i64_w,i32_w];rfl);refine pure_ (i := 5) (N := some 158) (v := ?_) (a' := ?_) (fl 6 10) rfl rfl (any_of HT_.out kr) (fun _ _ _ h => h) (Or.inl ⟨by rfl, ?_⟩) ?_ ?_;rotate_left;(intro w';go_simp;with_reducible rfl);rotate_left;(simp only [Act.put,z0,z1,z2,i64_w,i32_w];rfl);refine pure_ (i := 6) (N := some 159) (v := ?_) (a' := ?_) (fl 7 9) rfl rfl (any_of HT_.out kr) (fun _ _ _ h => h) (Or.inl ⟨by rfl, ?_⟩) ?_ ?_;rotate_left;(intro w';go_simp;with_reducible rfl);rotate_left;(simp only [Act.put,z0,z1,z2,i64_w,i32_w];rfl);refine pure_ (i := 8) (N := some 161) (v := ?_) (a' := ?_) #[Y,Y,Y,Y,Y,Y,Y,O,Y,O,O,O,O,O,O,O] rfl rfl (any_of HT_.out kr) (fun _ _ _ h => h) (Or.inl ⟨by rfl, ?_⟩) ?_ ?_;rotate_left;(intro w';go_simp;with_reducible rfl);rotate_left;(simp only [Act.put,z0,z1,z2,i64_w,i32_w];rfl);refine pure_ (i := 9) (N := some 162) (v := ?_) (a' := ?_) #[Y,Y,Y,Y,Y,Y,Y,O,Y,Y,O,O,O,O,O,O] rfl rfl (any_of HT_.out kr) (fun _ _ _ h => h) (Or.inl ⟨by rfl, ?_⟩) ?_ ?_;rotate_left;(intro w';go_simp;with_reducible rfl);rotate_left;(simp only [Act.put,z0,z1,z2,i64_w,i32_w];rfl);refine pure_ (i := 10) (N := some 163) (v := ?_) (a' := ?_) #[Y,Y,Y,Y,Y,Y,Y,O,Y,Y,Y,O,O,O,O,O] rfl rfl (any_of HT_.out kr) (fun _ _ _ h => h) (Or.inl ⟨by rfl, ?_⟩) ?_ ?_;rotate_left;(intro w';go_simp;with_reducible rfl);rotate_left;(simp only [Act.put,z0,z1,z2,i64_w,i32_w];rfl);refine take_ (i := 7) (N := some 160) (v := ?_) (a' := ?_) (fl 11 5) rfl rfl (take_ofW HT_.out HW_.out kr) (fun _ _ _ h => h) (Or.inl ⟨by rfl, ?_⟩) hHeld ?_ ?_;rotate_left;(rintro w' ⟨s0, s1⟩;go_simp;with_reducible rfl);rotate_left;(simp only [Act.put,z0,z1,z2,i64_w,i32_w];rfl);refine take_ (i := 11) (N := some 164) (v := ?_) (a' := ?_) (fl 12 4) rfl rfl (take_ofW HT_.out HW_.out kr) (fun _ _ _ h => h) (Or.inl ⟨by rfl, ?_⟩) hHeld ?_ ?_;rotate_left;(rintro w' ⟨s0, s1⟩;go_simp;with_reducible rfl);rotate_left;(simp only [Act.put,z0,z1,z2,i64_w,i32_w];rfl);refine pure_ (i := 12) (N := some 165) (v := ?_) (a' := ?_) (fl 13 3) rfl rfl (any_of HT_.out kr) (fun _ _ _ h => h) (Or.inl ⟨by rfl, ?_⟩) ?_ ?_;rotate_left;(intro w';go_simp;with_reducible rfl);rotate_left;(simp only [Act.put,z0,z1,z2,i64_w,i32_w];rfl);refine last_ (i := 13) (N := none) (fl 14 2) rfl rfl (one_of HT_.out kr) (by decide) (fun K hK => ?_);refine skip_ (w1 := ?_) (by rfl) rfl ?_ ?_;rotate_left
                     ·go_simp;rfl
                     refine hK.out _ _ ?_;clear hK K;refine pure_ (i := 14) (N := some 166) (v := ?_) (a' := ?_) (fl 15 1) rfl rfl (any_of HT_.out kr) (fun _ _ _ h => h) (Or.inl ⟨by rfl, ?_⟩) ?_ ?_;rotate_left;(intro w';go_simp;with_reducible rfl);rotate_left;(simp only [Act.put,z0,z1,z2,i64_w,i32_w];rfl);refine last_ (i := 15) (N := none) (fl 16 0) rfl rfl (one_of HT_.out kr) (by decide) (fun K hK => ?_);refine skip_ (w1 := ?_) (by rfl) rfl ?_ ?_;rotate_left
                     ·go_simp;rfl
                     refine hK.out _ _ ?_;clear hK K;refine done_ (done_of HT_.out kr) ?_
                     try go_wp2
                     go_ret2
                     exact ⟨by first | rfl | (simp [errW_none, errW_some] <;> rfl) | (simp [*, errW_none, errW_some] <;> rfl), (by first | exact (by (with_reducible repeat (first | apply Kz.R_alloc | apply Kz.R_drewN | apply Kz.R_drew)); exact HQ80.out) | (simp only [hl0_10, hl0_3]; exact (by (with_reducible repeat (first | apply Kz.R_alloc | apply Kz.R_drewN | apply Kz.R_drew)); exact HQ80.out))), by repeat (first | (with_reducible first | exact HB.out | apply XA | apply XN | apply XD | refine XS ?_ GB9.out | refine XS ?_ GB9.out) | exact HB.out), by repeat (first | (with_reducible first | exact HK.out | apply Kept.alloc | apply Kept.drewN | apply Kept.drew | refine Kept.setCell ?_ HMgo9.out _ | refine Kept.setCell ?_ HMgo9.out _) | exact HK.out)⟩
             ·rw [if_neg c50] at H;exact absurd H (by simp)
            ·rw [if_neg c49] at H;exact absurd H (by simp)
           ·rw [if_neg c48] at H;exact absurd H (by simp)
          ·rw [if_neg c47] at H;exact absurd H (by simp)
    ·rw [if_neg c8] at H;exact absurd H (by simp)
   ·rw [if_neg c7] at H;exact absurd H (by simp)
  ·rw [if_neg c6] at H;exact absurd H (by simp)
 ·rw [if_neg c5] at H;exact absurd H (by simp)

end Go.Proofs.YtahjnjlkpbjfnaaGreatDoor.P
-- SHRUNK
-- PACKED
-- PACKED2
