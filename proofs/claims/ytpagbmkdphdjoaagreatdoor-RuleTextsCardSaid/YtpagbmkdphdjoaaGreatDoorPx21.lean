-- written by myprint.py (this claim's own program, after the kit's print)
import Derived.Test.YtpagbmkdphdjoaaGreatDoorPx0
import Derived.Test.YtpagbmkdphdjoaaGreatDoorPx6
import Derived.Test.YtpagbmkdphdjoaaGreatDoorPx19
import Derived.Test.YtpagbmkdphdjoaaGreatDoorPx20
import Derived.Test.YtpagbmkdphdjoaaGreatDoorPack
namespace Go.Proofs.YtpagbmkdphdjoaaGreatDoor.P
open Go.RowKit Go.Proofs.YtpagbmkdphdjoaaGreatDoorW.PrintWords Go.Proofs.YtpagbmkdphdjoaaGreatDoorW.PrintLast Go.Proofs.YtpagbmkdphdjoaaGreatDoorW.PrintMore
attribute [local go_sem] max2_int min2_int max_two min_two max_three min_three max_four min_four   -- for this text's walks alone
set_option linter.unusedVariables false
set_option linter.unusedSimpArgs false

/-! ### r6_Parse: function 15 -/
mutual
def r6_Parse.l0 : Nat → List ByteArray → List Int → List ByteArray → Int → Option (Int × Int × Int × Int × Int × Int × Int × Int × Int × Int × Bool)
 | 0, _, _, _, _ => none
 | k + 1, x4, x5, x6, x7 => if x7 < 4 then (if 0 < (x4.length : Int) then (if 0 ≤ x7 then (if x7 < (x6.length : Int) then (if (rdOf ByteArray.empty x4 0).toList = (rdOf ByteArray.empty x6 x7).toList then (if x7 < (x5.length : Int) then (r6_Parse.j1 k x4 x5 x6 x7 ((x4.length : Int) != (rd x5 x7))) else (none)) else (r6_Parse.j1 k x4 x5 x6 x7 true)) else (none)) else (none)) else (none)) else (some (0, 0, 0, 0, 0, 0, 0, 0, 0, 0, false))
def r6_Parse.j1 : Nat → List ByteArray → List Int → List ByteArray → Int → Bool → Option (Int × Int × Int × Int × Int × Int × Int × Int × Int × Int × Bool)
 | 0, _, _, _, _, _ => none
 | k + 1, x4, x5, x6, x7, x41 => if x41 = true then (r6_Parse.l0 k x4 x5 x6 (wrap64 (x7 + 1))) else (if x7 = 3 then (if 1 < (x4.length : Int) then ((r6_dates.f k (rdOf ByteArray.empty x4 1)).bind fun bt295 => (if 2 < (x4.length : Int) then ((r6_dates.f k (rdOf ByteArray.empty x4 2)).bind fun bt301 => (if bt295.2.2.2 = true then (if bt301.2.2.2 = true then ((r6_May.f k x7 0 0 0 bt295.1 bt295.2.1 bt295.2.2.1 bt301.1 bt301.2.1 bt301.2.2.1).bind fun t306 => (r6_Parse.j2 k (!t306) x7 0 0 0 bt295.1 bt295.2.1 bt295.2.2.1 bt301.1 bt301.2.1 bt301.2.2.1)) else (r6_Parse.j2 k true x7 0 0 0 bt295.1 bt295.2.1 bt295.2.2.1 bt301.1 bt301.2.1 bt301.2.2.1)) else (r6_Parse.j2 k true x7 0 0 0 bt295.1 bt295.2.1 bt295.2.2.1 bt301.1 bt301.2.1 bt301.2.2.1))) else (none))) else (none)) else (r6_Parse.l1 k x4 x7 1 x7 0 0 0 0 0 0 0 0 0 0 0 0))
def r6_Parse.j2 : Nat → Bool → Int → Int → Int → Int → Int → Int → Int → Int → Int → Int → Option (Int × Int × Int × Int × Int × Int × Int × Int × Int × Int × Bool)
 | 0, _, _, _, _, _, _, _, _, _, _, _ => none
 | k + 1, x74, x294000, x294001, x294002, x294003, x294004, x294005, x294006, x294007, x294008, x294009 => if x74 = true then (some (0, 0, 0, 0, 0, 0, 0, 0, 0, 0, false)) else (some (x294000, x294001, x294002, x294003, x294004, x294005, x294006, x294007, x294008, x294009, true))
def r6_Parse.l1 : Nat → List ByteArray → Int → Int → Int → Int → Int → Int → Int → Int → Int → Int → Int → Int → Int → Int → Int → Option (Int × Int × Int × Int × Int × Int × Int × Int × Int × Int × Bool)
 | 0, _, _, _, _, _, _, _, _, _, _, _, _, _, _, _, _ => none
 | k + 1, x4, x7, x14, x294000, x294001, x294002, x294003, x294004, x294005, x294006, x294007, x294008, x294009, x308000, x308001, x308002 => if x14 < (x4.length : Int) then (if 0 ≤ x14 then ((r6_number.f k (rdOf ByteArray.empty x4 x14)).bind fun bt309 => (if bt309.2 = true then (if (wrap64 (x14 - 1)) = (0 : Int) then (r6_Parse.l1 k x4 x7 (wrap64 (x14 + 1)) x294000 x294001 x294002 x294003 x294004 x294005 x294006 x294007 x294008 x294009 bt309.1 x308001 x308002) else (if (wrap64 (x14 - 1)) = (1 : Int) then (r6_Parse.l1 k x4 x7 (wrap64 (x14 + 1)) x294000 x294001 x294002 x294003 x294004 x294005 x294006 x294007 x294008 x294009 x308000 bt309.1 x308002) else (if (wrap64 (x14 - 1)) = (2 : Int) then (r6_Parse.l1 k x4 x7 (wrap64 (x14 + 1)) x294000 x294001 x294002 x294003 x294004 x294005 x294006 x294007 x294008 x294009 x308000 x308001 bt309.1) else (none)))) else (some (0, 0, 0, 0, 0, 0, 0, 0, 0, 0, false)))) else (none)) else (if x7 = 0 then (r6_Parse.j4 k x294000 x294001 x294002 x308000 x294004 x294005 x294006 x294007 x294008 x294009) else (if x7 = 1 then (r6_Parse.j4 k x294000 x308000 x308001 x294003 x294004 x294005 x294006 x294007 x294008 x294009) else (if x7 = 2 then (r6_Parse.j4 k x294000 x308000 x308001 x308002 x294004 x294005 x294006 x294007 x294008 x294009) else (r6_Parse.j4 k x294000 x294001 x294002 x294003 x294004 x294005 x294006 x294007 x294008 x294009))))
def r6_Parse.j4 : Nat → Int → Int → Int → Int → Int → Int → Int → Int → Int → Int → Option (Int × Int × Int × Int × Int × Int × Int × Int × Int × Int × Bool)
 | 0, _, _, _, _, _, _, _, _, _, _ => none
 | k + 1, x294000, x294001, x294002, x294003, x294004, x294005, x294006, x294007, x294008, x294009 => (r6_May.f k x294000 x294001 x294002 x294003 x294004 x294005 x294006 x294007 x294008 x294009).bind fun t311 => (if t311 = true then (some (x294000, x294001, x294002, x294003, x294004, x294005, x294006, x294007, x294008, x294009, true)) else (some (0, 0, 0, 0, 0, 0, 0, 0, 0, 0, false)))
end
def r6_Parse.f (k : Nat) (a0 : ByteArray) : Option (Int × Int × Int × Int × Int × Int × Int × Int × Int × Int × Bool) := (r6_cut.f k a0 32).bind fun t281 => (r6_Parse.l0 k t281 (([2, 3, 4, 3] : List Int)) (([(⟨#[119, 101, 101, 107, 100, 97, 121]⟩ : ByteArray), (⟨#[100, 97, 121]⟩ : ByteArray), (⟨#[110, 116, 104]⟩ : ByteArray), (⟨#[100, 97, 116, 101, 115]⟩ : ByteArray)] : List ByteArray)) 0)
theorem r6_Parse.mono_l : ∀ k, (∀ y0 y1 y2 y3, LeO (r6_Parse.l0 k y0 y1 y2 y3) (r6_Parse.l0 (k + 1) y0 y1 y2 y3)) ∧ (∀ y0 y1 y2 y3 y4, LeO (r6_Parse.j1 k y0 y1 y2 y3 y4) (r6_Parse.j1 (k + 1) y0 y1 y2 y3 y4)) ∧ (∀ y0 y1 y2 y3 y4 y5 y6 y7 y8 y9 y10, LeO (r6_Parse.j2 k y0 y1 y2 y3 y4 y5 y6 y7 y8 y9 y10) (r6_Parse.j2 (k + 1) y0 y1 y2 y3 y4 y5 y6 y7 y8 y9 y10)) ∧ (∀ y0 y1 y2 y3 y4 y5 y6 y7 y8 y9 y10 y11 y12 y13 y14 y15, LeO (r6_Parse.l1 k y0 y1 y2 y3 y4 y5 y6 y7 y8 y9 y10 y11 y12 y13 y14 y15) (r6_Parse.l1 (k + 1) y0 y1 y2 y3 y4 y5 y6 y7 y8 y9 y10 y11 y12 y13 y14 y15)) ∧ (∀ y0 y1 y2 y3 y4 y5 y6 y7 y8 y9, LeO (r6_Parse.j4 k y0 y1 y2 y3 y4 y5 y6 y7 y8 y9) (r6_Parse.j4 (k + 1) y0 y1 y2 y3 y4 y5 y6 y7 y8 y9))
 | 0 => ⟨fun _ _ _ _ r h => by simp [r6_Parse.l0] at h, fun _ _ _ _ _ r h => by simp [r6_Parse.j1] at h, fun _ _ _ _ _ _ _ _ _ _ _ r h => by simp [r6_Parse.j2] at h, fun _ _ _ _ _ _ _ _ _ _ _ _ _ _ _ _ r h => by simp [r6_Parse.l1] at h, fun _ _ _ _ _ _ _ _ _ _ r h => by simp [r6_Parse.j4] at h⟩
 | k + 1 => by
  obtain ⟨ih0, ih1, ih2, ih3, ih4⟩ := r6_Parse.mono_l k;refine ⟨?_, ?_, ?_, ?_, ?_⟩
  ·intro y0 y1 y2 y3;unfold r6_Parse.l0
   repeat' first
   | (with_reducible exact ih0 _ _ _ _)
   | (with_reducible exact ih1 _ _ _ _ _)
   | (with_reducible exact ih2 _ _ _ _ _ _ _ _ _ _ _)
   | (with_reducible exact ih3 _ _ _ _ _ _ _ _ _ _ _ _ _ _ _ _)
   | (with_reducible exact ih4 _ _ _ _ _ _ _ _ _ _)
   | (with_reducible exact r6_May.mono _ _ _ _ _ _ _ _ _ _ _)
   | (with_reducible exact r6_cut.mono _ _ _)
   | (with_reducible exact r6_dates.mono _ _)
   | (with_reducible exact r6_number.mono _ _)
   | (with_reducible exact LeO.refl _)
   | (with_reducible exact LeO.none _)
   | (with_reducible refine LeO.ite ?_ ?_)
   | (with_reducible refine LeO.bind ?_ (fun _ => ?_))
   | exact ih0 _ _ _ _
   | exact ih1 _ _ _ _ _
   | exact ih2 _ _ _ _ _ _ _ _ _ _ _
   | exact ih3 _ _ _ _ _ _ _ _ _ _ _ _ _ _ _ _
   | exact ih4 _ _ _ _ _ _ _ _ _ _
   | exact r6_May.mono _ _ _ _ _ _ _ _ _ _ _
   | exact r6_cut.mono _ _ _
   | exact r6_dates.mono _ _
   | exact r6_number.mono _ _
   | exact LeO.none _
   | refine LeO.ite ?_ ?_
   | refine LeO.bind ?_ (fun _ => ?_)
  ·intro y0 y1 y2 y3 y4;unfold r6_Parse.j1
   repeat' first
   | (with_reducible exact ih0 _ _ _ _)
   | (with_reducible exact ih1 _ _ _ _ _)
   | (with_reducible exact ih2 _ _ _ _ _ _ _ _ _ _ _)
   | (with_reducible exact ih3 _ _ _ _ _ _ _ _ _ _ _ _ _ _ _ _)
   | (with_reducible exact ih4 _ _ _ _ _ _ _ _ _ _)
   | (with_reducible exact r6_May.mono _ _ _ _ _ _ _ _ _ _ _)
   | (with_reducible exact r6_cut.mono _ _ _)
   | (with_reducible exact r6_dates.mono _ _)
   | (with_reducible exact r6_number.mono _ _)
   | (with_reducible exact LeO.refl _)
   | (with_reducible exact LeO.none _)
   | (with_reducible refine LeO.ite ?_ ?_)
   | (with_reducible refine LeO.bind ?_ (fun _ => ?_))
   | exact ih0 _ _ _ _
   | exact ih1 _ _ _ _ _
   | exact ih2 _ _ _ _ _ _ _ _ _ _ _
   | exact ih3 _ _ _ _ _ _ _ _ _ _ _ _ _ _ _ _
   | exact ih4 _ _ _ _ _ _ _ _ _ _
   | exact r6_May.mono _ _ _ _ _ _ _ _ _ _ _
   | exact r6_cut.mono _ _ _
   | exact r6_dates.mono _ _
   | exact r6_number.mono _ _
   | exact LeO.none _
   | refine LeO.ite ?_ ?_
   | refine LeO.bind ?_ (fun _ => ?_)
  ·intro y0 y1 y2 y3 y4 y5 y6 y7 y8 y9 y10;unfold r6_Parse.j2
   repeat' first
   | (with_reducible exact ih0 _ _ _ _)
   | (with_reducible exact ih1 _ _ _ _ _)
   | (with_reducible exact ih2 _ _ _ _ _ _ _ _ _ _ _)
   | (with_reducible exact ih3 _ _ _ _ _ _ _ _ _ _ _ _ _ _ _ _)
   | (with_reducible exact ih4 _ _ _ _ _ _ _ _ _ _)
   | (with_reducible exact r6_May.mono _ _ _ _ _ _ _ _ _ _ _)
   | (with_reducible exact r6_cut.mono _ _ _)
   | (with_reducible exact r6_dates.mono _ _)
   | (with_reducible exact r6_number.mono _ _)
   | (with_reducible exact LeO.refl _)
   | (with_reducible exact LeO.none _)
   | (with_reducible refine LeO.ite ?_ ?_)
   | (with_reducible refine LeO.bind ?_ (fun _ => ?_))
   | exact ih0 _ _ _ _
   | exact ih1 _ _ _ _ _
   | exact ih2 _ _ _ _ _ _ _ _ _ _ _
   | exact ih3 _ _ _ _ _ _ _ _ _ _ _ _ _ _ _ _
   | exact ih4 _ _ _ _ _ _ _ _ _ _
   | exact r6_May.mono _ _ _ _ _ _ _ _ _ _ _
   | exact r6_cut.mono _ _ _
   | exact r6_dates.mono _ _
   | exact r6_number.mono _ _
   | exact LeO.none _
   | refine LeO.ite ?_ ?_
   | refine LeO.bind ?_ (fun _ => ?_)
  ·intro y0 y1 y2 y3 y4 y5 y6 y7 y8 y9 y10 y11 y12 y13 y14 y15;unfold r6_Parse.l1
   repeat' first
   | (with_reducible exact ih0 _ _ _ _)
   | (with_reducible exact ih1 _ _ _ _ _)
   | (with_reducible exact ih2 _ _ _ _ _ _ _ _ _ _ _)
   | (with_reducible exact ih3 _ _ _ _ _ _ _ _ _ _ _ _ _ _ _ _)
   | (with_reducible exact ih4 _ _ _ _ _ _ _ _ _ _)
   | (with_reducible exact r6_May.mono _ _ _ _ _ _ _ _ _ _ _)
   | (with_reducible exact r6_cut.mono _ _ _)
   | (with_reducible exact r6_dates.mono _ _)
   | (with_reducible exact r6_number.mono _ _)
   | (with_reducible exact LeO.refl _)
   | (with_reducible exact LeO.none _)
   | (with_reducible refine LeO.ite ?_ ?_)
   | (with_reducible refine LeO.bind ?_ (fun _ => ?_))
   | exact ih0 _ _ _ _
   | exact ih1 _ _ _ _ _
   | exact ih2 _ _ _ _ _ _ _ _ _ _ _
   | exact ih3 _ _ _ _ _ _ _ _ _ _ _ _ _ _ _ _
   | exact ih4 _ _ _ _ _ _ _ _ _ _
   | exact r6_May.mono _ _ _ _ _ _ _ _ _ _ _
   | exact r6_cut.mono _ _ _
   | exact r6_dates.mono _ _
   | exact r6_number.mono _ _
   | exact LeO.none _
   | refine LeO.ite ?_ ?_
   | refine LeO.bind ?_ (fun _ => ?_)
  ·intro y0 y1 y2 y3 y4 y5 y6 y7 y8 y9;unfold r6_Parse.j4
   repeat' first
   | (with_reducible exact ih0 _ _ _ _)
   | (with_reducible exact ih1 _ _ _ _ _)
   | (with_reducible exact ih2 _ _ _ _ _ _ _ _ _ _ _)
   | (with_reducible exact ih3 _ _ _ _ _ _ _ _ _ _ _ _ _ _ _ _)
   | (with_reducible exact ih4 _ _ _ _ _ _ _ _ _ _)
   | (with_reducible exact r6_May.mono _ _ _ _ _ _ _ _ _ _ _)
   | (with_reducible exact r6_cut.mono _ _ _)
   | (with_reducible exact r6_dates.mono _ _)
   | (with_reducible exact r6_number.mono _ _)
   | (with_reducible exact LeO.refl _)
   | (with_reducible exact LeO.none _)
   | (with_reducible refine LeO.ite ?_ ?_)
   | (with_reducible refine LeO.bind ?_ (fun _ => ?_))
   | exact ih0 _ _ _ _
   | exact ih1 _ _ _ _ _
   | exact ih2 _ _ _ _ _ _ _ _ _ _ _
   | exact ih3 _ _ _ _ _ _ _ _ _ _ _ _ _ _ _ _
   | exact ih4 _ _ _ _ _ _ _ _ _ _
   | exact r6_May.mono _ _ _ _ _ _ _ _ _ _ _
   | exact r6_cut.mono _ _ _
   | exact r6_dates.mono _ _
   | exact r6_number.mono _ _
   | exact LeO.none _
   | refine LeO.ite ?_ ?_
   | refine LeO.bind ?_ (fun _ => ?_)
theorem r6_Parse.mono : ∀ a0 k, LeO (r6_Parse.f k a0) (r6_Parse.f (k + 1) a0) := by
 intro a0 k;obtain ⟨ih0, ih1, ih2, ih3, ih4⟩ := r6_Parse.mono_l k;unfold r6_Parse.f
 repeat' first
   | (with_reducible exact ih0 _ _ _ _)
   | (with_reducible exact ih1 _ _ _ _ _)
   | (with_reducible exact ih2 _ _ _ _ _ _ _ _ _ _ _)
   | (with_reducible exact ih3 _ _ _ _ _ _ _ _ _ _ _ _ _ _ _ _)
   | (with_reducible exact ih4 _ _ _ _ _ _ _ _ _ _)
   | (with_reducible exact r6_May.mono _ _ _ _ _ _ _ _ _ _ _)
   | (with_reducible exact r6_cut.mono _ _ _)
   | (with_reducible exact r6_dates.mono _ _)
   | (with_reducible exact r6_number.mono _ _)
   | (with_reducible exact LeO.refl _)
   | (with_reducible exact LeO.none _)
   | (with_reducible refine LeO.ite ?_ ?_)
   | (with_reducible refine LeO.bind ?_ (fun _ => ?_))
   | exact ih0 _ _ _ _
   | exact ih1 _ _ _ _ _
   | exact ih2 _ _ _ _ _ _ _ _ _ _ _
   | exact ih3 _ _ _ _ _ _ _ _ _ _ _ _ _ _ _ _
   | exact ih4 _ _ _ _ _ _ _ _ _ _
   | exact r6_May.mono _ _ _ _ _ _ _ _ _ _ _
   | exact r6_cut.mono _ _ _
   | exact r6_dates.mono _ _
   | exact r6_number.mono _ _
   | exact LeO.none _
   | refine LeO.ite ?_ ?_
   | refine LeO.bind ?_ (fun _ => ?_)
def r6_Parse.T7 : Bool × List (List Nat × List Nat) := (true, [([], []), ([0], [0]), ([1], [1]), ([], []), ([], []), ([3, 4], [3, 4]), ([5], [5]), ([2, 6], [2, 6]), ([7], [7]), ([8], [8]), ([9, 8], [8, 9]), ([8], [8]), ([8], [8]), ([11, 12, 8], [8, 11, 12]), ([13, 8], [8, 13]), ([10, 14, 8], [8, 10, 14]), ([8, 15], [8, 15])])
def r6_Parse.B7 : List Nat := [0, 1, 3, 0, 0, 24, 56, 127, 255, 511, 1023, 511, 511, 6655, 14847, 32767, 65535]
theorem r6_Parse.tab7 : rtab .any (opsOf Tryz.f15 7) = r6_Parse.T7 := by kernel_rfl
theorem r6_Parse.bits7 : waitsOk r6_Parse.T7.2 r6_Parse.B7 = true := by kernel_rfl
def r6_Parse.T28 : Bool × List (List Nat × List Nat) := (true, [([], []), ([0], [0]), ([], []), ([2], [2]), ([0, 1], []), ([4, 1, 0, 1], [1, 4]), ([0, 1, 2, 3, 4, 5], []), ([6, 3, 5, 0, 1, 2, 3, 4, 5], [3, 6])])
def r6_Parse.B28 : List Nat := [0, 1, 0, 4, 3, 19, 63, 127]
theorem r6_Parse.tab28 : rtab .any (opsOf Tryz.f15 28) = r6_Parse.T28 := by kernel_rfl
theorem r6_Parse.bits28 : waitsOk r6_Parse.T28.2 r6_Parse.B28 = true := by kernel_rfl
def r6_Parse.T30 : Bool × List (List Nat × List Nat) := (true, [([], []), ([0], [0]), ([], []), ([2], [2]), ([], []), ([4], [4]), ([0, 1], []), ([6, 1, 0, 1], [1, 6]), ([0, 1, 2, 3, 6, 7], []), ([8, 3, 7, 0, 1, 2, 3, 6, 7], [3, 8]), ([0, 1, 2, 3, 4, 5, 6, 7, 8, 9], []), ([10, 5, 9, 0, 1, 2, 3, 4, 5, 6, 7, 8, 9], [5, 10])])
def r6_Parse.B30 : List Nat := [0, 1, 0, 4, 0, 16, 3, 67, 207, 463, 1023, 2047]
theorem r6_Parse.tab30 : rtab .any (opsOf Tryz.f15 30) = r6_Parse.T30 := by kernel_rfl
theorem r6_Parse.bits30 : waitsOk r6_Parse.T30.2 r6_Parse.B30 = true := by kernel_rfl
set_option maxHeartbeats 2000000 in
set_option maxRecDepth 100000 in
theorem r6_Parse.calls (k : Nat) (a0 : ByteArray) (r1 : Int) (r2 : Int) (r3 : Int) (r4 : Int) (r5 : Int) (r6 : Int) (r7 : Int) (r8 : Int) (r9 : Int) (r10 : Int) (r11 : Bool) (w : World) (h : r6_Parse.f k a0 = some (r1, r2, r3, r4, r5, r6, r7, r8, r9, r10, r11)) :
  Calls Tryz.prog 15 #[.string a0] w fun e w' => e = .returned (.tuple #[.agg #[.int .i64 r1, .int .i64 r2, .int .i64 r3, .int .i64 r4, .int .i64 r5, .int .i64 r6, .int .i64 r7, .int .i64 r8, .int .i64 r9, .int .i64 r10], .bool r11]) ∧ Below w.heap.size w w' := by
 have hu25 := Tryz.underlying25;have hu23 := Tryz.underlying23;have hu70 := Tryz.underlying70;have HB := As (Below.refl w.heap.size w);have H : ((r6_cut.f k a0 32).bind fun t281 => (r6_Parse.l0 k t281 (([2, 3, 4, 3] : List Int)) (([(⟨#[119, 101, 101, 107, 100, 97, 121]⟩ : ByteArray), (⟨#[100, 97, 121]⟩ : ByteArray), (⟨#[110, 116, 104]⟩ : ByteArray), (⟨#[100, 97, 116, 101, 115]⟩ : ByteArray)] : List ByteArray)) 0)) = some (r1, r2, r3, r4, r5, r6, r7, r8, r9, r10, r11) := h;clear h;replace H := bE H;obtain ⟨t281, A20, H⟩ := H;replace H : (r6_Parse.l0 k t281 (([2, 3, 4, 3] : List Int)) (([(⟨#[119, 101, 101, 107, 100, 97, 121]⟩ : ByteArray), (⟨#[100, 97, 121]⟩ : ByteArray), (⟨#[110, 116, 104]⟩ : ByteArray), (⟨#[100, 97, 116, 101, 115]⟩ : ByteArray)] : List ByteArray)) 0) = some (r1, r2, r3, r4, r5, r6, r7, r8, r9, r10, r11) := H;have A2 := As A20;clear A20
 obtain ⟨y284, hy284⟩ : ∃ y_ : List Int, y_ = (([2, 3, 4, 3] : List Int)) := ⟨_, rfl⟩
 replace H : (r6_Parse.l0 k t281 y284 (([(⟨#[119, 101, 101, 107, 100, 97, 121]⟩ : ByteArray), (⟨#[100, 97, 121]⟩ : ByteArray), (⟨#[110, 116, 104]⟩ : ByteArray), (⟨#[100, 97, 116, 101, 115]⟩ : ByteArray)] : List ByteArray)) 0) = some (r1, r2, r3, r4, r5, r6, r7, r8, r9, r10, r11) := by first | (rw [hy284]; with_reducible exact H) | (have H2_ := (Option.bind_some _ _).symm.trans H; rw [hy284]; with_reducible exact H2_) | (have H2_ := (Option.bind_some _ _).symm.trans H; with_reducible exact H2_) | with_reducible exact H | (rw [hy284]; exact H) | exact H
 have Ny284 := As hy284;clear hy284
 obtain ⟨y287, hy287⟩ : ∃ y_ : List ByteArray, y_ = (([(⟨#[119, 101, 101, 107, 100, 97, 121]⟩ : ByteArray), (⟨#[100, 97, 121]⟩ : ByteArray), (⟨#[110, 116, 104]⟩ : ByteArray), (⟨#[100, 97, 116, 101, 115]⟩ : ByteArray)] : List ByteArray)) := ⟨_, rfl⟩
 replace H : (r6_Parse.l0 k t281 y284 y287 0) = some (r1, r2, r3, r4, r5, r6, r7, r8, r9, r10, r11) := by first | (rw [hy287]; with_reducible exact H) | (have H2_ := (Option.bind_some _ _).symm.trans H; rw [hy287]; with_reducible exact H2_) | (have H2_ := (Option.bind_some _ _).symm.trans H; with_reducible exact H2_) | with_reducible exact H | (rw [hy287]; exact H) | exact H
 have Ny287 := As hy287;clear hy287;have H' := As H;clear H
 go_enter Tryz.func15, Tryz.ntmps15
 go_wp2_with (first | ((with_reducible refine gate_dst (N := 2) rfl ?_); (try (refine gate_guard (by rfl) ?_; dsimp only)); refine box_event ?hg (N := 2) ?hd (cs := #[.int .i64 0, .int .i64 0, .int .i64 0, .int .i64 0, .int .i64 0, .int .i64 0, .int .i64 0, .int .i64 0, .int .i64 0, .int .i64 0]) (t := 25) ?hr ?_; (case hd => rfl); (case hg => rfl); (case hr => first | (go_simp; done) | (go_simp; rfl)); intro gb280 hg w3 hbox hb; have BK280 := As (hbox); have GW280 := As ((gz hg (be HB.out) : w.heap.size ≤ gb280)); have GE280 := As ((gz hg (be HB.out) : w.heap.size ≤ gb280)); replace HB := As (XT (be HB.out) hb); clear hb hbox hg) | ((with_reducible refine gate_callee (f := 34) rfl ?_); refine goesL_ (some 18) rfl rfl Tryz.func34 kr rfl #[.string a0, .int .u8 32] rfl sa ?_; (with_reducible refine (r6_cut.calls k a0 32 _ _ A2.out).mono ?_); rintro e w4 ⟨v282, rfl, ho0, hb⟩; refine ⟨_, rfl, ?_⟩; have HO283 := As (Kd.R_lower ho0 (XZ (be HB.out))); replace BK280 := As (YB (g := gb280) (o := .cells #[.int .i64 0, .int .i64 0, .int .i64 0, .int .i64 0, .int .i64 0, .int .i64 0, .int .i64 0, .int .i64 0, .int .i64 0, .int .i64 0] 25 (0, 0)) (bk BK280.out) hb); replace HB := As (XT (be HB.out) hb); (try clear hb); (try clear hb2); (try clear hk); (try clear hi); (try clear ho0)) | ((with_reducible refine gate_dst (N := 19) rfl ?_); (try (refine gate_guard (by rfl) ?_; dsimp only)); refine Kd.R_lit (Kd.int .i64) _ 3 ?hg (N := 19) ?hd (xs := ([2, 3, 4, 3] : List Int)) (inner := [.int .i64 2, .int .i64 3, .int .i64 4, .int .i64 3]) (ok := fun _ => True) (okp := fun _ => True) ?hr ?hp (fun _ hk => hk) trivial (Below.refl _ _) (Nat.le_refl _) (by simp) ?_; (case hd => rfl); (case hg => rfl); (case hr => first | (go_simp; done) | (go_simp; rfl)); (case hp => exact (Reps.one (show Kd.M (Kd.int .i64) _ _ _ 2 [.int .i64 2] from rfl) (Reps.one (show Kd.M (Kd.int .i64) _ _ _ 3 [.int .i64 3] from rfl) (Reps.one (show Kd.M (Kd.int .i64) _ _ _ 4 [.int .i64 4] from rfl) (Reps.one (show Kd.M (Kd.int .i64) _ _ _ 3 [.int .i64 3] from rfl) (Reps.none _ _)))))); intro v285 w5 ho6 hb hg_ hnew_; clear hg_ hnew_; (first | rw [← Ny284.out] at ho6 | (simp only [Int.reduceToNat] at ho6; rw [← Ny284.out] at ho6)); replace HO283 := As (RB (ro HO283.out) hb); have HO286 := As (Kd.R_lower ho6 (XZ (be HB.out))); replace BK280 := As (YB (g := gb280) (o := .cells #[.int .i64 0, .int .i64 0, .int .i64 0, .int .i64 0, .int .i64 0, .int .i64 0, .int .i64 0, .int .i64 0, .int .i64 0, .int .i64 0] 25 (0, 0)) (bk BK280.out) hb); replace HB := As (XT (be HB.out) hb); clear hb ho6) | ((with_reducible refine gate_dst (N := 20) rfl ?_); (try (refine gate_guard (by rfl) ?_; dsimp only)); refine Kd.R_lit Kd.string _ 9 ?hg (N := 20) ?hd (xs := ([(⟨#[119, 101, 101, 107, 100, 97, 121]⟩ : ByteArray), (⟨#[100, 97, 121]⟩ : ByteArray), (⟨#[110, 116, 104]⟩ : ByteArray), (⟨#[100, 97, 116, 101, 115]⟩ : ByteArray)] : List ByteArray)) (inner := [.string (⟨#[119, 101, 101, 107, 100, 97, 121]⟩ : ByteArray), .string (⟨#[100, 97, 121]⟩ : ByteArray), .string (⟨#[110, 116, 104]⟩ : ByteArray), .string (⟨#[100, 97, 116, 101, 115]⟩ : ByteArray)]) (ok := fun _ => True) (okp := fun _ => True) ?hr ?hp (fun _ hk => hk) trivial (Below.refl _ _) (Nat.le_refl _) (by simp) ?_; (case hd => rfl); (case hg => rfl); (case hr => first | (go_simp; done) | (go_simp; rfl)); (case hp => exact (Reps.one (show Kd.M Kd.string _ _ _ (⟨#[119, 101, 101, 107, 100, 97, 121]⟩ : ByteArray) [.string (⟨#[119, 101, 101, 107, 100, 97, 121]⟩ : ByteArray)] from rfl) (Reps.one (show Kd.M Kd.string _ _ _ (⟨#[100, 97, 121]⟩ : ByteArray) [.string (⟨#[100, 97, 121]⟩ : ByteArray)] from rfl) (Reps.one (show Kd.M Kd.string _ _ _ (⟨#[110, 116, 104]⟩ : ByteArray) [.string (⟨#[110, 116, 104]⟩ : ByteArray)] from rfl) (Reps.one (show Kd.M Kd.string _ _ _ (⟨#[100, 97, 116, 101, 115]⟩ : ByteArray) [.string (⟨#[100, 97, 116, 101, 115]⟩ : ByteArray)] from rfl) (Reps.none _ _)))))); intro v288 w7 ho8 hb hg_ hnew_; clear hg_ hnew_; (first | rw [← Ny287.out] at ho8 | (simp only [Int.reduceToNat] at ho8; rw [← Ny287.out] at ho8)); replace HO286 := As (RB (ro HO286.out) hb); have HO289 := As (Kd.R_lower (Kd.R_new' ho8 (Kd.R_lt (ro HO283.out))) (XZ (be HB.out))); replace HO283 := As (Kd.R_elder' (ro HO283.out) (Kd.R_base ho8) hb); replace BK280 := As (YB (g := gb280) (o := .cells #[.int .i64 0, .int .i64 0, .int .i64 0, .int .i64 0, .int .i64 0, .int .i64 0, .int .i64 0, .int .i64 0, .int .i64 0, .int .i64 0] 25 (0, 0)) (bk BK280.out) hb); replace HB := As (XT (be HB.out) hb); clear hb ho8))
 go_loopg [7] k (fun kq v7 w' => ∃ (x7_1 : Int) (x281000_1 : Int) (x281001_1 : Int) (x281002_1 : Int) (x281003_1 : Int) (x281004_1 : Int) (x281005_1 : Int) (x281006_1 : Int) (x281007_1 : Int) (x281008_1 : Int) (x281009_1 : Int), v7 = .int .i64 x7_1 ∧ Aside0 (r6_Parse.l0 kq t281 y284 y287 x7_1 = some (r1, r2, r3, r4, r5, r6, r7, r8, r9, r10, r11)) ∧ Aside0 (kq ≤ k) ∧ Aside0 (Kd.R Kd.string 9 w' w.heap.size (fun k_ => some k_ ≠ (v288 : Value).ownBlock) v282 t281) ∧ Aside0 (Kd.R (Kd.int .i64) 3 w' w.heap.size (fun _ => True) v285 y284) ∧ Aside0 (Kd.R Kd.string 9 w' w.heap.size (fun k_ => some k_ ≠ (v282 : Value).ownBlock) v288 y287) ∧ Aside0 (w'.heap[gb280]? = some (.cells #[.int .i64 x281000_1, .int .i64 x281001_1, .int .i64 x281002_1, .int .i64 x281003_1, .int .i64 x281004_1, .int .i64 x281005_1, .int .i64 x281006_1, .int .i64 x281007_1, .int .i64 x281008_1, .int .i64 x281009_1] 25 (0, 0))) ∧ Aside0 (Below w.heap.size w w'))
 case atStart => exact ⟨(0), (0), (0), (0), (0), (0), (0), (0), (0), (0), (0), sw, H', ⟨Nat.le_refl _⟩, ⟨by (with_reducible repeat (first | apply RA | apply RN | apply RD)); exact RM HO283.out (fun _ hk => hk.2)⟩, ⟨by (with_reducible repeat (first | apply RA | apply RN | apply RD)); exact HO286.out⟩, ⟨by (with_reducible repeat (first | apply RA | apply RN | apply RD)); exact RM HO289.out (fun _ hk => hk.2)⟩, ⟨by (with_reducible repeat (first | refine YN ?_ _ | refine YD ?_ | refine YA ?_ _)); exact BK280.out⟩, ⟨by repeat (first | (with_reducible first | exact HB.out | apply XA | apply XN | apply XD | refine XS ?_ GE280.out) | exact HB.out)⟩⟩
 case round =>
  clear H'
  try clear c1
  try clear p2
  try clear c3
  try clear p6
  obtain ⟨x7_1, x281000_1, x281001_1, x281002_1, x281003_1, x281004_1, x281005_1, x281006_1, x281007_1, x281008_1, x281009_1, rfl, HA, HK1, HO_4, HO_5, HO_6, BK280, HB⟩ := hrel
  cases gk with
  | zero => exact absurd HA.out (by simp [r6_Parse.l0])
  | succ k1 =>
   have H := HA.out;clear HA;simp only [r6_Parse.l0] at H
   by_cases c9 : x7_1 < 4
   ·rw [if_pos c9] at H;have c9b0 : decide (x7_1 < 4) = true := dY c9;clear c9;have HC10 := As H;clear H
    go_upto_region 7 with (fail)
    go_cut [41] (fun v41 wc => ∃ (kq : Nat) (x41_9 : Bool), v41 = .bool x41_9 ∧ Aside0 (r6_Parse.j1 kq t281 y284 y287 x7_1 x41_9 = some (r1, r2, r3, r4, r5, r6, r7, r8, r9, r10, r11)) ∧ Aside0 (kq ≤ k1) ∧ Aside0 (Kd.R Kd.string 9 wc w.heap.size (fun k_ => some k_ ≠ (v288 : Value).ownBlock) v282 t281) ∧ Aside0 (Kd.R (Kd.int .i64) 3 wc w.heap.size (fun _ => True) v285 y284) ∧ Aside0 (Kd.R Kd.string 9 wc w.heap.size (fun k_ => some k_ ≠ (v282 : Value).ownBlock) v288 y287) ∧ Aside0 (wc.heap[gb280]? = some (.cells #[.int .i64 x281000_1, .int .i64 x281001_1, .int .i64 x281002_1, .int .i64 x281003_1, .int .i64 x281004_1, .int .i64 x281005_1, .int .i64 x281006_1, .int .i64 x281007_1, .int .i64 x281008_1, .int .i64 x281009_1] 25 (0, 0))) ∧ Aside0 (Below w.heap.size w wc))
    case first =>
     have H := HC10.out;clear HC10
     by_cases c11 : 0 < (t281.length : Int)
     rotate_left
     ·rw [if_neg c11] at H;exact absurd H (by simp)
     rw [if_pos c11] at H;have c11b0 : decide (0 < (t281.length : Int)) = true := dY c11;have c11b1 : decide (0 < t281.length) = true := dY (by omega);clear c11
     (first | rw [c11b0] | (simp only [i64_w, i32_w]; rw [c11b0]) | skip)
     by_cases c12 : 0 ≤ x7_1
     rotate_left
     ·rw [if_neg c12] at H;exact absurd H (by simp)
     rw [if_pos c12] at H;have c12b0 : decide (0 ≤ x7_1) = true := dY c12;clear c12
     by_cases c13 : x7_1 < (y287.length : Int)
     rotate_left
     ·rw [if_neg c13] at H;exact absurd H (by simp)
     rw [if_pos c13] at H;have c13b0 : decide (x7_1 < (y287.length : Int)) = true := dY c13;clear c13
     by_cases c14 : (rdOf ByteArray.empty t281 0).toList = (rdOf ByteArray.empty y287 x7_1).toList
     focus
      rw [if_pos c14] at H;have c14b0 : ((rdOf ByteArray.empty t281 0).toList == (rdOf ByteArray.empty y287 x7_1).toList) = true := beq_iff_eq.mpr c14;have c14b1 : ((rdOf ByteArray.empty t281 0).toList != (rdOf ByteArray.empty y287 x7_1).toList) = false := bne_eq_false_iff_eq.mpr c14;clear c14
      by_cases c15 : x7_1 < (y284.length : Int)
      rotate_left
      ·rw [if_neg c15] at H;exact absurd H (by simp)
      rw [if_pos c15] at H;have c15b0 : decide (x7_1 < (y284.length : Int)) = true := dY c15;clear c15;have H' := As H;clear H
     rotate_left
     rw [if_neg c14] at H;have c14b0 : ((rdOf ByteArray.empty t281 0).toList == (rdOf ByteArray.empty y287 x7_1).toList) = false := beq_eq_false_iff_ne.mpr c14;have c14b1 : ((rdOf ByteArray.empty t281 0).toList != (rdOf ByteArray.empty y287 x7_1).toList) = true := bne_iff_ne.mpr c14;have H' := As H;clear H
     all_goals
      try go_wp2
      replace HO_4 := As (RD HO_4.out);replace HO_5 := As (RD HO_5.out);replace HO_6 := As (RD HO_6.out);replace BK280 := As (YD BK280.out);replace HB := As (XD HB.out);obtain ⟨Ao21, co21, eo21⟩ := Kd.R_slice HO_4.out
      (first | subst eo21 | (injection eo21 with f1_ f2_ f3_; have f4_ := f1_.symm; have f5_ := f3_.symm; clear f1_ f2_ f3_; subst f4_; subst f5_))
      have p290 : 0 ≤ (0 : Int) := (by omega)
      have q290 : 0 < (t281.length : Int) := dT hy;obtain ⟨ad290, e290, hx290_0⟩ := Kd.at_string (RR HO_4.out).2.2 0 p290 q290
      cases e290
      have qi290 : (0 < t281.length) = True := eq_true (by omega)
      (try rw [show ((0 : Int)).toNat = 0 from rfl] at hx290_0)
      (try rw [Addr.add_zero'] at hx290_0)
      replace p290 := eq_true p290;replace q290 := eq_true q290;obtain ⟨Ao22, co22, eo22⟩ := Kd.R_slice HO_6.out
      (first | subst eo22 | (injection eo22 with f1_ f2_ f3_; have f4_ := f1_.symm; have f5_ := f3_.symm; clear f1_ f2_ f3_; subst f4_; subst f5_))
      have p291 : 0 ≤ (x7_1 : Int) := dT hy;have q291 : x7_1 < (y287.length : Int) := dT hy;obtain ⟨ad291, e291, hx291_0⟩ := Kd.at_string (RR HO_6.out).2.2 x7_1 p291 q291
      cases e291
     ·replace p291 := eq_true p291;replace q291 := eq_true q291;refine start_ (n := 17) (S := fun w' => w'.cell? ad290 = some (.string (rdOf ByteArray.empty t281 0)) ∧ w'.cell? (ad291.add (x7_1).toNat) = some (.string (rdOf ByteArray.empty y287 x7_1))) (ds := []) (fl 0 17) kr rfl rfl ⟨hx290_0, hx291_0⟩ (fun hHeld => ?_); refine with_tabW r6_Parse.tab7 r6_Parse.bits7 (fun HT_ HW_ => ?_);generalize wr.drew = w20 at HO_4 HO_5 HO_6 BK280 HB hx290_0 hx291_0 hHeld ⊢;refine pure_ (i := 0) (N := some 25) (v := ?_) (a' := ?_) (fl 1 16) rfl rfl (any_of HT_.out kr) (fun _ _ _ h => h) (Or.inl ⟨by rfl, ?_⟩) ?_ ?_;rotate_left;(intro w';go_simp;with_reducible rfl);rotate_left;(simp only [Act.put,z0,z1,z2,i64_w,i32_w];rfl);refine pure_ (i := 1) (N := some 26) (v := ?_) (a' := ?_) (fl 2 15) rfl rfl (any_of HT_.out kr) (fun _ _ _ h => h) (Or.inl ⟨by rfl, ?_⟩) ?_ ?_;rotate_left;(intro w';go_simp;with_reducible rfl);rotate_left;(simp only [Act.put,z0,z1,z2,i64_w,i32_w];rfl);refine pure_ (i := 3) (N := some 28) (v := ?_) (a' := ?_) #[Y,Y,O,Y,O,O,O,O,O,O,O,O,O,O,O,O,O] rfl rfl (any_of HT_.out kr) (fun _ _ _ h => h) (Or.inl ⟨by rfl, ?_⟩) ?_ ?_;rotate_left;(intro w';go_simp;with_reducible rfl);rotate_left;(simp only [Act.put,z0,z1,z2,i64_w,i32_w];rfl);refine pure_ (i := 4) (N := some 29) (v := ?_) (a' := ?_) #[Y,Y,O,Y,Y,O,O,O,O,O,O,O,O,O,O,O,O] rfl rfl (any_of HT_.out kr) (fun _ _ _ h => h) (Or.inl ⟨by rfl, ?_⟩) ?_ ?_;rotate_left;(intro w';go_simp;with_reducible rfl);rotate_left;(simp only [Act.put,z0,z1,z2,i64_w,i32_w];rfl);refine pure_ (i := 5) (N := some 30) (v := ?_) (a' := ?_) #[Y,Y,O,Y,Y,Y,O,O,O,O,O,O,O,O,O,O,O] rfl rfl (any_of HT_.out kr) (fun _ _ _ h => h) (Or.inl ⟨by rfl, ?_⟩) ?_ ?_;rotate_left;(intro w';go_simp;with_reducible rfl);rotate_left;(simp only [Act.put,z0,z1,z2,i64_w,i32_w];rfl);refine take_ (i := 2) (N := some 27) (v := ?_) (a' := ?_) (fl 6 11) rfl rfl (take_ofW HT_.out HW_.out kr) (fun _ _ _ h => h) (Or.inl ⟨by rfl, ?_⟩) hHeld ?_ ?_;rotate_left;(rintro w' ⟨s0, s1⟩;go_simp;with_reducible rfl);rotate_left;(simp only [Act.put,z0,z1,z2,i64_w,i32_w];rfl);refine take_ (i := 6) (N := some 31) (v := ?_) (a' := ?_) (fl 7 10) rfl rfl (take_ofW HT_.out HW_.out kr) (fun _ _ _ h => h) (Or.inl ⟨by rfl, ?_⟩) hHeld ?_ ?_;rotate_left;(rintro w' ⟨s0, s1⟩;go_simp;with_reducible rfl);rotate_left;(simp only [Act.put,z0,z1,z2,i64_w,i32_w];rfl);refine pure_ (i := 7) (N := some 32) (v := ?_) (a' := ?_) (fl 8 9) rfl rfl (any_of HT_.out kr) (fun _ _ _ h => h) (Or.inl ⟨by rfl, ?_⟩) ?_ ?_;rotate_left;(intro w';go_simp;with_reducible rfl);rotate_left;(simp only [Act.put,z0,z1,z2,i64_w,i32_w];rfl);refine pure_ (i := 8) (N := some 33) (v := ?_) (a' := ?_) (fl 9 8) rfl rfl (any_of HT_.out kr) (fun _ _ _ h => h) (Or.inl ⟨by rfl, ?_⟩) ?_ ?_;rotate_left;(intro w';go_simp;with_reducible rfl);rotate_left;(simp only [Act.put,z0,z1,z2,i64_w,i32_w];rfl);refine pure_ (i := 9) (N := some 34) (v := undef) (a' := ?_) (fl 10 7) rfl rfl (any_of HT_.out kr) (fun _ _ _ h => h) (Or.inr ⟨by rfl, rfl⟩) ?_ ?_;rotate_left
      ·simp only [Act.put, z0,z1,z2,i64_w,i32_w];rfl
      refine pure_ (i := 10) (N := some 35) (v := undef) (a' := ?_) (fl 11 6) rfl rfl (any_of HT_.out kr) (fun _ _ _ h => h) (Or.inr ⟨by rfl, rfl⟩) ?_ ?_;rotate_left
      ·simp only [Act.put, z0,z1,z2,i64_w,i32_w];rfl
      refine pure_ (i := 11) (N := some 36) (v := undef) (a' := ?_) (fl 12 5) rfl rfl (any_of HT_.out kr) (fun _ _ _ h => h) (Or.inr ⟨by rfl, rfl⟩) ?_ ?_;rotate_left
      ·simp only [Act.put, z0,z1,z2,i64_w,i32_w];rfl
      refine pure_ (i := 12) (N := some 37) (v := undef) (a' := ?_) (fl 13 4) rfl rfl (any_of HT_.out kr) (fun _ _ _ h => h) (Or.inr ⟨by rfl, rfl⟩) ?_ ?_;rotate_left
      ·simp only [Act.put, z0,z1,z2,i64_w,i32_w];rfl
      refine pure_ (i := 13) (N := some 38) (v := undef) (a' := ?_) (fl 14 3) rfl rfl (any_of HT_.out kr) (fun _ _ _ h => h) (Or.inr ⟨by rfl, rfl⟩) ?_ ?_;rotate_left
      ·simp only [Act.put, z0,z1,z2,i64_w,i32_w];rfl
      refine pure_ (i := 14) (N := some 39) (v := undef) (a' := ?_) (fl 15 2) rfl rfl (any_of HT_.out kr) (fun _ _ _ h => h) (Or.inr ⟨by rfl, rfl⟩) ?_ ?_;rotate_left
      ·simp only [Act.put, z0,z1,z2,i64_w,i32_w];rfl
      refine pure_ (i := 15) (N := some 40) (v := undef) (a' := ?_) (fl 16 1) rfl rfl (any_of HT_.out kr) (fun _ _ _ h => h) (Or.inr ⟨by rfl, rfl⟩) ?_ ?_;rotate_left
      ·simp only [Act.put, z0,z1,z2,i64_w,i32_w];rfl
      refine pure_ (i := 16) (N := some 41) (v := ?_) (a' := ?_) (fl 17 0) rfl rfl (any_of HT_.out kr) (fun _ _ _ h => h) (Or.inl ⟨by rfl, ?_⟩) ?_ ?_;rotate_left;(intro w';go_simp;with_reducible rfl);rotate_left;(simp only [Act.put,z0,z1,z2,i64_w,i32_w];rfl);refine done_ (done_of HT_.out kr) ?_
      try go_wp2
      go_meet
      case rel => exact ⟨_, (true), sw, H', ⟨by have := HK1.out; first | omega | exact Nat.le_refl _⟩, ⟨by (with_reducible repeat (first | apply RA | apply RN | apply RD)); exact HO_4.out⟩, ⟨by (with_reducible repeat (first | apply RA | apply RN | apply RD)); exact HO_5.out⟩, ⟨by (with_reducible repeat (first | apply RA | apply RN | apply RD)); exact HO_6.out⟩, ⟨by (with_reducible repeat (first | refine YN ?_ _ | refine YD ?_ | refine YA ?_ _)); exact BK280.out⟩, ⟨by repeat (first | (with_reducible first | exact HB.out | apply XA | apply XN | apply XD | refine XS ?_ GE280.out) | exact HB.out)⟩⟩
     ·replace p291 := eq_true p291;replace q291 := eq_true q291;obtain ⟨Ao19, co19, eo19⟩ := Kd.R_slice HO_5.out
      (first | subst eo19 | (injection eo19 with f1_ f2_ f3_; have f4_ := f1_.symm; have f5_ := f3_.symm; clear f1_ f2_ f3_; subst f4_; subst f5_))
      have p292 : 0 ≤ (x7_1 : Int) := dT hy;have q292 : x7_1 < (y284.length : Int) := dT hy;obtain ⟨ad292, e292, hx292_0⟩ := Kd.at_int (RR HO_5.out).2.2 x7_1 p292 q292
      cases e292
      replace p292 := eq_true p292;replace q292 := eq_true q292;refine start_ (n := 17) (S := fun w' => w'.cell? ad290 = some (.string (rdOf ByteArray.empty t281 0)) ∧ w'.cell? (ad291.add (x7_1).toNat) = some (.string (rdOf ByteArray.empty y287 x7_1)) ∧ w'.cell? (ad292.add (x7_1).toNat) = some (.int .i64 (rd y284 x7_1))) (ds := []) (fl 0 17) kr rfl rfl ⟨hx290_0, hx291_0, hx292_0⟩ (fun hHeld => ?_); refine with_tabW r6_Parse.tab7 r6_Parse.bits7 (fun HT_ HW_ => ?_);generalize wr.drew = w16 at HO_4 HO_5 HO_6 BK280 HB hx290_0 hx291_0 hx292_0 hHeld ⊢;refine pure_ (i := 0) (N := some 25) (v := ?_) (a' := ?_) (fl 1 16) rfl rfl (any_of HT_.out kr) (fun _ _ _ h => h) (Or.inl ⟨by rfl, ?_⟩) ?_ ?_;rotate_left;(intro w';go_simp;with_reducible rfl);rotate_left;(simp only [Act.put,z0,z1,z2,i64_w,i32_w];rfl);refine pure_ (i := 1) (N := some 26) (v := ?_) (a' := ?_) (fl 2 15) rfl rfl (any_of HT_.out kr) (fun _ _ _ h => h) (Or.inl ⟨by rfl, ?_⟩) ?_ ?_;rotate_left;(intro w';go_simp;with_reducible rfl);rotate_left;(simp only [Act.put,z0,z1,z2,i64_w,i32_w];rfl);refine pure_ (i := 3) (N := some 28) (v := ?_) (a' := ?_) #[Y,Y,O,Y,O,O,O,O,O,O,O,O,O,O,O,O,O] rfl rfl (any_of HT_.out kr) (fun _ _ _ h => h) (Or.inl ⟨by rfl, ?_⟩) ?_ ?_;rotate_left;(intro w';go_simp;with_reducible rfl);rotate_left;(simp only [Act.put,z0,z1,z2,i64_w,i32_w];rfl);refine pure_ (i := 4) (N := some 29) (v := ?_) (a' := ?_) #[Y,Y,O,Y,Y,O,O,O,O,O,O,O,O,O,O,O,O] rfl rfl (any_of HT_.out kr) (fun _ _ _ h => h) (Or.inl ⟨by rfl, ?_⟩) ?_ ?_;rotate_left;(intro w';go_simp;with_reducible rfl);rotate_left;(simp only [Act.put,z0,z1,z2,i64_w,i32_w];rfl);refine pure_ (i := 5) (N := some 30) (v := ?_) (a' := ?_) #[Y,Y,O,Y,Y,Y,O,O,O,O,O,O,O,O,O,O,O] rfl rfl (any_of HT_.out kr) (fun _ _ _ h => h) (Or.inl ⟨by rfl, ?_⟩) ?_ ?_;rotate_left;(intro w';go_simp;with_reducible rfl);rotate_left;(simp only [Act.put,z0,z1,z2,i64_w,i32_w];rfl);refine take_ (i := 2) (N := some 27) (v := ?_) (a' := ?_) (fl 6 11) rfl rfl (take_ofW HT_.out HW_.out kr) (fun _ _ _ h => h) (Or.inl ⟨by rfl, ?_⟩) hHeld ?_ ?_;rotate_left;(rintro w' ⟨s0, s1, s2⟩;go_simp;with_reducible rfl);rotate_left;(simp only [Act.put,z0,z1,z2,i64_w,i32_w];rfl);refine take_ (i := 6) (N := some 31) (v := ?_) (a' := ?_) (fl 7 10) rfl rfl (take_ofW HT_.out HW_.out kr) (fun _ _ _ h => h) (Or.inl ⟨by rfl, ?_⟩) hHeld ?_ ?_;rotate_left;(rintro w' ⟨s0, s1, s2⟩;go_simp;with_reducible rfl);rotate_left;(simp only [Act.put,z0,z1,z2,i64_w,i32_w];rfl);refine pure_ (i := 7) (N := some 32) (v := ?_) (a' := ?_) (fl 8 9) rfl rfl (any_of HT_.out kr) (fun _ _ _ h => h) (Or.inl ⟨by rfl, ?_⟩) ?_ ?_;rotate_left;(intro w';go_simp;with_reducible rfl);rotate_left;(simp only [Act.put,z0,z1,z2,i64_w,i32_w];rfl);refine pure_ (i := 8) (N := some 33) (v := ?_) (a' := ?_) (fl 9 8) rfl rfl (any_of HT_.out kr) (fun _ _ _ h => h) (Or.inl ⟨by rfl, ?_⟩) ?_ ?_;rotate_left;(intro w';go_simp;with_reducible rfl);rotate_left;(simp only [Act.put,z0,z1,z2,i64_w,i32_w];rfl);refine pure_ (i := 9) (N := some 34) (v := ?_) (a' := ?_) (fl 10 7) rfl rfl (any_of HT_.out kr) (fun _ _ _ h => h) (Or.inl ⟨by rfl, ?_⟩) ?_ ?_;rotate_left;(intro w';go_simp;with_reducible rfl);rotate_left;(simp only [Act.put,z0,z1,z2,i64_w,i32_w];rfl);refine pure_ (i := 10) (N := some 35) (v := ?_) (a' := ?_) (fl 11 6) rfl rfl (any_of HT_.out kr) (fun _ _ _ h => h) (Or.inl ⟨by rfl, ?_⟩) ?_ ?_;rotate_left;(intro w';go_simp;with_reducible rfl);rotate_left;(simp only [Act.put,z0,z1,z2,i64_w,i32_w];rfl);refine pure_ (i := 11) (N := some 36) (v := ?_) (a' := ?_) (fl 12 5) rfl rfl (any_of HT_.out kr) (fun _ _ _ h => h) (Or.inl ⟨by rfl, ?_⟩) ?_ ?_;rotate_left;(intro w';go_simp;with_reducible rfl);rotate_left;(simp only [Act.put,z0,z1,z2,i64_w,i32_w];rfl);refine pure_ (i := 12) (N := some 37) (v := ?_) (a' := ?_) (fl 13 4) rfl rfl (any_of HT_.out kr) (fun _ _ _ h => h) (Or.inl ⟨by rfl, ?_⟩) ?_ ?_;rotate_left;(intro w';go_simp;with_reducible rfl);rotate_left;(simp only [Act.put,z0,z1,z2,i64_w,i32_w];rfl);refine pure_ (i := 13) (N := some 38) (v := ?_) (a' := ?_) (fl 14 3) rfl rfl (any_of HT_.out kr) (fun _ _ _ h => h) (Or.inl ⟨by rfl, ?_⟩) ?_ ?_;rotate_left;(intro w';go_simp;with_reducible rfl);rotate_left;(simp only [Act.put,z0,z1,z2,i64_w,i32_w];rfl);refine take_ (i := 14) (N := some 39) (v := ?_) (a' := ?_) (fl 15 2) rfl rfl (take_ofW HT_.out HW_.out kr) (fun _ _ _ h => h) (Or.inl ⟨by rfl, ?_⟩) hHeld ?_ ?_;rotate_left;(rintro w' ⟨s0, s1, s2⟩;go_simp;with_reducible rfl);rotate_left;(simp only [Act.put,z0,z1,z2,i64_w,i32_w];rfl);refine pure_ (i := 15) (N := some 40) (v := ?_) (a' := ?_) (fl 16 1) rfl rfl (any_of HT_.out kr) (fun _ _ _ h => h) (Or.inl ⟨by rfl, ?_⟩) ?_ ?_;rotate_left;(intro w';go_simp;with_reducible rfl);rotate_left;(simp only [Act.put,z0,z1,z2,i64_w,i32_w];rfl);refine pure_ (i := 16) (N := some 41) (v := ?_) (a' := ?_) (fl 17 0) rfl rfl (any_of HT_.out kr) (fun _ _ _ h => h) (Or.inl ⟨by rfl, ?_⟩) ?_ ?_;rotate_left;(intro w';go_simp;with_reducible rfl);rotate_left;(simp only [Act.put,z0,z1,z2,i64_w,i32_w];rfl);refine done_ (done_of HT_.out kr) ?_
      try go_wp2
      go_meet
      case rel => exact ⟨_, (((t281.length : Int) != (rd y284 x7_1))), sw, H', ⟨by have := HK1.out; first | omega | exact Nat.le_refl _⟩, ⟨by (with_reducible repeat (first | apply RA | apply RN | apply RD)); exact HO_4.out⟩, ⟨by (with_reducible repeat (first | apply RA | apply RN | apply RD)); exact HO_5.out⟩, ⟨by (with_reducible repeat (first | apply RA | apply RN | apply RD)); exact HO_6.out⟩, ⟨by (with_reducible repeat (first | refine YN ?_ _ | refine YD ?_ | refine YA ?_ _)); exact BK280.out⟩, ⟨by repeat (first | (with_reducible first | exact HB.out | apply XA | apply XN | apply XD | refine XS ?_ GE280.out) | exact HB.out)⟩⟩
    case rest =>
     clear HC10
     try clear c1
     try clear p2
     try clear q2
     try clear hx2
     try clear qi2
     try clear c3
     try clear p6
     try clear c9
     try clear c9b0
     try clear c11
     try clear c11b0
     try clear c11b1
     try clear c12
     try clear c12b0
     try clear c13
     try clear c13b0
     try clear c14
     try clear c14b0
     try clear c14b1
     try clear c15
     try clear c15b0
     try clear hx290_0
     try clear hx291_0
     try clear hx292_0
     try clear p2
     try clear p290
     try clear p291
     try clear p292
     try clear p6
     try clear q290
     try clear q291
     try clear q292
     obtain ⟨kq, x41_9, rfl, HA, HJ9, HO_4, HO_5, HO_6, BK280, HB⟩ := hcut
     cases kq with
     | zero => exact absurd HA.out (by simp [r6_Parse.j1])
     | succ kj9 =>
      have H := HA.out;clear HA;simp only [r6_Parse.j1] at H
      by_cases c23 : x41_9 = true
      ·subst c23
       have H1 : (r6_Parse.l0 kj9 t281 y284 y287 (wrap64 (x7_1 + 1))) = some (r1, r2, r3, r4, r5, r6, r7, r8, r9, r10, r11) := by rw [if_pos rfl] at H; exact H
       clear H;have H := H1;clear H1;have H' := As H;clear H
       go_wp2
       go_roundg kj9
       case measure => have := HK1.out; have := HJ9.out; omega
       case rel => exact ⟨(wrap64 (x7_1 + 1)), (x281000_1), (x281001_1), (x281002_1), (x281003_1), (x281004_1), (x281005_1), (x281006_1), (x281007_1), (x281008_1), (x281009_1), sw, H', ⟨by have := HK1.out; have := HJ9.out; omega⟩, ⟨by (with_reducible repeat (first | apply RA | apply RN | apply RD)); exact HO_4.out⟩, ⟨by (with_reducible repeat (first | apply RA | apply RN | apply RD)); exact HO_5.out⟩, ⟨by (with_reducible repeat (first | apply RA | apply RN | apply RD)); exact HO_6.out⟩, ⟨by (with_reducible repeat (first | refine YN ?_ _ | refine YD ?_ | refine YA ?_ _)); exact BK280.out⟩, ⟨by repeat (first | (with_reducible first | exact HB.out | apply XA | apply XN | apply XD | refine XS ?_ GE280.out) | exact HB.out)⟩⟩
      ·replace c23 := Bool.eq_false_iff.mpr c23;subst c23
       have H1 : (if x7_1 = 3 then (if 1 < (t281.length : Int) then ((r6_dates.f kj9 (rdOf ByteArray.empty t281 1)).bind fun bt295 => (if 2 < (t281.length : Int) then ((r6_dates.f kj9 (rdOf ByteArray.empty t281 2)).bind fun bt301 => (if bt295.2.2.2 = true then (if bt301.2.2.2 = true then ((r6_May.f kj9 x7_1 0 0 0 bt295.1 bt295.2.1 bt295.2.2.1 bt301.1 bt301.2.1 bt301.2.2.1).bind fun t306 => (r6_Parse.j2 kj9 (!t306) x7_1 0 0 0 bt295.1 bt295.2.1 bt295.2.2.1 bt301.1 bt301.2.1 bt301.2.2.1)) else (r6_Parse.j2 kj9 true x7_1 0 0 0 bt295.1 bt295.2.1 bt295.2.2.1 bt301.1 bt301.2.1 bt301.2.2.1)) else (r6_Parse.j2 kj9 true x7_1 0 0 0 bt295.1 bt295.2.1 bt295.2.2.1 bt301.1 bt301.2.1 bt301.2.2.1))) else (none))) else (none)) else (r6_Parse.l1 kj9 t281 x7_1 1 x7_1 0 0 0 0 0 0 0 0 0 0 0 0)) = some (r1, r2, r3, r4, r5, r6, r7, r8, r9, r10, r11) := by rw [if_neg (show ¬ (false = true) by decide)] at H; exact H
       clear H;have H := H1;clear H1
       by_cases c24 : x7_1 = 3
       ·rw [if_pos c24] at H;have c24b0 : (x7_1 == 3) = true := beq_iff_eq.mpr c24;have c24b1 : (x7_1 != 3) = false := bne_eq_false_iff_eq.mpr c24;clear c24
        by_cases c25 : 1 < (t281.length : Int)
        ·rw [if_pos c25] at H;have c25b0 : decide (1 < (t281.length : Int)) = true := dY c25;have c25b1 : decide (1 < t281.length) = true := dY (by omega);clear c25;replace H := bE H;obtain ⟨⟨t295, t296, t297, t298⟩, A260, H⟩ := H;replace H : (if 2 < (t281.length : Int) then ((r6_dates.f kj9 (rdOf ByteArray.empty t281 2)).bind fun bt301 => (if t298 = true then (if bt301.2.2.2 = true then ((r6_May.f kj9 x7_1 0 0 0 t295 t296 t297 bt301.1 bt301.2.1 bt301.2.2.1).bind fun t306 => (r6_Parse.j2 kj9 (!t306) x7_1 0 0 0 t295 t296 t297 bt301.1 bt301.2.1 bt301.2.2.1)) else (r6_Parse.j2 kj9 true x7_1 0 0 0 t295 t296 t297 bt301.1 bt301.2.1 bt301.2.2.1)) else (r6_Parse.j2 kj9 true x7_1 0 0 0 t295 t296 t297 bt301.1 bt301.2.1 bt301.2.2.1))) else (none)) = some (r1, r2, r3, r4, r5, r6, r7, r8, r9, r10, r11) := H;have A26 := As A260;clear A260
         by_cases c27 : 2 < (t281.length : Int)
         ·rw [if_pos c27] at H;have c27b0 : decide (2 < (t281.length : Int)) = true := dY c27;have c27b1 : decide (2 < t281.length) = true := dY (by omega);clear c27;replace H := bE H;obtain ⟨⟨t301, t302, t303, t304⟩, A280, H⟩ := H;replace H : (if t298 = true then (if t304 = true then ((r6_May.f kj9 x7_1 0 0 0 t295 t296 t297 t301 t302 t303).bind fun t306 => (r6_Parse.j2 kj9 (!t306) x7_1 0 0 0 t295 t296 t297 t301 t302 t303)) else (r6_Parse.j2 kj9 true x7_1 0 0 0 t295 t296 t297 t301 t302 t303)) else (r6_Parse.j2 kj9 true x7_1 0 0 0 t295 t296 t297 t301 t302 t303)) = some (r1, r2, r3, r4, r5, r6, r7, r8, r9, r10, r11) := H;have A28 := As A280;clear A280;have HC29 := As H;clear H
          try go_wp2_with (first | ((with_reducible refine gate_dst (N := 8) rfl ?_); (try (refine gate_guard (by rfl) ?_; dsimp only)); refine box_event ?hg (N := 8) ?hd (cs := #[.int .i64 0, .int .i64 0, .int .i64 0, .int .i64 0, .int .i64 0, .int .i64 0, .int .i64 0, .int .i64 0, .int .i64 0, .int .i64 0]) (t := 25) ?hr ?_; (case hd => rfl); (case hg => rfl); (case hr => first | (go_simp; done) | (go_simp; rfl)); intro gb293 hg w30 hbox hb; replace HO_4 := As (RB (ro HO_4.out) hb); replace HO_5 := As (RB (ro HO_5.out) hb); replace HO_6 := As (RB (ro HO_6.out) hb); have BK293 := As (hbox); have GW293 := As ((gz hg (be HB.out) : w.heap.size ≤ gb293)); have GE293 := As ((gz hg (be HB.out) : w.heap.size ≤ gb293)); replace HB := As (XT (be HB.out) hb); have NB280_293 := As ((nl hg (bk BK280.out) : gb280 ≠ gb293)); have NB293_280 := As ((ng hg (bk BK280.out) : gb293 ≠ gb280)); replace BK280 := As (YB (g := gb280) (o := .cells #[.int .i64 x281000_1, .int .i64 x281001_1, .int .i64 x281002_1, .int .i64 x281003_1, .int .i64 x281004_1, .int .i64 x281005_1, .int .i64 x281006_1, .int .i64 x281007_1, .int .i64 x281008_1, .int .i64 x281009_1] 25 (0, 0)) (bk BK280.out) hb); clear hb hbox hg; have hnb31 := NB293_280.out; have hnc31 := NB280_293.out; obtain ⟨hcz32_0, hcz32_1, hcz32_2, hcz32_3, hcz32_4, hcz32_5, hcz32_6, hcz32_7, hcz32_8, hcz32_9, hfz32_0, hfz32_1, hfz32_2, hfz32_3, hfz32_4, hfz32_5, hfz32_6, hfz32_7, hfz32_8, hfz32_9⟩ := cz10 BK293.out; obtain ⟨Ao33, co33, eo33⟩ := Kd.R_slice HO_4.out; subst eo33; have p294 : 0 ≤ (1 : Int) := (by omega); have q294 : 1 < (t281.length : Int) := dT hy; obtain ⟨ad294, e294, hx294_0⟩ := Kd.at_string (RR HO_4.out).2.2 1 p294 q294; cases e294; (try simp only [show (1 : Int).toNat = 1 from rfl, Nat.reduceMul, Nat.reduceEqDiff, Go.Addr.add, ↓reduceIte] at hx294_0); have qi294 : (1 < t281.length) = True := eq_true (by omega); (try rw [show ((1 : Int)).toNat = 1 from rfl] at hx294_0); have hn294_0 : ad294.block ≠ gb293 := Kd.own_blk (Kd.R_ne HO_4.out BK293.out (by decide)); have hn294_1 : ad294.block ≠ gb293 := Kd.own_blk (Kd.R_ne HO_4.out BK293.out (by decide)); have hn294_2 : ad294.block ≠ gb293 := Kd.own_blk (Kd.R_ne HO_4.out BK293.out (by decide)); have hn294_3 : ad294.block ≠ gb293 := Kd.own_blk (Kd.R_ne HO_4.out BK293.out (by decide)); have hn294_4 : ad294.block ≠ gb293 := Kd.own_blk (Kd.R_ne HO_4.out BK293.out (by decide)); have hn294_5 : ad294.block ≠ gb293 := Kd.own_blk (Kd.R_ne HO_4.out BK293.out (by decide)); have hn294_6 : ad294.block ≠ gb293 := Kd.own_blk (Kd.R_ne HO_4.out BK293.out (by decide)); have hn294_7 : ad294.block ≠ gb293 := Kd.own_blk (Kd.R_ne HO_4.out BK293.out (by decide)); have hn294_8 : ad294.block ≠ gb293 := Kd.own_blk (Kd.R_ne HO_4.out BK293.out (by decide)); have hn294_9 : ad294.block ≠ gb293 := Kd.own_blk (Kd.R_ne HO_4.out BK293.out (by decide)); replace hx294_0 := (cell_far (p := ⟨gb293, 0, none⟩) (by first | (rw [add_block]; exact hn294_0) | (show (Addr.add _ _).block ≠ _; rw [add_block]; exact hn294_0) | exact hn294_0) (.int .i64 x7_1)).trans hx294_0; replace hx294_0 := (cell_far (p := ⟨gb293, 1, none⟩) (by first | (rw [add_block]; exact hn294_1) | (show (Addr.add _ _).block ≠ _; rw [add_block]; exact hn294_1) | exact hn294_1) (.int .i64 0)).trans hx294_0; replace hx294_0 := (cell_far (p := ⟨gb293, 2, none⟩) (by first | (rw [add_block]; exact hn294_2) | (show (Addr.add _ _).block ≠ _; rw [add_block]; exact hn294_2) | exact hn294_2) (.int .i64 0)).trans hx294_0; replace hx294_0 := (cell_far (p := ⟨gb293, 3, none⟩) (by first | (rw [add_block]; exact hn294_3) | (show (Addr.add _ _).block ≠ _; rw [add_block]; exact hn294_3) | exact hn294_3) (.int .i64 0)).trans hx294_0; replace hx294_0 := (cell_far (p := ⟨gb293, 4, none⟩) (by first | (rw [add_block]; exact hn294_4) | (show (Addr.add _ _).block ≠ _; rw [add_block]; exact hn294_4) | exact hn294_4) (.int .i64 0)).trans hx294_0; replace hx294_0 := (cell_far (p := ⟨gb293, 5, none⟩) (by first | (rw [add_block]; exact hn294_5) | (show (Addr.add _ _).block ≠ _; rw [add_block]; exact hn294_5) | exact hn294_5) (.int .i64 0)).trans hx294_0; replace hx294_0 := (cell_far (p := ⟨gb293, 6, none⟩) (by first | (rw [add_block]; exact hn294_6) | (show (Addr.add _ _).block ≠ _; rw [add_block]; exact hn294_6) | exact hn294_6) (.int .i64 0)).trans hx294_0; replace hx294_0 := (cell_far (p := ⟨gb293, 7, none⟩) (by first | (rw [add_block]; exact hn294_7) | (show (Addr.add _ _).block ≠ _; rw [add_block]; exact hn294_7) | exact hn294_7) (.int .i64 0)).trans hx294_0; replace hx294_0 := (cell_far (p := ⟨gb293, 8, none⟩) (by first | (rw [add_block]; exact hn294_8) | (show (Addr.add _ _).block ≠ _; rw [add_block]; exact hn294_8) | exact hn294_8) (.int .i64 0)).trans hx294_0; replace hx294_0 := (cell_far (p := ⟨gb293, 9, none⟩) (by first | (rw [add_block]; exact hn294_9) | (show (Addr.add _ _).block ≠ _; rw [add_block]; exact hn294_9) | exact hn294_9) (.int .i64 0)).trans hx294_0; clear hn294_0; clear hn294_1; clear hn294_2; clear hn294_3; clear hn294_4; clear hn294_5; clear hn294_6; clear hn294_7; clear hn294_8; clear hn294_9; replace p294 := eq_true p294; replace q294 := eq_true q294) | ((with_reducible refine gate_callee (f := 35) rfl ?_); refine goesL_ (some 50) rfl rfl Tryz.func35 kr rfl #[.string (rdOf ByteArray.empty t281 1)] rfl sa ?_; (with_reducible refine (r6_dates.calls kj9 (rdOf ByteArray.empty t281 1) _ _ _ _ _ A26.out).mono ?_); rintro e w34 ⟨rfl, hb⟩; refine ⟨_, rfl, ?_⟩; replace HO_4 := As (RB (by (with_reducible repeat (first | apply RA | apply RN | apply RD)); exact (RM (RF (p := ⟨gb293, 9, none⟩) (RF (p := ⟨gb293, 8, none⟩) (RF (p := ⟨gb293, 7, none⟩) (RF (p := ⟨gb293, 6, none⟩) (RF (p := ⟨gb293, 5, none⟩) (RF (p := ⟨gb293, 4, none⟩) (RF (p := ⟨gb293, 3, none⟩) (RF (p := ⟨gb293, 2, none⟩) (RF (p := ⟨gb293, 1, none⟩) (RF (p := ⟨gb293, 0, none⟩) (Kd.R_types HO_4.out BK293.out (by decide)) (fun _ hk => hk.2) (.int .i64 x7_1)) (fun _ hk => hk.2) (.int .i64 0)) (fun _ hk => hk.2) (.int .i64 0)) (fun _ hk => hk.2) (.int .i64 0)) (fun _ hk => hk.2) (.int .i64 0)) (fun _ hk => hk.2) (.int .i64 0)) (fun _ hk => hk.2) (.int .i64 0)) (fun _ hk => hk.2) (.int .i64 0)) (fun _ hk => hk.2) (.int .i64 0)) (fun _ hk => hk.2) (.int .i64 0)) (fun _ h_ => h_.1))) hb); replace HO_5 := As (RB (by (with_reducible repeat (first | apply RA | apply RN | apply RD)); exact (RM (RF (p := ⟨gb293, 9, none⟩) (RF (p := ⟨gb293, 8, none⟩) (RF (p := ⟨gb293, 7, none⟩) (RF (p := ⟨gb293, 6, none⟩) (RF (p := ⟨gb293, 5, none⟩) (RF (p := ⟨gb293, 4, none⟩) (RF (p := ⟨gb293, 3, none⟩) (RF (p := ⟨gb293, 2, none⟩) (RF (p := ⟨gb293, 1, none⟩) (RF (p := ⟨gb293, 0, none⟩) (Kd.R_types HO_5.out BK293.out (by decide)) (fun _ hk => hk.2) (.int .i64 x7_1)) (fun _ hk => hk.2) (.int .i64 0)) (fun _ hk => hk.2) (.int .i64 0)) (fun _ hk => hk.2) (.int .i64 0)) (fun _ hk => hk.2) (.int .i64 0)) (fun _ hk => hk.2) (.int .i64 0)) (fun _ hk => hk.2) (.int .i64 0)) (fun _ hk => hk.2) (.int .i64 0)) (fun _ hk => hk.2) (.int .i64 0)) (fun _ hk => hk.2) (.int .i64 0)) (fun _ h_ => h_.1))) hb); replace HO_6 := As (RB (by (with_reducible repeat (first | apply RA | apply RN | apply RD)); exact (RM (RF (p := ⟨gb293, 9, none⟩) (RF (p := ⟨gb293, 8, none⟩) (RF (p := ⟨gb293, 7, none⟩) (RF (p := ⟨gb293, 6, none⟩) (RF (p := ⟨gb293, 5, none⟩) (RF (p := ⟨gb293, 4, none⟩) (RF (p := ⟨gb293, 3, none⟩) (RF (p := ⟨gb293, 2, none⟩) (RF (p := ⟨gb293, 1, none⟩) (RF (p := ⟨gb293, 0, none⟩) (Kd.R_types HO_6.out BK293.out (by decide)) (fun _ hk => hk.2) (.int .i64 x7_1)) (fun _ hk => hk.2) (.int .i64 0)) (fun _ hk => hk.2) (.int .i64 0)) (fun _ hk => hk.2) (.int .i64 0)) (fun _ hk => hk.2) (.int .i64 0)) (fun _ hk => hk.2) (.int .i64 0)) (fun _ hk => hk.2) (.int .i64 0)) (fun _ hk => hk.2) (.int .i64 0)) (fun _ hk => hk.2) (.int .i64 0)) (fun _ hk => hk.2) (.int .i64 0)) (fun _ h_ => h_.1))) hb); replace BK280 := As (YB (g := gb280) (o := .cells #[.int .i64 x281000_1, .int .i64 x281001_1, .int .i64 x281002_1, .int .i64 x281003_1, .int .i64 x281004_1, .int .i64 x281005_1, .int .i64 x281006_1, .int .i64 x281007_1, .int .i64 x281008_1, .int .i64 x281009_1] 25 (0, 0)) (by (iterate 10 ((with_reducible repeat (first | refine YN ?_ _ | refine YD ?_ | refine YA ?_ _)); refine blk_far ?_ NB280_293.out _)); (with_reducible repeat (first | refine YN ?_ _ | refine YD ?_ | refine YA ?_ _)); exact BK280.out) hb); replace BK293 := As (YB (g := gb293) (o := .cells #[.int .i64 x7_1, .int .i64 0, .int .i64 0, .int .i64 0, .int .i64 0, .int .i64 0, .int .i64 0, .int .i64 0, .int .i64 0, .int .i64 0] 25 (0, 0)) (by apply blk_to; (iterate 10 ((with_reducible repeat (first | refine YN ?_ _ | refine YD ?_ | refine YA ?_ _)); apply blk_set)); (with_reducible repeat (first | refine YN ?_ _ | refine YD ?_ | refine YA ?_ _)); exact BK293.out; simp only [z0,z1,z2]) hb); replace HB := As (XT (be HB.out) hb); (try clear hb); (try clear hb2); (try clear hk); (try clear hi)) | ((with_reducible refine gate_dst (N := 9) rfl ?_); (try (refine gate_guard (by rfl) ?_; dsimp only)); refine box_event ?hg (N := 9) ?hd (cs := #[.int .i64 0, .int .i64 0, .int .i64 0]) (t := 23) ?hr ?_; (case hd => rfl); (case hg => rfl); (case hr => first | (go_simp; done) | (go_simp; rfl)); intro gb299 hg w35 hbox hb; replace HO_4 := As (RB (ro HO_4.out) hb); replace HO_5 := As (RB (ro HO_5.out) hb); replace HO_6 := As (RB (ro HO_6.out) hb); have BK299 := As (hbox); have GW299 := As ((gz hg (be HB.out) : w.heap.size ≤ gb299)); have GE299 := As ((gz hg (be HB.out) : w.heap.size ≤ gb299)); replace HB := As (XT (be HB.out) hb); have NB280_299 := As ((nl hg (bk BK280.out) : gb280 ≠ gb299)); have NB299_280 := As ((ng hg (bk BK280.out) : gb299 ≠ gb280)); replace BK280 := As (YB (g := gb280) (o := .cells #[.int .i64 x281000_1, .int .i64 x281001_1, .int .i64 x281002_1, .int .i64 x281003_1, .int .i64 x281004_1, .int .i64 x281005_1, .int .i64 x281006_1, .int .i64 x281007_1, .int .i64 x281008_1, .int .i64 x281009_1] 25 (0, 0)) (bk BK280.out) hb); have NB293_299 := As ((nl hg (bk BK293.out) : gb293 ≠ gb299)); have NB299_293 := As ((ng hg (bk BK293.out) : gb299 ≠ gb293)); replace BK293 := As (YB (g := gb293) (o := .cells #[.int .i64 x7_1, .int .i64 0, .int .i64 0, .int .i64 0, .int .i64 0, .int .i64 0, .int .i64 0, .int .i64 0, .int .i64 0, .int .i64 0] 25 (0, 0)) (bk BK293.out) hb); clear hb hbox hg; have hnb36 := NB299_280.out; have hnc36 := NB280_299.out; have hnb37 := NB299_293.out; have hnc37 := NB293_299.out; obtain ⟨hcz38_0, hcz38_1, hcz38_2, hfz38_0, hfz38_1, hfz38_2⟩ := cz3 BK299.out; have p300 : 0 ≤ (2 : Int) := (by omega); have q300 : 2 < (t281.length : Int) := dT hy; obtain ⟨ad300, e300, hx300_0⟩ := Kd.at_string (RR HO_4.out).2.2 2 p300 q300; obtain rfl : ad294 = ad300 := (by injection e300); (try simp only [show (2 : Int).toNat = 2 from rfl, Nat.reduceMul, Nat.reduceEqDiff, Go.Addr.add, ↓reduceIte] at hx300_0); have qi300 : (2 < t281.length) = True := eq_true (by omega); (try rw [show ((2 : Int)).toNat = 2 from rfl] at hx300_0); have hn300_0 : ad294.block ≠ gb299 := Kd.own_blk (Kd.R_ne HO_4.out BK299.out (by decide)); have hn300_1 : ad294.block ≠ gb299 := Kd.own_blk (Kd.R_ne HO_4.out BK299.out (by decide)); have hn300_2 : ad294.block ≠ gb299 := Kd.own_blk (Kd.R_ne HO_4.out BK299.out (by decide)); replace hx300_0 := (cell_far (p := ⟨gb299, 0, none⟩) (by first | (rw [add_block]; exact hn300_0) | (show (Addr.add _ _).block ≠ _; rw [add_block]; exact hn300_0) | exact hn300_0) (.int .i64 t295)).trans hx300_0; replace hx300_0 := (cell_far (p := ⟨gb299, 1, none⟩) (by first | (rw [add_block]; exact hn300_1) | (show (Addr.add _ _).block ≠ _; rw [add_block]; exact hn300_1) | exact hn300_1) (.int .i64 t296)).trans hx300_0; replace hx300_0 := (cell_far (p := ⟨gb299, 2, none⟩) (by first | (rw [add_block]; exact hn300_2) | (show (Addr.add _ _).block ≠ _; rw [add_block]; exact hn300_2) | exact hn300_2) (.int .i64 t297)).trans hx300_0; clear hn300_0; clear hn300_1; clear hn300_2; replace p300 := eq_true p300; replace q300 := eq_true q300) | ((with_reducible refine gate_callee (f := 35) rfl ?_); refine goesL_ (some 57) rfl rfl Tryz.func35 kr rfl #[.string (rdOf ByteArray.empty t281 2)] rfl sa ?_; (with_reducible refine (r6_dates.calls kj9 (rdOf ByteArray.empty t281 2) _ _ _ _ _ A28.out).mono ?_); rintro e w39 ⟨rfl, hb⟩; refine ⟨_, rfl, ?_⟩; replace HO_4 := As (RB (by (with_reducible repeat (first | apply RA | apply RN | apply RD)); exact (RM (RF (p := ⟨gb299, 2, none⟩) (RF (p := ⟨gb299, 1, none⟩) (RF (p := ⟨gb299, 0, none⟩) (Kd.R_types HO_4.out BK299.out (by decide)) (fun _ hk => hk.2) (.int .i64 t295)) (fun _ hk => hk.2) (.int .i64 t296)) (fun _ hk => hk.2) (.int .i64 t297)) (fun _ h_ => h_.1))) hb); replace HO_5 := As (RB (by (with_reducible repeat (first | apply RA | apply RN | apply RD)); exact (RM (RF (p := ⟨gb299, 2, none⟩) (RF (p := ⟨gb299, 1, none⟩) (RF (p := ⟨gb299, 0, none⟩) (Kd.R_types HO_5.out BK299.out (by decide)) (fun _ hk => hk.2) (.int .i64 t295)) (fun _ hk => hk.2) (.int .i64 t296)) (fun _ hk => hk.2) (.int .i64 t297)) (fun _ h_ => h_.1))) hb); replace HO_6 := As (RB (by (with_reducible repeat (first | apply RA | apply RN | apply RD)); exact (RM (RF (p := ⟨gb299, 2, none⟩) (RF (p := ⟨gb299, 1, none⟩) (RF (p := ⟨gb299, 0, none⟩) (Kd.R_types HO_6.out BK299.out (by decide)) (fun _ hk => hk.2) (.int .i64 t295)) (fun _ hk => hk.2) (.int .i64 t296)) (fun _ hk => hk.2) (.int .i64 t297)) (fun _ h_ => h_.1))) hb); replace BK280 := As (YB (g := gb280) (o := .cells #[.int .i64 x281000_1, .int .i64 x281001_1, .int .i64 x281002_1, .int .i64 x281003_1, .int .i64 x281004_1, .int .i64 x281005_1, .int .i64 x281006_1, .int .i64 x281007_1, .int .i64 x281008_1, .int .i64 x281009_1] 25 (0, 0)) (by (iterate 3 ((with_reducible repeat (first | refine YN ?_ _ | refine YD ?_ | refine YA ?_ _)); refine blk_far ?_ NB280_299.out _)); (with_reducible repeat (first | refine YN ?_ _ | refine YD ?_ | refine YA ?_ _)); exact BK280.out) hb); replace BK293 := As (YB (g := gb293) (o := .cells #[.int .i64 x7_1, .int .i64 0, .int .i64 0, .int .i64 0, .int .i64 0, .int .i64 0, .int .i64 0, .int .i64 0, .int .i64 0, .int .i64 0] 25 (0, 0)) (by (iterate 3 ((with_reducible repeat (first | refine YN ?_ _ | refine YD ?_ | refine YA ?_ _)); refine blk_far ?_ NB293_299.out _)); (with_reducible repeat (first | refine YN ?_ _ | refine YD ?_ | refine YA ?_ _)); exact BK293.out) hb); replace BK299 := As (YB (g := gb299) (o := .cells #[.int .i64 t295, .int .i64 t296, .int .i64 t297] 23 (0, 0)) (by apply blk_to; (iterate 3 ((with_reducible repeat (first | refine YN ?_ _ | refine YD ?_ | refine YA ?_ _)); apply blk_set)); (with_reducible repeat (first | refine YN ?_ _ | refine YD ?_ | refine YA ?_ _)); exact BK299.out; simp only [z0,z1,z2]) hb); replace HB := As (XT (be HB.out) hb); (try clear hb); (try clear hb2); (try clear hk); (try clear hi)) | ((with_reducible refine gate_dst (N := 11) rfl ?_); (try (refine gate_guard (by rfl) ?_; dsimp only)); refine box_event ?hg (N := 11) ?hd (cs := #[.int .i64 0, .int .i64 0, .int .i64 0]) (t := 23) ?hr ?_; (case hd => rfl); (case hg => rfl); (case hr => first | (go_simp; done) | (go_simp; rfl)); intro gb305 hg w40 hbox hb; replace HO_4 := As (RB (ro HO_4.out) hb); replace HO_5 := As (RB (ro HO_5.out) hb); replace HO_6 := As (RB (ro HO_6.out) hb); have BK305 := As (hbox); have GW305 := As ((gz hg (be HB.out) : w.heap.size ≤ gb305)); have GE305 := As ((gz hg (be HB.out) : w.heap.size ≤ gb305)); replace HB := As (XT (be HB.out) hb); have NB280_305 := As ((nl hg (bk BK280.out) : gb280 ≠ gb305)); have NB305_280 := As ((ng hg (bk BK280.out) : gb305 ≠ gb280)); replace BK280 := As (YB (g := gb280) (o := .cells #[.int .i64 x281000_1, .int .i64 x281001_1, .int .i64 x281002_1, .int .i64 x281003_1, .int .i64 x281004_1, .int .i64 x281005_1, .int .i64 x281006_1, .int .i64 x281007_1, .int .i64 x281008_1, .int .i64 x281009_1] 25 (0, 0)) (bk BK280.out) hb); have NB293_305 := As ((nl hg (bk BK293.out) : gb293 ≠ gb305)); have NB305_293 := As ((ng hg (bk BK293.out) : gb305 ≠ gb293)); replace BK293 := As (YB (g := gb293) (o := .cells #[.int .i64 x7_1, .int .i64 0, .int .i64 0, .int .i64 0, .int .i64 0, .int .i64 0, .int .i64 0, .int .i64 0, .int .i64 0, .int .i64 0] 25 (0, 0)) (bk BK293.out) hb); have NB299_305 := As ((nl hg (bk BK299.out) : gb299 ≠ gb305)); have NB305_299 := As ((ng hg (bk BK299.out) : gb305 ≠ gb299)); replace BK299 := As (YB (g := gb299) (o := .cells #[.int .i64 t295, .int .i64 t296, .int .i64 t297] 23 (0, 0)) (bk BK299.out) hb); clear hb hbox hg; have hnb41 := NB305_280.out; have hnc41 := NB280_305.out; have hnb42 := NB305_293.out; have hnc42 := NB293_305.out; have hnb43 := NB305_299.out; have hnc43 := NB299_305.out; obtain ⟨hcz44_0, hcz44_1, hcz44_2, hfz44_0, hfz44_1, hfz44_2⟩ := cz3 BK305.out))
          have n0_ : Aside0 (Kd.R Kd.string 9 (((w40.setCell ⟨gb305, 0, none⟩ (.int .i64 t301)).setCell ⟨gb305, 1, none⟩ (.int .i64 t302)).setCell ⟨gb305, 2, none⟩ (.int .i64 t303)) w.heap.size (fun k_ => some k_ ≠ (v288 : Value).ownBlock) (.slice (some ad294) t281.length co33) t281) := ⟨by (with_reducible repeat (first | apply RA | apply RN | apply RD)); exact RM (RF (p := ⟨gb305, 2, none⟩) (RF (p := ⟨gb305, 1, none⟩) (RF (p := ⟨gb305, 0, none⟩) (Kd.R_types HO_4.out BK305.out (by decide)) (fun _ hk => hk.2) (.int .i64 t301)) (fun _ hk => hk.2) (.int .i64 t302)) (fun _ hk => hk.2) (.int .i64 t303)) (fun _ hk => hk.1)⟩
          have n1_ : Aside0 (Kd.R (Kd.int .i64) 3 (((w40.setCell ⟨gb305, 0, none⟩ (.int .i64 t301)).setCell ⟨gb305, 1, none⟩ (.int .i64 t302)).setCell ⟨gb305, 2, none⟩ (.int .i64 t303)) w.heap.size (fun _ => True) v285 y284) := ⟨by (with_reducible repeat (first | apply RA | apply RN | apply RD)); exact RM (RF (p := ⟨gb305, 2, none⟩) (RF (p := ⟨gb305, 1, none⟩) (RF (p := ⟨gb305, 0, none⟩) (Kd.R_types HO_5.out BK305.out (by decide)) (fun _ hk => hk.2) (.int .i64 t301)) (fun _ hk => hk.2) (.int .i64 t302)) (fun _ hk => hk.2) (.int .i64 t303)) (fun _ hk => trivial)⟩
          have n2_ : Aside0 (Kd.R Kd.string 9 (((w40.setCell ⟨gb305, 0, none⟩ (.int .i64 t301)).setCell ⟨gb305, 1, none⟩ (.int .i64 t302)).setCell ⟨gb305, 2, none⟩ (.int .i64 t303)) w.heap.size (fun k_ => some k_ ≠ (.slice (some ad294) t281.length co33 : Value).ownBlock) v288 y287) := ⟨by (with_reducible repeat (first | apply RA | apply RN | apply RD)); exact RM (RF (p := ⟨gb305, 2, none⟩) (RF (p := ⟨gb305, 1, none⟩) (RF (p := ⟨gb305, 0, none⟩) (Kd.R_types HO_6.out BK305.out (by decide)) (fun _ hk => hk.2) (.int .i64 t301)) (fun _ hk => hk.2) (.int .i64 t302)) (fun _ hk => hk.2) (.int .i64 t303)) (fun _ hk => hk.1)⟩
          have n3_ : Aside0 ((((w40.setCell ⟨gb305, 0, none⟩ (.int .i64 t301)).setCell ⟨gb305, 1, none⟩ (.int .i64 t302)).setCell ⟨gb305, 2, none⟩ (.int .i64 t303)).heap[gb280]? = some (.cells #[.int .i64 x281000_1, .int .i64 x281001_1, .int .i64 x281002_1, .int .i64 x281003_1, .int .i64 x281004_1, .int .i64 x281005_1, .int .i64 x281006_1, .int .i64 x281007_1, .int .i64 x281008_1, .int .i64 x281009_1] 25 (0, 0))) := ⟨by (iterate 3 ((with_reducible repeat (first | refine YN ?_ _ | refine YD ?_ | refine YA ?_ _)); refine blk_far ?_ NB280_305.out _)); (with_reducible repeat (first | refine YN ?_ _ | refine YD ?_ | refine YA ?_ _)); exact BK280.out⟩
          have n4_ : Aside0 ((((w40.setCell ⟨gb305, 0, none⟩ (.int .i64 t301)).setCell ⟨gb305, 1, none⟩ (.int .i64 t302)).setCell ⟨gb305, 2, none⟩ (.int .i64 t303)).heap[gb293]? = some (.cells #[.int .i64 x7_1, .int .i64 0, .int .i64 0, .int .i64 0, .int .i64 0, .int .i64 0, .int .i64 0, .int .i64 0, .int .i64 0, .int .i64 0] 25 (0, 0))) := ⟨by (iterate 3 ((with_reducible repeat (first | refine YN ?_ _ | refine YD ?_ | refine YA ?_ _)); refine blk_far ?_ NB293_305.out _)); (with_reducible repeat (first | refine YN ?_ _ | refine YD ?_ | refine YA ?_ _)); exact BK293.out⟩
          have n5_ : Aside0 ((((w40.setCell ⟨gb305, 0, none⟩ (.int .i64 t301)).setCell ⟨gb305, 1, none⟩ (.int .i64 t302)).setCell ⟨gb305, 2, none⟩ (.int .i64 t303)).heap[gb299]? = some (.cells #[.int .i64 t295, .int .i64 t296, .int .i64 t297] 23 (0, 0))) := ⟨by (iterate 3 ((with_reducible repeat (first | refine YN ?_ _ | refine YD ?_ | refine YA ?_ _)); refine blk_far ?_ NB299_305.out _)); (with_reducible repeat (first | refine YN ?_ _ | refine YD ?_ | refine YA ?_ _)); exact BK299.out⟩
          have n6_ : Aside0 ((((w40.setCell ⟨gb305, 0, none⟩ (.int .i64 t301)).setCell ⟨gb305, 1, none⟩ (.int .i64 t302)).setCell ⟨gb305, 2, none⟩ (.int .i64 t303)).heap[gb305]? = some (.cells #[.int .i64 t301, .int .i64 t302, .int .i64 t303] 23 (0, 0))) := ⟨by apply blk_to; (iterate 3 ((with_reducible repeat (first | refine YN ?_ _ | refine YD ?_ | refine YA ?_ _)); apply blk_set)); (with_reducible repeat (first | refine YN ?_ _ | refine YD ?_ | refine YA ?_ _)); exact BK305.out; simp only [z0,z1,z2]⟩
          have n7_ : Aside0 (Below w.heap.size w (((w40.setCell ⟨gb305, 0, none⟩ (.int .i64 t301)).setCell ⟨gb305, 1, none⟩ (.int .i64 t302)).setCell ⟨gb305, 2, none⟩ (.int .i64 t303))) := ⟨by repeat (first | (with_reducible first | exact HB.out | apply XA | apply XN | apply XD | refine XS ?_ GE280.out | refine XS ?_ GE293.out | refine XS ?_ GE299.out | refine XS ?_ GE305.out) | exact HB.out)⟩
          (try clear HO_4)
          (try clear HO_5)
          (try clear HO_6)
          (try clear BK280)
          (try clear BK293)
          (try clear BK299)
          (try clear BK305)
          (try clear HB)
          generalize (((w40.setCell ⟨gb305, 0, none⟩ (.int .i64 t301)).setCell ⟨gb305, 1, none⟩ (.int .i64 t302)).setCell ⟨gb305, 2, none⟩ (.int .i64 t303)) = w45 at n0_ n1_ n2_ n3_ n4_ n5_ n6_ n7_ ⊢;have HO_4 := n0_;have HO_5 := n1_;have HO_6 := n2_;have BK280 := n3_;have BK293 := n4_;have BK299 := n5_;have BK305 := n6_;have HB := n7_;clear n0_ n1_ n2_ n3_ n4_ n5_ n6_ n7_;replace HO_4 := As (RD HO_4.out);replace HO_5 := As (RD HO_5.out);replace HO_6 := As (RD HO_6.out);replace BK280 := As (YD BK280.out);replace BK293 := As (YD BK293.out);replace BK299 := As (YD BK299.out);replace BK305 := As (YD BK305.out);replace HB := As (XD HB.out);refine start_ (n := 6) (S := fun w' => w'.cell? ⟨gb299, 0, none⟩ = some (.int .i64 t295) ∧ w'.cell? ⟨gb299, 1, none⟩ = some (.int .i64 t296) ∧ w'.cell? ⟨gb299, 2, none⟩ = some (.int .i64 t297) ∧ w'.cell? ⟨gb305, 0, none⟩ = some (.int .i64 t301) ∧ w'.cell? ⟨gb305, 1, none⟩ = some (.int .i64 t302) ∧ w'.cell? ⟨gb305, 2, none⟩ = some (.int .i64 t303)) (ds := []) (fl 0 6) kr rfl rfl ⟨bc BK299.out 0 rfl, bc BK299.out 1 rfl, bc BK299.out 2 rfl, bc BK305.out 0 rfl, bc BK305.out 1 rfl, bc BK305.out 2 rfl⟩ (fun hHeld => ?_);generalize w45.drew = w46 at HO_4 HO_5 HO_6 BK280 BK293 BK299 BK305 HB hHeld ⊢;refine take_ (i := 0) (N := some 60) (v := ?_) (a' := ?_) (fl 1 5) rfl rfl kr (fun _ _ _ h => h) (Or.inl ⟨by rfl, ?_⟩) hHeld ?_ ?_;rotate_left;(rintro w' ⟨s0, s1, s2, s3, s4, s5⟩;go_simp;with_reducible rfl);rotate_left;(simp only [Act.put,z0,z1,z2,i64_w,i32_w];rfl);refine pure_ (i := 2) (N := some 62) (v := ?_) (a' := ?_) #[Y,O,Y,O,O,O] rfl rfl kr (fun _ _ _ h => h) (Or.inl ⟨by rfl, ?_⟩) ?_ ?_;rotate_left;(intro w';go_simp;with_reducible rfl);rotate_left;(simp only [Act.put,z0,z1,z2,i64_w,i32_w];rfl);refine take_ (i := 1) (N := some 61) (v := ?_) (a' := ?_) (fl 3 3) rfl rfl kr (fun _ _ _ h => h) (Or.inl ⟨by rfl, ?_⟩) hHeld ?_ ?_;rotate_left;(rintro w' ⟨s0, s1, s2, s3, s4, s5⟩;go_simp;with_reducible rfl);rotate_left;(simp only [Act.put,z0,z1,z2,i64_w,i32_w];rfl);refine one_ (i := 3) (N := none) (fl 4 2) rfl rfl kr (by decide) (fun K hK => ?_);have hs47 : w46.cell? ⟨gb293, 4, none⟩ = some (.int .i64 0) := bc BK293.out 4 rfl;have hfs47 := blk_frozen BK293.out 4;have hns47_0 := NB280_293.out;have hns47_2 := NB299_293.out;have hns47_3 := NB305_293.out;have hms47_0 := NB293_280.out;have hms47_2 := NB293_299.out;have hms47_3 := NB293_305.out;have hs48 : w46.cell? ⟨gb293, 5, none⟩ = some (.int .i64 0) := bc BK293.out 5 rfl;have hfs48 := blk_frozen BK293.out 5;have hns48_0 := NB280_293.out;have hns48_2 := NB299_293.out;have hns48_3 := NB305_293.out;have hms48_0 := NB293_280.out;have hms48_2 := NB293_299.out;have hms48_3 := NB293_305.out;have hs49 : w46.cell? ⟨gb293, 6, none⟩ = some (.int .i64 0) := bc BK293.out 6 rfl;have hfs49 := blk_frozen BK293.out 6;have hns49_0 := NB280_293.out;have hns49_2 := NB299_293.out;have hns49_3 := NB305_293.out;have hms49_0 := NB293_280.out;have hms49_2 := NB293_299.out;have hms49_3 := NB293_305.out;refine skip_ (w1 := ?_) (by rfl) rfl ?_ ?_;rotate_left
          ·go_simp;rfl
          refine hK.out _ _ ⟨((cell_far (p := ⟨gb293, _, none⟩) NB299_293.out _).trans (((cell_far (p := ⟨gb293, _, none⟩) NB299_293.out _).trans (((cell_far (p := ⟨gb293, _, none⟩) NB299_293.out _).trans (hHeld.1)))))), ((cell_far (p := ⟨gb293, _, none⟩) NB299_293.out _).trans (((cell_far (p := ⟨gb293, _, none⟩) NB299_293.out _).trans (((cell_far (p := ⟨gb293, _, none⟩) NB299_293.out _).trans (hHeld.2.1)))))), ((cell_far (p := ⟨gb293, _, none⟩) NB299_293.out _).trans (((cell_far (p := ⟨gb293, _, none⟩) NB299_293.out _).trans (((cell_far (p := ⟨gb293, _, none⟩) NB299_293.out _).trans (hHeld.2.2.1)))))), ((cell_far (p := ⟨gb293, _, none⟩) NB305_293.out _).trans (((cell_far (p := ⟨gb293, _, none⟩) NB305_293.out _).trans (((cell_far (p := ⟨gb293, _, none⟩) NB305_293.out _).trans (hHeld.2.2.2.1)))))), ((cell_far (p := ⟨gb293, _, none⟩) NB305_293.out _).trans (((cell_far (p := ⟨gb293, _, none⟩) NB305_293.out _).trans (((cell_far (p := ⟨gb293, _, none⟩) NB305_293.out _).trans (hHeld.2.2.2.2.1)))))), ((cell_far (p := ⟨gb293, _, none⟩) NB305_293.out _).trans (((cell_far (p := ⟨gb293, _, none⟩) NB305_293.out _).trans (((cell_far (p := ⟨gb293, _, none⟩) NB305_293.out _).trans (hHeld.2.2.2.2.2))))))⟩ (fun hHeld => ?_);clear hK K;refine pure_ (i := 4) (N := some 63) (v := ?_) (a' := ?_) (fl 5 1) rfl rfl kr (fun _ _ _ h => h) (Or.inl ⟨by rfl, ?_⟩) ?_ ?_;rotate_left;(intro w';go_simp;with_reducible rfl);rotate_left;(simp only [Act.put,z0,z1,z2,i64_w,i32_w];rfl);refine one_ (i := 5) (N := none) (fl 6 0) rfl rfl kr (by decide) (fun K hK => ?_);have hs50 : w46.cell? ⟨gb293, 7, none⟩ = some (.int .i64 0) := bc BK293.out 7 rfl;have hfs50 := blk_frozen BK293.out 7;have hns50_0 := NB280_293.out;have hns50_2 := NB299_293.out;have hns50_3 := NB305_293.out;have hms50_0 := NB293_280.out;have hms50_2 := NB293_299.out;have hms50_3 := NB293_305.out;have hs51 : w46.cell? ⟨gb293, 8, none⟩ = some (.int .i64 0) := bc BK293.out 8 rfl;have hfs51 := blk_frozen BK293.out 8;have hns51_0 := NB280_293.out;have hns51_2 := NB299_293.out;have hns51_3 := NB305_293.out;have hms51_0 := NB293_280.out;have hms51_2 := NB293_299.out;have hms51_3 := NB293_305.out;have hs52 : w46.cell? ⟨gb293, 9, none⟩ = some (.int .i64 0) := bc BK293.out 9 rfl;have hfs52 := blk_frozen BK293.out 9;have hns52_0 := NB280_293.out;have hns52_2 := NB299_293.out;have hns52_3 := NB305_293.out;have hms52_0 := NB293_280.out;have hms52_2 := NB293_299.out;have hms52_3 := NB293_305.out;refine skip_ (w1 := ?_) (by rfl) rfl ?_ ?_;rotate_left
          ·go_simp;rfl
          refine hK.out _ _ ⟨((cell_far (p := ⟨gb293, _, none⟩) NB299_293.out _).trans (((cell_far (p := ⟨gb293, _, none⟩) NB299_293.out _).trans (((cell_far (p := ⟨gb293, _, none⟩) NB299_293.out _).trans (hHeld.1)))))), ((cell_far (p := ⟨gb293, _, none⟩) NB299_293.out _).trans (((cell_far (p := ⟨gb293, _, none⟩) NB299_293.out _).trans (((cell_far (p := ⟨gb293, _, none⟩) NB299_293.out _).trans (hHeld.2.1)))))), ((cell_far (p := ⟨gb293, _, none⟩) NB299_293.out _).trans (((cell_far (p := ⟨gb293, _, none⟩) NB299_293.out _).trans (((cell_far (p := ⟨gb293, _, none⟩) NB299_293.out _).trans (hHeld.2.2.1)))))), ((cell_far (p := ⟨gb293, _, none⟩) NB305_293.out _).trans (((cell_far (p := ⟨gb293, _, none⟩) NB305_293.out _).trans (((cell_far (p := ⟨gb293, _, none⟩) NB305_293.out _).trans (hHeld.2.2.2.1)))))), ((cell_far (p := ⟨gb293, _, none⟩) NB305_293.out _).trans (((cell_far (p := ⟨gb293, _, none⟩) NB305_293.out _).trans (((cell_far (p := ⟨gb293, _, none⟩) NB305_293.out _).trans (hHeld.2.2.2.2.1)))))), ((cell_far (p := ⟨gb293, _, none⟩) NB305_293.out _).trans (((cell_far (p := ⟨gb293, _, none⟩) NB305_293.out _).trans (((cell_far (p := ⟨gb293, _, none⟩) NB305_293.out _).trans (hHeld.2.2.2.2.2))))))⟩ (fun hHeld => ?_);clear hK K;refine done_ kr ?_
          go_upto_region 13 with (fail)
          go_cut [74] (fun v74 wc => ∃ (kq : Nat) (x74_28 : Bool), v74 = .bool x74_28 ∧ Aside0 (r6_Parse.j2 kq x74_28 x7_1 0 0 0 t295 t296 t297 t301 t302 t303 = some (r1, r2, r3, r4, r5, r6, r7, r8, r9, r10, r11)) ∧ Aside0 (kq ≤ kj9) ∧ Aside0 (wc.heap[gb280]? = some (.cells #[.int .i64 x281000_1, .int .i64 x281001_1, .int .i64 x281002_1, .int .i64 x281003_1, .int .i64 x281004_1, .int .i64 x281005_1, .int .i64 x281006_1, .int .i64 x281007_1, .int .i64 x281008_1, .int .i64 x281009_1] 25 (0, 0))) ∧ Aside0 (wc.heap[gb293]? = some (.cells #[.int .i64 x7_1, .int .i64 0, .int .i64 0, .int .i64 0, .int .i64 t295, .int .i64 t296, .int .i64 t297, .int .i64 t301, .int .i64 t302, .int .i64 t303] 25 (0, 0))) ∧ Aside0 (wc.heap[gb299]? = some (.cells #[.int .i64 t295, .int .i64 t296, .int .i64 t297] 23 (0, 0))) ∧ Aside0 (wc.heap[gb305]? = some (.cells #[.int .i64 t301, .int .i64 t302, .int .i64 t303] 23 (0, 0))) ∧ Aside0 (Below w.heap.size w wc))
          case first =>
           have H := HC29.out;clear HC29
           by_cases c53 : t298 = true
           focus
            subst c53
            have H1 : (if t304 = true then ((r6_May.f kj9 x7_1 0 0 0 t295 t296 t297 t301 t302 t303).bind fun t306 => (r6_Parse.j2 kj9 (!t306) x7_1 0 0 0 t295 t296 t297 t301 t302 t303)) else (r6_Parse.j2 kj9 true x7_1 0 0 0 t295 t296 t297 t301 t302 t303)) = some (r1, r2, r3, r4, r5, r6, r7, r8, r9, r10, r11) := by rw [if_pos rfl] at H; exact H
            clear H;have H := H1;clear H1
            by_cases c54 : t304 = true
            subst c54
            have H1 : ((r6_May.f kj9 x7_1 0 0 0 t295 t296 t297 t301 t302 t303).bind fun t306 => (r6_Parse.j2 kj9 (!t306) x7_1 0 0 0 t295 t296 t297 t301 t302 t303)) = some (r1, r2, r3, r4, r5, r6, r7, r8, r9, r10, r11) := by rw [if_pos rfl] at H; exact H
            clear H;have H := H1;clear H1;replace H := bE H;obtain ⟨t306, A550, H⟩ := H;replace H : (r6_Parse.j2 kj9 (!t306) x7_1 0 0 0 t295 t296 t297 t301 t302 t303) = some (r1, r2, r3, r4, r5, r6, r7, r8, r9, r10, r11) := H;have A55 := As A550;clear A550;have H' := As H;clear H;have hnb56 := NB293_280.out;have hnc56 := NB280_293.out;have hnb57 := NB293_299.out;have hnc57 := NB299_293.out;have hnb58 := NB293_305.out;have hnc58 := NB305_293.out;obtain ⟨hcz59_0, hcz59_1, hcz59_2, hcz59_3, hcz59_4, hcz59_5, hcz59_6, hcz59_7, hcz59_8, hcz59_9, hfz59_0, hfz59_1, hfz59_2, hfz59_3, hfz59_4, hfz59_5, hfz59_6, hfz59_7, hfz59_8, hfz59_9⟩ := cz10 BK293.out
            rotate_left
            replace c54 := Bool.eq_false_iff.mpr c54;subst c54
            have H1 : (r6_Parse.j2 kj9 true x7_1 0 0 0 t295 t296 t297 t301 t302 t303) = some (r1, r2, r3, r4, r5, r6, r7, r8, r9, r10, r11) := by rw [if_neg (show ¬ (false = true) by decide)] at H; exact H
            clear H;have H := H1;clear H1;have H' := As H;clear H
            have m2_ := trivial
           rotate_left 2
           replace c53 := Bool.eq_false_iff.mpr c53;subst c53
           have H1 : (r6_Parse.j2 kj9 true x7_1 0 0 0 t295 t296 t297 t301 t302 t303) = some (r1, r2, r3, r4, r5, r6, r7, r8, r9, r10, r11) := by rw [if_neg (show ¬ (false = true) by decide)] at H; exact H
           clear H;have H := H1;clear H1;have H' := As H;clear H
           have m1_ := trivial
           all_goals try
            first | (clear m1_; have m1_ := trivial) | (clear m2_; have m2_ := trivial)
            go_wp2
            go_meet
            case rel => exact ⟨_, (true), sw, H', ⟨by have := HK1.out; have := HJ9.out; first | omega | exact Nat.le_refl _⟩, ⟨by (iterate 6 ((with_reducible repeat (first | refine YN ?_ _ | refine YD ?_ | refine YA ?_ _)); refine blk_far ?_ NB280_293.out _)); (with_reducible repeat (first | refine YN ?_ _ | refine YD ?_ | refine YA ?_ _)); exact BK280.out⟩, ⟨by apply blk_to; (iterate 6 ((with_reducible repeat (first | refine YN ?_ _ | refine YD ?_ | refine YA ?_ _)); apply blk_set)); (with_reducible repeat (first | refine YN ?_ _ | refine YD ?_ | refine YA ?_ _)); exact BK293.out; simp only [z0,z1,z2]⟩, ⟨by (iterate 6 ((with_reducible repeat (first | refine YN ?_ _ | refine YD ?_ | refine YA ?_ _)); refine blk_far ?_ NB299_293.out _)); (with_reducible repeat (first | refine YN ?_ _ | refine YD ?_ | refine YA ?_ _)); exact BK299.out⟩, ⟨by (iterate 6 ((with_reducible repeat (first | refine YN ?_ _ | refine YD ?_ | refine YA ?_ _)); refine blk_far ?_ NB305_293.out _)); (with_reducible repeat (first | refine YN ?_ _ | refine YD ?_ | refine YA ?_ _)); exact BK305.out⟩, ⟨by repeat (first | (with_reducible first | exact HB.out | apply XA | apply XN | apply XD | refine XS ?_ GE280.out | refine XS ?_ GE293.out | refine XS ?_ GE299.out | refine XS ?_ GE305.out) | exact HB.out)⟩⟩
           ·go_wp2_with (first | (go_at_call 8; (with_reducible refine (r6_May.calls kj9 x7_1 0 0 0 _ _ _ _ _ _ _ _ A55.out).mono ?_); rintro e w60 ⟨rfl, hb⟩; replace HO_4 := As (RB (by (with_reducible repeat (first | apply RA | apply RN | apply RD)); exact (RM (RF (p := ⟨gb293, 9, none⟩) (RF (p := ⟨gb293, 8, none⟩) (RF (p := ⟨gb293, 7, none⟩) (RF (p := ⟨gb293, 6, none⟩) (RF (p := ⟨gb293, 5, none⟩) (RF (p := ⟨gb293, 4, none⟩) (Kd.R_types HO_4.out BK293.out (by decide)) (fun _ hk => hk.2) (.int .i64 t295)) (fun _ hk => hk.2) (.int .i64 t296)) (fun _ hk => hk.2) (.int .i64 t297)) (fun _ hk => hk.2) (.int .i64 t301)) (fun _ hk => hk.2) (.int .i64 t302)) (fun _ hk => hk.2) (.int .i64 t303)) (fun _ h_ => h_.1))) hb); replace HO_5 := As (RB (by (with_reducible repeat (first | apply RA | apply RN | apply RD)); exact (RM (RF (p := ⟨gb293, 9, none⟩) (RF (p := ⟨gb293, 8, none⟩) (RF (p := ⟨gb293, 7, none⟩) (RF (p := ⟨gb293, 6, none⟩) (RF (p := ⟨gb293, 5, none⟩) (RF (p := ⟨gb293, 4, none⟩) (Kd.R_types HO_5.out BK293.out (by decide)) (fun _ hk => hk.2) (.int .i64 t295)) (fun _ hk => hk.2) (.int .i64 t296)) (fun _ hk => hk.2) (.int .i64 t297)) (fun _ hk => hk.2) (.int .i64 t301)) (fun _ hk => hk.2) (.int .i64 t302)) (fun _ hk => hk.2) (.int .i64 t303)) (fun _ h_ => h_.1))) hb); replace HO_6 := As (RB (by (with_reducible repeat (first | apply RA | apply RN | apply RD)); exact (RM (RF (p := ⟨gb293, 9, none⟩) (RF (p := ⟨gb293, 8, none⟩) (RF (p := ⟨gb293, 7, none⟩) (RF (p := ⟨gb293, 6, none⟩) (RF (p := ⟨gb293, 5, none⟩) (RF (p := ⟨gb293, 4, none⟩) (Kd.R_types HO_6.out BK293.out (by decide)) (fun _ hk => hk.2) (.int .i64 t295)) (fun _ hk => hk.2) (.int .i64 t296)) (fun _ hk => hk.2) (.int .i64 t297)) (fun _ hk => hk.2) (.int .i64 t301)) (fun _ hk => hk.2) (.int .i64 t302)) (fun _ hk => hk.2) (.int .i64 t303)) (fun _ h_ => h_.1))) hb); replace BK280 := As (YB (g := gb280) (o := .cells #[.int .i64 x281000_1, .int .i64 x281001_1, .int .i64 x281002_1, .int .i64 x281003_1, .int .i64 x281004_1, .int .i64 x281005_1, .int .i64 x281006_1, .int .i64 x281007_1, .int .i64 x281008_1, .int .i64 x281009_1] 25 (0, 0)) (by (iterate 6 ((with_reducible repeat (first | refine YN ?_ _ | refine YD ?_ | refine YA ?_ _)); refine blk_far ?_ NB280_293.out _)); (with_reducible repeat (first | refine YN ?_ _ | refine YD ?_ | refine YA ?_ _)); exact BK280.out) hb); replace BK293 := As (YB (g := gb293) (o := .cells #[.int .i64 x7_1, .int .i64 0, .int .i64 0, .int .i64 0, .int .i64 t295, .int .i64 t296, .int .i64 t297, .int .i64 t301, .int .i64 t302, .int .i64 t303] 25 (0, 0)) (by apply blk_to; (iterate 6 ((with_reducible repeat (first | refine YN ?_ _ | refine YD ?_ | refine YA ?_ _)); apply blk_set)); (with_reducible repeat (first | refine YN ?_ _ | refine YD ?_ | refine YA ?_ _)); exact BK293.out; simp only [z0,z1,z2]) hb); replace BK299 := As (YB (g := gb299) (o := .cells #[.int .i64 t295, .int .i64 t296, .int .i64 t297] 23 (0, 0)) (by (iterate 6 ((with_reducible repeat (first | refine YN ?_ _ | refine YD ?_ | refine YA ?_ _)); refine blk_far ?_ NB299_293.out _)); (with_reducible repeat (first | refine YN ?_ _ | refine YD ?_ | refine YA ?_ _)); exact BK299.out) hb); replace BK305 := As (YB (g := gb305) (o := .cells #[.int .i64 t301, .int .i64 t302, .int .i64 t303] 23 (0, 0)) (by (iterate 6 ((with_reducible repeat (first | refine YN ?_ _ | refine YD ?_ | refine YA ?_ _)); refine blk_far ?_ NB305_293.out _)); (with_reducible repeat (first | refine YN ?_ _ | refine YD ?_ | refine YA ?_ _)); exact BK305.out) hb); replace HB := As (XT (be HB.out) hb); (try clear hb); (try clear hb2); (try clear hk); (try clear hi)))
            go_meet
            case rel => exact ⟨_, (!t306), sw, H', ⟨by have := HK1.out; have := HJ9.out; first | omega | exact Nat.le_refl _⟩, ⟨by (with_reducible repeat (first | refine YN ?_ _ | refine YD ?_ | refine YA ?_ _)); exact BK280.out⟩, ⟨by (with_reducible repeat (first | refine YN ?_ _ | refine YD ?_ | refine YA ?_ _)); exact BK293.out⟩, ⟨by (with_reducible repeat (first | refine YN ?_ _ | refine YD ?_ | refine YA ?_ _)); exact BK299.out⟩, ⟨by (with_reducible repeat (first | refine YN ?_ _ | refine YD ?_ | refine YA ?_ _)); exact BK305.out⟩, ⟨by repeat (first | (with_reducible first | exact HB.out | apply XA | apply XN | apply XD | refine XS ?_ GE280.out | refine XS ?_ GE293.out | refine XS ?_ GE299.out | refine XS ?_ GE305.out) | exact HB.out)⟩⟩
          case rest =>
           clear HC29
           try clear c1
           try clear c2
           try clear p2
           try clear q2
           try clear hx2
           try clear qi2
           try clear c3
           try clear p3
           try clear q3
           try clear hx3
           try clear qi3
           try clear c4
           try clear c5
           try clear p6
           try clear c9
           try clear c9b0
           try clear c11
           try clear c11b0
           try clear c11b1
           try clear c12
           try clear c12b0
           try clear c13
           try clear c13b0
           try clear c14
           try clear c14b0
           try clear c14b1
           try clear c15
           try clear c15b0
           try clear c23
           try clear c24
           try clear c24b0
           try clear c24b1
           try clear c25
           try clear c25b0
           try clear c25b1
           try clear c27
           try clear c27b0
           try clear c27b1
           try clear p29
           try clear q29
           try clear hx29
           try clear qi29
           try clear p30
           try clear q30
           try clear hx30
           try clear qi30
           try clear c31
           try clear c35
           try clear c36
           try clear c37
           try clear c41
           try clear c42
           try clear c43
           try clear c53
           try clear c54
           try clear c56
           try clear c57
           try clear c58
           try clear hcz32_0 hcz32_1 hcz32_2 hcz32_3 hcz32_4 hcz32_5 hcz32_6 hcz32_7 hcz32_8 hcz32_9
           try clear hcz38_0 hcz38_1 hcz38_2
           try clear hcz44_0 hcz44_1 hcz44_2
           try clear hcz59_0 hcz59_1 hcz59_2 hcz59_3 hcz59_4 hcz59_5 hcz59_6 hcz59_7 hcz59_8 hcz59_9
           try clear hfz32_0 hfz32_1 hfz32_2 hfz32_3 hfz32_4 hfz32_5 hfz32_6 hfz32_7 hfz32_8 hfz32_9
           try clear hfz38_0 hfz38_1 hfz38_2
           try clear hfz44_0 hfz44_1 hfz44_2
           try clear hfz59_0 hfz59_1 hfz59_2 hfz59_3 hfz59_4 hfz59_5 hfz59_6 hfz59_7 hfz59_8 hfz59_9
           try clear hx290_0
           try clear hx291_0
           try clear hx292_0
           try clear hx294_0
           try clear hx300_0
           try clear p2
           try clear p290
           try clear p291
           try clear p292
           try clear p294
           try clear p300
           try clear p6
           try clear q2
           try clear q290
           try clear q291
           try clear q292
           try clear q294
           try clear q300
           obtain ⟨kq, x74_28, rfl, HA, HJ28, BK280, BK293, BK299, BK305, HB⟩ := hcut
           cases kq with
           | zero => exact absurd HA.out (by simp [r6_Parse.j2])
           | succ kj28 =>
            have H := HA.out;clear HA;simp only [r6_Parse.j2] at H
            by_cases c61 : x74_28 = true
            ·subst c61
             have H1 : (some (0, 0, 0, 0, 0, 0, 0, 0, 0, 0, false)) = some (r1, r2, r3, r4, r5, r6, r7, r8, r9, r10, r11) := by rw [if_pos rfl] at H; exact H
             clear H;have H := H1;clear H1;simp only [Option.some.injEq, Prod.mk.injEq] at H;obtain ⟨rfl, rfl, rfl, rfl, rfl, rfl, rfl, rfl, rfl, rfl, rfl⟩ := H;have hnb62 := NB280_293.out;have hnc62 := NB293_280.out;have hnb63 := NB280_299.out;have hnc63 := NB299_280.out;have hnb64 := NB280_305.out;have hnc64 := NB305_280.out;obtain ⟨hcz65_0, hcz65_1, hcz65_2, hcz65_3, hcz65_4, hcz65_5, hcz65_6, hcz65_7, hcz65_8, hcz65_9, hfz65_0, hfz65_1, hfz65_2, hfz65_3, hfz65_4, hfz65_5, hfz65_6, hfz65_7, hfz65_8, hfz65_9⟩ := cz10 BK280.out
             go_wp2
             refine bodyPost_ret (results_ct rfl _ _ gb280 25 #[.int .i64 0, .int .i64 0, .int .i64 0, .int .i64 0, .int .i64 0, .int .i64 0, .int .i64 0, .int .i64 0, .int .i64 0, .int .i64 0] (0, 0) _ rfl (by apply blk_to; (iterate 10 ((with_reducible repeat (first | refine YN ?_ _ | refine YD ?_ | refine YA ?_ _)); apply blk_set)); (with_reducible repeat (first | refine YN ?_ _ | refine YD ?_ | refine YA ?_ _)); exact BK280.out; simp only [z0,z1,z2]) Tryz.underlying25 rfl kr) rfl ?_;exact ⟨by first | rfl | (simp [errW_none, errW_some] <;> rfl) | (simp [*, errW_none, errW_some] <;> rfl), by repeat (first | (with_reducible first | exact HB.out | apply XA | apply XN | apply XD | refine XS ?_ GE280.out | refine XS ?_ GE293.out | refine XS ?_ GE299.out | refine XS ?_ GE305.out) | exact HB.out)⟩
            ·replace c61 := Bool.eq_false_iff.mpr c61;subst c61
             have H1 : (some (x7_1, 0, 0, 0, t295, t296, t297, t301, t302, t303, true)) = some (r1, r2, r3, r4, r5, r6, r7, r8, r9, r10, r11) := by rw [if_neg (show ¬ (false = true) by decide)] at H; exact H
             clear H;have H := H1;clear H1;simp only [Option.some.injEq, Prod.mk.injEq] at H;obtain ⟨rfl, rfl, rfl, rfl, rfl, rfl, rfl, rfl, rfl, rfl, rfl⟩ := H;have hnb66 := NB293_280.out;have hnc66 := NB280_293.out;have hnb67 := NB293_299.out;have hnc67 := NB299_293.out;have hnb68 := NB293_305.out;have hnc68 := NB305_293.out;obtain ⟨hcz69_0, hcz69_1, hcz69_2, hcz69_3, hcz69_4, hcz69_5, hcz69_6, hcz69_7, hcz69_8, hcz69_9, hfz69_0, hfz69_1, hfz69_2, hfz69_3, hfz69_4, hfz69_5, hfz69_6, hfz69_7, hfz69_8, hfz69_9⟩ := cz10 BK293.out;have hnb70 := NB280_299.out;have hnc70 := NB299_280.out;have hnb71 := NB280_305.out;have hnc71 := NB305_280.out;obtain ⟨hcz72_0, hcz72_1, hcz72_2, hcz72_3, hcz72_4, hcz72_5, hcz72_6, hcz72_7, hcz72_8, hcz72_9, hfz72_0, hfz72_1, hfz72_2, hfz72_3, hfz72_4, hfz72_5, hfz72_6, hfz72_7, hfz72_8, hfz72_9⟩ := cz10 BK280.out
             go_wp2
             refine bodyPost_ret (results_ct rfl _ _ gb280 25 #[.int .i64 x7_1, .int .i64 0, .int .i64 0, .int .i64 0, .int .i64 t295, .int .i64 t296, .int .i64 t297, .int .i64 t301, .int .i64 t302, .int .i64 t303] (0, 0) _ rfl (by apply blk_to; (iterate 10 ((with_reducible repeat (first | refine YN ?_ _ | refine YD ?_ | refine YA ?_ _)); apply blk_set)); (with_reducible repeat (first | refine YN ?_ _ | refine YD ?_ | refine YA ?_ _)); exact BK280.out; simp only [z0,z1,z2]) Tryz.underlying25 rfl kr) rfl ?_;exact ⟨by first | rfl | (simp [errW_none, errW_some] <;> rfl) | (simp [*, errW_none, errW_some] <;> rfl), by repeat (first | (with_reducible first | exact HB.out | apply XA | apply XN | apply XD | refine XS ?_ GE280.out | refine XS ?_ GE293.out | refine XS ?_ GE299.out | refine XS ?_ GE305.out) | exact HB.out)⟩
         ·rw [if_neg c27] at H;exact absurd H (by simp)
        ·rw [if_neg c25] at H;exact absurd H (by simp)
       ·rw [if_neg c24] at H;have c24b0 : (x7_1 == 3) = false := beq_eq_false_iff_ne.mpr c24;have c24b1 : (x7_1 != 3) = true := bne_iff_ne.mpr c24;have H' := As H;clear H
        go_wp2_with (first | ((with_reducible refine gate_dst (N := 8) rfl ?_); (try (refine gate_guard (by rfl) ?_; dsimp only)); refine box_event ?hg (N := 8) ?hd (cs := #[.int .i64 0, .int .i64 0, .int .i64 0, .int .i64 0, .int .i64 0, .int .i64 0, .int .i64 0, .int .i64 0, .int .i64 0, .int .i64 0]) (t := 25) ?hr ?_; (case hd => rfl); (case hg => rfl); (case hr => first | (go_simp; done) | (go_simp; rfl)); intro gb293 hg w73 hbox hb; replace HO_4 := As (RB (ro HO_4.out) hb); replace HO_5 := As (RB (ro HO_5.out) hb); replace HO_6 := As (RB (ro HO_6.out) hb); have BK293 := As (hbox); have GW293 := As ((gz hg (be HB.out) : w.heap.size ≤ gb293)); have GE293 := As ((gz hg (be HB.out) : w.heap.size ≤ gb293)); replace HB := As (XT (be HB.out) hb); have NB280_293 := As ((nl hg (bk BK280.out) : gb280 ≠ gb293)); have NB293_280 := As ((ng hg (bk BK280.out) : gb293 ≠ gb280)); replace BK280 := As (YB (g := gb280) (o := .cells #[.int .i64 x281000_1, .int .i64 x281001_1, .int .i64 x281002_1, .int .i64 x281003_1, .int .i64 x281004_1, .int .i64 x281005_1, .int .i64 x281006_1, .int .i64 x281007_1, .int .i64 x281008_1, .int .i64 x281009_1] 25 (0, 0)) (bk BK280.out) hb); clear hb hbox hg; have hnb74 := NB293_280.out; have hnc74 := NB280_293.out; obtain ⟨hcz75_0, hcz75_1, hcz75_2, hcz75_3, hcz75_4, hcz75_5, hcz75_6, hcz75_7, hcz75_8, hcz75_9, hfz75_0, hfz75_1, hfz75_2, hfz75_3, hfz75_4, hfz75_5, hfz75_6, hfz75_7, hfz75_8, hfz75_9⟩ := cz10 BK293.out) | ((with_reducible refine gate_dst (N := 13) rfl ?_); (try (refine gate_guard (by rfl) ?_; dsimp only)); refine box_event ?hg (N := 13) ?hd (cs := #[.int .i64 0, .int .i64 0, .int .i64 0]) (t := 70) ?hr ?_; (case hd => rfl); (case hg => rfl); (case hr => first | (go_simp; done) | (go_simp; rfl)); intro gb307 hg w76 hbox hb; replace HO_4 := As (RB (by (with_reducible repeat (first | apply RA | apply RN | apply RD)); exact (RM (RF (p := ⟨gb293, 9, none⟩) (RF (p := ⟨gb293, 8, none⟩) (RF (p := ⟨gb293, 7, none⟩) (RF (p := ⟨gb293, 6, none⟩) (RF (p := ⟨gb293, 5, none⟩) (RF (p := ⟨gb293, 4, none⟩) (RF (p := ⟨gb293, 3, none⟩) (RF (p := ⟨gb293, 2, none⟩) (RF (p := ⟨gb293, 1, none⟩) (RF (p := ⟨gb293, 0, none⟩) (Kd.R_types HO_4.out BK293.out (by decide)) (fun _ hk => hk.2) (.int .i64 x7_1)) (fun _ hk => hk.2) (.int .i64 0)) (fun _ hk => hk.2) (.int .i64 0)) (fun _ hk => hk.2) (.int .i64 0)) (fun _ hk => hk.2) (.int .i64 0)) (fun _ hk => hk.2) (.int .i64 0)) (fun _ hk => hk.2) (.int .i64 0)) (fun _ hk => hk.2) (.int .i64 0)) (fun _ hk => hk.2) (.int .i64 0)) (fun _ hk => hk.2) (.int .i64 0)) (fun _ h_ => h_.1))) hb); replace HO_5 := As (RB (by (with_reducible repeat (first | apply RA | apply RN | apply RD)); exact (RM (RF (p := ⟨gb293, 9, none⟩) (RF (p := ⟨gb293, 8, none⟩) (RF (p := ⟨gb293, 7, none⟩) (RF (p := ⟨gb293, 6, none⟩) (RF (p := ⟨gb293, 5, none⟩) (RF (p := ⟨gb293, 4, none⟩) (RF (p := ⟨gb293, 3, none⟩) (RF (p := ⟨gb293, 2, none⟩) (RF (p := ⟨gb293, 1, none⟩) (RF (p := ⟨gb293, 0, none⟩) (Kd.R_types HO_5.out BK293.out (by decide)) (fun _ hk => hk.2) (.int .i64 x7_1)) (fun _ hk => hk.2) (.int .i64 0)) (fun _ hk => hk.2) (.int .i64 0)) (fun _ hk => hk.2) (.int .i64 0)) (fun _ hk => hk.2) (.int .i64 0)) (fun _ hk => hk.2) (.int .i64 0)) (fun _ hk => hk.2) (.int .i64 0)) (fun _ hk => hk.2) (.int .i64 0)) (fun _ hk => hk.2) (.int .i64 0)) (fun _ hk => hk.2) (.int .i64 0)) (fun _ h_ => h_.1))) hb); replace HO_6 := As (RB (by (with_reducible repeat (first | apply RA | apply RN | apply RD)); exact (RM (RF (p := ⟨gb293, 9, none⟩) (RF (p := ⟨gb293, 8, none⟩) (RF (p := ⟨gb293, 7, none⟩) (RF (p := ⟨gb293, 6, none⟩) (RF (p := ⟨gb293, 5, none⟩) (RF (p := ⟨gb293, 4, none⟩) (RF (p := ⟨gb293, 3, none⟩) (RF (p := ⟨gb293, 2, none⟩) (RF (p := ⟨gb293, 1, none⟩) (RF (p := ⟨gb293, 0, none⟩) (Kd.R_types HO_6.out BK293.out (by decide)) (fun _ hk => hk.2) (.int .i64 x7_1)) (fun _ hk => hk.2) (.int .i64 0)) (fun _ hk => hk.2) (.int .i64 0)) (fun _ hk => hk.2) (.int .i64 0)) (fun _ hk => hk.2) (.int .i64 0)) (fun _ hk => hk.2) (.int .i64 0)) (fun _ hk => hk.2) (.int .i64 0)) (fun _ hk => hk.2) (.int .i64 0)) (fun _ hk => hk.2) (.int .i64 0)) (fun _ hk => hk.2) (.int .i64 0)) (fun _ h_ => h_.1))) hb); have BK307 := As (hbox); have GW307 := As ((gz hg (be HB.out) : w.heap.size ≤ gb307)); have GE307 := As ((gz hg (be HB.out) : w.heap.size ≤ gb307)); replace HB := As (XT (be HB.out) hb); have NB280_307 := As ((by rw [hg]; exact Nat.ne_of_lt (blk_lt (g := gb280) (o := .cells #[.int .i64 x281000_1, .int .i64 x281001_1, .int .i64 x281002_1, .int .i64 x281003_1, .int .i64 x281004_1, .int .i64 x281005_1, .int .i64 x281006_1, .int .i64 x281007_1, .int .i64 x281008_1, .int .i64 x281009_1] 25 (0, 0)) (by (iterate 10 ((with_reducible repeat (first | refine YN ?_ _ | refine YD ?_ | refine YA ?_ _)); refine blk_far ?_ NB280_293.out _)); (with_reducible repeat (first | refine YN ?_ _ | refine YD ?_ | refine YA ?_ _)); exact BK280.out)) : gb280 ≠ gb307)); have NB307_280 := As ((by rw [hg]; exact Nat.ne_of_gt (blk_lt (g := gb280) (o := .cells #[.int .i64 x281000_1, .int .i64 x281001_1, .int .i64 x281002_1, .int .i64 x281003_1, .int .i64 x281004_1, .int .i64 x281005_1, .int .i64 x281006_1, .int .i64 x281007_1, .int .i64 x281008_1, .int .i64 x281009_1] 25 (0, 0)) (by (iterate 10 ((with_reducible repeat (first | refine YN ?_ _ | refine YD ?_ | refine YA ?_ _)); refine blk_far ?_ NB280_293.out _)); (with_reducible repeat (first | refine YN ?_ _ | refine YD ?_ | refine YA ?_ _)); exact BK280.out)) : gb307 ≠ gb280)); replace BK280 := As (YB (g := gb280) (o := .cells #[.int .i64 x281000_1, .int .i64 x281001_1, .int .i64 x281002_1, .int .i64 x281003_1, .int .i64 x281004_1, .int .i64 x281005_1, .int .i64 x281006_1, .int .i64 x281007_1, .int .i64 x281008_1, .int .i64 x281009_1] 25 (0, 0)) (by (iterate 10 ((with_reducible repeat (first | refine YN ?_ _ | refine YD ?_ | refine YA ?_ _)); refine blk_far ?_ NB280_293.out _)); (with_reducible repeat (first | refine YN ?_ _ | refine YD ?_ | refine YA ?_ _)); exact BK280.out) hb); have NB293_307 := As ((by rw [hg]; exact Nat.ne_of_lt (blk_lt (g := gb293) (o := .cells #[.int .i64 x7_1, .int .i64 0, .int .i64 0, .int .i64 0, .int .i64 0, .int .i64 0, .int .i64 0, .int .i64 0, .int .i64 0, .int .i64 0] 25 (0, 0)) (by apply blk_to; (iterate 10 ((with_reducible repeat (first | refine YN ?_ _ | refine YD ?_ | refine YA ?_ _)); apply blk_set)); (with_reducible repeat (first | refine YN ?_ _ | refine YD ?_ | refine YA ?_ _)); exact BK293.out; simp only [z0,z1,z2])) : gb293 ≠ gb307)); have NB307_293 := As ((by rw [hg]; exact Nat.ne_of_gt (blk_lt (g := gb293) (o := .cells #[.int .i64 x7_1, .int .i64 0, .int .i64 0, .int .i64 0, .int .i64 0, .int .i64 0, .int .i64 0, .int .i64 0, .int .i64 0, .int .i64 0] 25 (0, 0)) (by apply blk_to; (iterate 10 ((with_reducible repeat (first | refine YN ?_ _ | refine YD ?_ | refine YA ?_ _)); apply blk_set)); (with_reducible repeat (first | refine YN ?_ _ | refine YD ?_ | refine YA ?_ _)); exact BK293.out; simp only [z0,z1,z2])) : gb307 ≠ gb293)); replace BK293 := As (YB (g := gb293) (o := .cells #[.int .i64 x7_1, .int .i64 0, .int .i64 0, .int .i64 0, .int .i64 0, .int .i64 0, .int .i64 0, .int .i64 0, .int .i64 0, .int .i64 0] 25 (0, 0)) (by apply blk_to; (iterate 10 ((with_reducible repeat (first | refine YN ?_ _ | refine YD ?_ | refine YA ?_ _)); apply blk_set)); (with_reducible repeat (first | refine YN ?_ _ | refine YD ?_ | refine YA ?_ _)); exact BK293.out; simp only [z0,z1,z2]) hb); clear hb hbox hg))
        go_loopg [14] kj9 (fun kq v14 w' => ∃ (x14_3 : Int) (x281000_3 : Int) (x281001_3 : Int) (x281002_3 : Int) (x281003_3 : Int) (x281004_3 : Int) (x281005_3 : Int) (x281006_3 : Int) (x281007_3 : Int) (x281008_3 : Int) (x281009_3 : Int) (x308000_3 : Int) (x308001_3 : Int) (x308002_3 : Int), v14 = .int .i64 x14_3 ∧ Aside0 (r6_Parse.l1 kq t281 x7_1 x14_3 x7_1 0 0 0 0 0 0 0 0 0 x308000_3 x308001_3 x308002_3 = some (r1, r2, r3, r4, r5, r6, r7, r8, r9, r10, r11)) ∧ Aside0 (kq ≤ kj9) ∧ Aside0 (Kd.R Kd.string 9 w' w.heap.size (fun _ => True) v282 t281) ∧ Aside0 (w'.heap[gb280]? = some (.cells #[.int .i64 x281000_3, .int .i64 x281001_3, .int .i64 x281002_3, .int .i64 x281003_3, .int .i64 x281004_3, .int .i64 x281005_3, .int .i64 x281006_3, .int .i64 x281007_3, .int .i64 x281008_3, .int .i64 x281009_3] 25 (0, 0))) ∧ Aside0 (w'.heap[gb293]? = some (.cells #[.int .i64 x7_1, .int .i64 0, .int .i64 0, .int .i64 0, .int .i64 0, .int .i64 0, .int .i64 0, .int .i64 0, .int .i64 0, .int .i64 0] 25 (0, 0))) ∧ Aside0 (w'.heap[gb307]? = some (.cells #[.int .i64 x308000_3, .int .i64 x308001_3, .int .i64 x308002_3] 70 (0, 0))) ∧ Aside0 (Below w.heap.size w w'))
        case atStart => exact ⟨(1), (x281000_1), (x281001_1), (x281002_1), (x281003_1), (x281004_1), (x281005_1), (x281006_1), (x281007_1), (x281008_1), (x281009_1), (0), (0), (0), sw, H', ⟨Nat.le_refl _⟩, ⟨by (with_reducible repeat (first | apply RA | apply RN | apply RD)); exact RM HO_4.out (fun _ hk => trivial)⟩, ⟨by (with_reducible repeat (first | refine YN ?_ _ | refine YD ?_ | refine YA ?_ _)); exact BK280.out⟩, ⟨by (with_reducible repeat (first | refine YN ?_ _ | refine YD ?_ | refine YA ?_ _)); exact BK293.out⟩, ⟨by (with_reducible repeat (first | refine YN ?_ _ | refine YD ?_ | refine YA ?_ _)); exact BK307.out⟩, ⟨by repeat (first | (with_reducible first | exact HB.out | apply XA | apply XN | apply XD | refine XS ?_ GE280.out | refine XS ?_ GE293.out | refine XS ?_ GE307.out) | exact HB.out)⟩⟩
        case round =>
         clear H'
         try clear c1
         try clear c2
         try clear p2
         try clear q2
         try clear hx2
         try clear qi2
         try clear c3
         try clear p3
         try clear q3
         try clear hx3
         try clear qi3
         try clear c4
         try clear c5
         try clear c6
         try clear p6
         try clear c7
         try clear c9
         try clear c9b0
         try clear c11
         try clear c11b0
         try clear c11b1
         try clear c12
         try clear c12b0
         try clear c13
         try clear c13b0
         try clear c14
         try clear c14b0
         try clear c14b1
         try clear c15
         try clear c15b0
         try clear c23
         try clear c24
         try clear c24b0
         try clear c24b1
         try clear c25
         try clear c25b0
         try clear c25b1
         try clear c27
         try clear c27b0
         try clear c27b1
         try clear p29
         try clear q29
         try clear hx29
         try clear qi29
         try clear p30
         try clear q30
         try clear hx30
         try clear qi30
         try clear c31
         try clear c35
         try clear c36
         try clear c37
         try clear c41
         try clear c42
         try clear c43
         try clear c53
         try clear c54
         try clear c56
         try clear c57
         try clear c58
         try clear c61
         try clear c62
         try clear c63
         try clear c64
         try clear p64
         try clear c66
         try clear c67
         try clear c68
         try clear c70
         try clear c71
         try clear c74
         try clear hcz32_0 hcz32_1 hcz32_2 hcz32_3 hcz32_4 hcz32_5 hcz32_6 hcz32_7 hcz32_8 hcz32_9
         try clear hcz38_0 hcz38_1 hcz38_2
         try clear hcz44_0 hcz44_1 hcz44_2
         try clear hcz59_0 hcz59_1 hcz59_2 hcz59_3 hcz59_4 hcz59_5 hcz59_6 hcz59_7 hcz59_8 hcz59_9
         try clear hcz65_0 hcz65_1 hcz65_2 hcz65_3 hcz65_4 hcz65_5 hcz65_6 hcz65_7 hcz65_8 hcz65_9
         try clear hcz69_0 hcz69_1 hcz69_2 hcz69_3 hcz69_4 hcz69_5 hcz69_6 hcz69_7 hcz69_8 hcz69_9
         try clear hcz72_0 hcz72_1 hcz72_2 hcz72_3 hcz72_4 hcz72_5 hcz72_6 hcz72_7 hcz72_8 hcz72_9
         try clear hcz75_0 hcz75_1 hcz75_2 hcz75_3 hcz75_4 hcz75_5 hcz75_6 hcz75_7 hcz75_8 hcz75_9
         try clear hfz32_0 hfz32_1 hfz32_2 hfz32_3 hfz32_4 hfz32_5 hfz32_6 hfz32_7 hfz32_8 hfz32_9
         try clear hfz38_0 hfz38_1 hfz38_2
         try clear hfz44_0 hfz44_1 hfz44_2
         try clear hfz59_0 hfz59_1 hfz59_2 hfz59_3 hfz59_4 hfz59_5 hfz59_6 hfz59_7 hfz59_8 hfz59_9
         try clear hfz65_0 hfz65_1 hfz65_2 hfz65_3 hfz65_4 hfz65_5 hfz65_6 hfz65_7 hfz65_8 hfz65_9
         try clear hfz69_0 hfz69_1 hfz69_2 hfz69_3 hfz69_4 hfz69_5 hfz69_6 hfz69_7 hfz69_8 hfz69_9
         try clear hfz72_0 hfz72_1 hfz72_2 hfz72_3 hfz72_4 hfz72_5 hfz72_6 hfz72_7 hfz72_8 hfz72_9
         try clear hfz75_0 hfz75_1 hfz75_2 hfz75_3 hfz75_4 hfz75_5 hfz75_6 hfz75_7 hfz75_8 hfz75_9
         try clear hx290_0
         try clear hx291_0
         try clear hx292_0
         try clear hx294_0
         try clear hx300_0
         try clear p2
         try clear p29
         try clear p290
         try clear p291
         try clear p292
         try clear p294
         try clear p3
         try clear p30
         try clear p300
         try clear p6
         try clear q2
         try clear q29
         try clear q290
         try clear q291
         try clear q292
         try clear q294
         try clear q3
         try clear q30
         try clear q300
         obtain ⟨x14_3, x281000_3, x281001_3, x281002_3, x281003_3, x281004_3, x281005_3, x281006_3, x281007_3, x281008_3, x281009_3, x308000_3, x308001_3, x308002_3, rfl, HA, HK3, HO_4, BK280, BK293, BK307, HB⟩ := hrel
         cases gk with
         | zero => exact absurd HA.out (by simp [r6_Parse.l1])
         | succ k3 =>
          have H := HA.out;clear HA;simp only [r6_Parse.l1] at H
          by_cases c77 : x14_3 < (t281.length : Int)
          focus
           rw [if_pos c77] at H;have c77b0 : decide (x14_3 < (t281.length : Int)) = true := dY c77;clear c77
           by_cases c78 : 0 ≤ x14_3
           rotate_left
           ·rw [if_neg c78] at H;exact absurd H (by simp)
           rw [if_pos c78] at H;have c78b0 : decide (0 ≤ x14_3) = true := dY c78;clear c78;replace H := bE H;obtain ⟨⟨t309, t310⟩, A790, H⟩ := H;replace H : (if t310 = true then (if (wrap64 (x14_3 - 1)) = (0 : Int) then (r6_Parse.l1 k3 t281 x7_1 (wrap64 (x14_3 + 1)) x7_1 0 0 0 0 0 0 0 0 0 t309 x308001_3 x308002_3) else (if (wrap64 (x14_3 - 1)) = (1 : Int) then (r6_Parse.l1 k3 t281 x7_1 (wrap64 (x14_3 + 1)) x7_1 0 0 0 0 0 0 0 0 0 x308000_3 t309 x308002_3) else (if (wrap64 (x14_3 - 1)) = (2 : Int) then (r6_Parse.l1 k3 t281 x7_1 (wrap64 (x14_3 + 1)) x7_1 0 0 0 0 0 0 0 0 0 x308000_3 x308001_3 t309) else (none)))) else (some (0, 0, 0, 0, 0, 0, 0, 0, 0, 0, false))) = some (r1, r2, r3, r4, r5, r6, r7, r8, r9, r10, r11) := H;have A79 := As A790;clear A790
           by_cases c80 : t310 = true
           focus
            subst c80
            have H1 : (if (wrap64 (x14_3 - 1)) = (0 : Int) then (r6_Parse.l1 k3 t281 x7_1 (wrap64 (x14_3 + 1)) x7_1 0 0 0 0 0 0 0 0 0 t309 x308001_3 x308002_3) else (if (wrap64 (x14_3 - 1)) = (1 : Int) then (r6_Parse.l1 k3 t281 x7_1 (wrap64 (x14_3 + 1)) x7_1 0 0 0 0 0 0 0 0 0 x308000_3 t309 x308002_3) else (if (wrap64 (x14_3 - 1)) = (2 : Int) then (r6_Parse.l1 k3 t281 x7_1 (wrap64 (x14_3 + 1)) x7_1 0 0 0 0 0 0 0 0 0 x308000_3 x308001_3 t309) else (none)))) = some (r1, r2, r3, r4, r5, r6, r7, r8, r9, r10, r11) := by rw [if_pos rfl] at H; exact H
            clear H;have H := H1;clear H1
            by_cases c81 : (wrap64 (x14_3 - 1)) = (0 : Int)
            rw [if_pos c81] at H;have c81b0 : ((wrap64 (x14_3 - 1)) == (0 : Int)) = true := beq_iff_eq.mpr c81;have c81b1 : ((wrap64 (x14_3 - 1)) != (0 : Int)) = false := bne_eq_false_iff_eq.mpr c81
            have c81b2 : 0 ≤ (wrap64 (x14_3 - 1)) := by omega
            have c81b3 : (wrap64 (x14_3 - 1)) < 1 := by omega
            have c81b4 : (wrap64 (x14_3 - 1)) < 2 := by omega
            have c81b5 : (wrap64 (x14_3 - 1)) < 3 := by omega
            have c81b6 : (wrap64 (x14_3 - 1)) < 4 := by omega
            have c81b7 : (wrap64 (x14_3 - 1)) < 5 := by omega
            have c81b8 : (wrap64 (x14_3 - 1)) < 6 := by omega
            have c81b9 : ((wrap64 (x14_3 - 1)) : Int).toNat = 0 := by omega
            clear c81;have H' := As H;clear H;obtain ⟨Ao82, co92, eo82⟩ := Kd.R_slice HO_4.out;subst eo82;have p308 : 0 ≤ (x14_3 : Int) := dT hy;have q308 : x14_3 < (t281.length : Int) := dT hy;obtain ⟨ad308, e308, hx308_0⟩ := Kd.at_string (RR HO_4.out).2.2 x14_3 p308 q308
            cases e308
            replace p308 := eq_true p308;replace q308 := eq_true q308
            have m5_ := trivial
            rotate_left
            focus
             rw [if_neg c81] at H;have c81b0 : ((wrap64 (x14_3 - 1)) == (0 : Int)) = false := beq_eq_false_iff_ne.mpr c81;have c81b1 : ((wrap64 (x14_3 - 1)) != (0 : Int)) = true := bne_iff_ne.mpr c81
             by_cases c86 : (wrap64 (x14_3 - 1)) = (1 : Int)
             rw [if_pos c86] at H;have c86b0 : ((wrap64 (x14_3 - 1)) == (1 : Int)) = true := beq_iff_eq.mpr c86;have c86b1 : ((wrap64 (x14_3 - 1)) != (1 : Int)) = false := bne_eq_false_iff_eq.mpr c86
             have c86b2 : 0 ≤ (wrap64 (x14_3 - 1)) := by omega
             have c86b3 : (wrap64 (x14_3 - 1)) < 2 := by omega
             have c86b4 : (wrap64 (x14_3 - 1)) < 3 := by omega
             have c86b5 : (wrap64 (x14_3 - 1)) < 4 := by omega
             have c86b6 : (wrap64 (x14_3 - 1)) < 5 := by omega
             have c86b7 : (wrap64 (x14_3 - 1)) < 6 := by omega
             have c86b8 : ((wrap64 (x14_3 - 1)) : Int).toNat = 1 := by omega
             clear c86;have H' := As H;clear H;obtain ⟨Ao87, co92, eo87⟩ := Kd.R_slice HO_4.out;subst eo87;have p308 : 0 ≤ (x14_3 : Int) := dT hy;have q308 : x14_3 < (t281.length : Int) := dT hy;obtain ⟨ad308, e308, hx308_0⟩ := Kd.at_string (RR HO_4.out).2.2 x14_3 p308 q308
             cases e308
             replace p308 := eq_true p308;replace q308 := eq_true q308
             have m4_ := trivial
             rotate_left
             focus
              rw [if_neg c86] at H;have c86b0 : ((wrap64 (x14_3 - 1)) == (1 : Int)) = false := beq_eq_false_iff_ne.mpr c86;have c86b1 : ((wrap64 (x14_3 - 1)) != (1 : Int)) = true := bne_iff_ne.mpr c86
              by_cases c91 : (wrap64 (x14_3 - 1)) = (2 : Int)
              rotate_left
              ·rw [if_neg c91] at H;exact absurd H (by simp)
              rw [if_pos c91] at H;have c91b0 : ((wrap64 (x14_3 - 1)) == (2 : Int)) = true := beq_iff_eq.mpr c91;have c91b1 : ((wrap64 (x14_3 - 1)) != (2 : Int)) = false := bne_eq_false_iff_eq.mpr c91
              have c91b2 : 0 ≤ (wrap64 (x14_3 - 1)) := by omega
              have c91b3 : (wrap64 (x14_3 - 1)) < 3 := by omega
              have c91b4 : (wrap64 (x14_3 - 1)) < 4 := by omega
              have c91b5 : (wrap64 (x14_3 - 1)) < 5 := by omega
              have c91b6 : (wrap64 (x14_3 - 1)) < 6 := by omega
              have c91b7 : ((wrap64 (x14_3 - 1)) : Int).toNat = 2 := by omega
              clear c91;have H' := As H;clear H;obtain ⟨Ao92, co92, eo92⟩ := Kd.R_slice HO_4.out;subst eo92;have p308 : 0 ≤ (x14_3 : Int) := dT hy;have q308 : x14_3 < (t281.length : Int) := dT hy;obtain ⟨ad308, e308, hx308_0⟩ := Kd.at_string (RR HO_4.out).2.2 x14_3 p308 q308
              cases e308
              replace p308 := eq_true p308;replace q308 := eq_true q308
              have m3_ := trivial
           rotate_left 3
           replace c80 := Bool.eq_false_iff.mpr c80;subst c80
           have H1 : (some (0, 0, 0, 0, 0, 0, 0, 0, 0, 0, false)) = some (r1, r2, r3, r4, r5, r6, r7, r8, r9, r10, r11) := by rw [if_neg (show ¬ (false = true) by decide)] at H; exact H
           clear H;have H := H1;clear H1;simp only [Option.some.injEq, Prod.mk.injEq] at H;obtain ⟨rfl, rfl, rfl, rfl, rfl, rfl, rfl, rfl, rfl, rfl, rfl⟩ := H;obtain ⟨Ao96, co96, eo96⟩ := Kd.R_slice HO_4.out;subst eo96;have p308 : 0 ≤ (x14_3 : Int) := dT hy;have q308 : x14_3 < (t281.length : Int) := dT hy;obtain ⟨ad308, e308, hx308_0⟩ := Kd.at_string (RR HO_4.out).2.2 x14_3 p308 q308
           cases e308
           replace p308 := eq_true p308;replace q308 := eq_true q308
          rotate_left 4
          rw [if_neg c77] at H;have c77b0 : decide (x14_3 < (t281.length : Int)) = false := dN c77;clear c77;have HC100 := As H;clear H;obtain ⟨Ao101, co101, eo101⟩ := Kd.R_slice HO_4.out;subst eo101
          all_goals try
           first | (clear m3_; have m3_ := trivial) | (clear m4_; have m4_ := trivial) | (clear m5_; have m5_ := trivial)
           go_wp2_with (first | ((with_reducible refine gate_callee (f := 36) rfl ?_); refine goesL_ (some 88) rfl rfl Tryz.func36 kr rfl #[.string (rdOf ByteArray.empty t281 x14_3)] rfl sa ?_; (with_reducible refine (r6_number.calls k3 (rdOf ByteArray.empty t281 x14_3) _ _ _ A79.out).mono ?_); rintro e w' ⟨rfl, ⟨nd, rfl⟩⟩; refine ⟨_, rfl, ?_⟩; (try (rw [drewN_self wr]; generalize hq_ : World.drewN wr _ = wr; have n0_ : Aside0 (Kd.R Kd.string 9 wr w.heap.size (fun _ => True) (.slice (some ad308) t281.length co92) t281) := ⟨by rw [← hq_]; exact (ro HO_4.out)⟩; have n1_ : Aside0 (wr.heap[gb280]? = some (.cells #[.int .i64 x281000_3, .int .i64 x281001_3, .int .i64 x281002_3, .int .i64 x281003_3, .int .i64 x281004_3, .int .i64 x281005_3, .int .i64 x281006_3, .int .i64 x281007_3, .int .i64 x281008_3, .int .i64 x281009_3] 25 (0, 0))) := ⟨by rw [← hq_]; exact (bk BK280.out)⟩; have n2_ : Aside0 (wr.heap[gb293]? = some (.cells #[.int .i64 x7_1, .int .i64 0, .int .i64 0, .int .i64 0, .int .i64 0, .int .i64 0, .int .i64 0, .int .i64 0, .int .i64 0, .int .i64 0] 25 (0, 0))) := ⟨by rw [← hq_]; exact (bk BK293.out)⟩; have n3_ : Aside0 (wr.heap[gb307]? = some (.cells #[.int .i64 x308000_3, .int .i64 x308001_3, .int .i64 x308002_3] 70 (0, 0))) := ⟨by rw [← hq_]; exact (bk BK307.out)⟩; have n4_ : Aside0 (Below w.heap.size w wr) := ⟨by rw [← hq_]; exact (be HB.out)⟩; clear HO_4 BK280 BK293 BK307 HB hq_; have HO_4 := n0_; have BK280 := n1_; have BK293 := n2_; have BK307 := n3_; have HB := n4_; clear n0_ n1_ n2_ n3_ n4_)); have hnb93 := NB307_280.out; have hnc93 := NB280_307.out; have hnb94 := NB307_293.out; have hnc94 := NB293_307.out; obtain ⟨hcz95_0, hcz95_1, hcz95_2, hfz95_0, hfz95_1, hfz95_2⟩ := cz3 BK307.out))
           go_roundg k3
           case measure => have := HK1.out; have := HJ9.out; have := HK3.out; omega
          ·go_upto_block 4 with (fail)
           go_cut [] (fun wc => ∃ (kq : Nat) (x294001_99 : Int) (x294002_99 : Int) (x294003_99 : Int), Aside0 (r6_Parse.j4 kq x7_1 x294001_99 x294002_99 x294003_99 0 0 0 0 0 0 = some (r1, r2, r3, r4, r5, r6, r7, r8, r9, r10, r11)) ∧ Aside0 (kq ≤ k3) ∧ Aside0 (wc.heap[gb280]? = some (.cells #[.int .i64 x281000_3, .int .i64 x281001_3, .int .i64 x281002_3, .int .i64 x281003_3, .int .i64 x281004_3, .int .i64 x281005_3, .int .i64 x281006_3, .int .i64 x281007_3, .int .i64 x281008_3, .int .i64 x281009_3] 25 (0, 0))) ∧ Aside0 (wc.heap[gb293]? = some (.cells #[.int .i64 x7_1, .int .i64 x294001_99, .int .i64 x294002_99, .int .i64 x294003_99, .int .i64 0, .int .i64 0, .int .i64 0, .int .i64 0, .int .i64 0, .int .i64 0] 25 (0, 0))) ∧ Aside0 (wc.heap[gb307]? = some (.cells #[.int .i64 x308000_3, .int .i64 x308001_3, .int .i64 x308002_3] 70 (0, 0))) ∧ Aside0 (Below w.heap.size w wc))
           case first =>
            have H := HC100.out;clear HC100
            by_cases c102 : x7_1 = 0
            ·rw [if_pos c102] at H;have c102b0 : (x7_1 == 0) = true := beq_iff_eq.mpr c102;have c102b1 : (x7_1 != 0) = false := bne_eq_false_iff_eq.mpr c102;clear c102
             (first | rw [c102b0] | (simp only [i64_w, i32_w]; rw [c102b0]) | skip)
             have H' := As H;clear H;have hnb103 := NB307_280.out;have hnc103 := NB280_307.out;have hnb104 := NB307_293.out;have hnc104 := NB293_307.out;obtain ⟨hcz105_0, hcz105_1, hcz105_2, hfz105_0, hfz105_1, hfz105_2⟩ := cz3 BK307.out;have hnb106 := NB293_280.out;have hnc106 := NB280_293.out;obtain ⟨hcz107_0, hcz107_1, hcz107_2, hcz107_3, hcz107_4, hcz107_5, hcz107_6, hcz107_7, hcz107_8, hcz107_9, hfz107_0, hfz107_1, hfz107_2, hfz107_3, hfz107_4, hfz107_5, hfz107_6, hfz107_7, hfz107_8, hfz107_9⟩ := cz10 BK293.out
             go_wp2
             go_meet
             case rel => exact ⟨_, (0), (0), (x308000_3), H', ⟨by have := HK1.out; have := HJ9.out; have := HK3.out; first | omega | exact Nat.le_refl _⟩, ⟨by (with_reducible repeat (first | refine YN ?_ _ | refine YD ?_ | refine YA ?_ _)); refine blk_far ?_ NB280_293.out _; (with_reducible repeat (first | refine YN ?_ _ | refine YD ?_ | refine YA ?_ _)); exact BK280.out⟩, ⟨by (with_reducible repeat (first | refine YN ?_ _ | refine YD ?_ | refine YA ?_ _)); refine blk_put (cs := #[.int .i64 x7_1, .int .i64 0, .int .i64 0, .int .i64 0, .int .i64 0, .int .i64 0, .int .i64 0, .int .i64 0, .int .i64 0, .int .i64 0]) ?_ 3 _ rfl; (with_reducible repeat (first | refine YN ?_ _ | refine YD ?_ | refine YA ?_ _)); exact BK293.out⟩, ⟨by (with_reducible repeat (first | refine YN ?_ _ | refine YD ?_ | refine YA ?_ _)); refine blk_far ?_ NB307_293.out _; (with_reducible repeat (first | refine YN ?_ _ | refine YD ?_ | refine YA ?_ _)); exact BK307.out⟩, ⟨by repeat (first | (with_reducible first | exact HB.out | apply XA | apply XN | apply XD | refine XS ?_ GE280.out | refine XS ?_ GE293.out | refine XS ?_ GE307.out) | exact HB.out)⟩⟩
            ·rw [if_neg c102] at H;have c102b0 : (x7_1 == 0) = false := beq_eq_false_iff_ne.mpr c102;have c102b1 : (x7_1 != 0) = true := bne_iff_ne.mpr c102
             (first | rw [c102b0] | (simp only [i64_w, i32_w]; rw [c102b0]) | skip)
             by_cases c108 : x7_1 = 1
             ·rw [if_pos c108] at H;have c108b0 : (x7_1 == 1) = true := beq_iff_eq.mpr c108;have c108b1 : (x7_1 != 1) = false := bne_eq_false_iff_eq.mpr c108;clear c108;have H' := As H;clear H
              try go_wp2
              replace HO_4 := As (RD HO_4.out);replace BK280 := As (YD BK280.out);replace BK293 := As (YD BK293.out);replace BK307 := As (YD BK307.out);replace HB := As (XD HB.out);refine start_ (n := 8) (S := fun w' => w'.cell? ⟨gb307, 0, none⟩ = some (.int .i64 x308000_3) ∧ w'.cell? ⟨gb307, 1, none⟩ = some (.int .i64 x308001_3) ∧ w'.cell? ⟨gb307, 2, none⟩ = some (.int .i64 x308002_3)) (ds := []) (fl 0 8) kr rfl rfl (cy3 BK307.out) (fun hHeld => ?_); refine with_tabW r6_Parse.tab28 r6_Parse.bits28 (fun HT_ HW_ => ?_);generalize wr.drew = w109 at HO_4 BK280 BK293 BK307 HB hHeld ⊢;refine pure_ (i := 0) (N := some 106) (v := ?_) (a' := ?_) (fl 1 7) rfl rfl (any_of HT_.out kr) (fun _ _ _ h => h) (Or.inl ⟨by rfl, ?_⟩) ?_ ?_;rotate_left;(intro w';go_simp;with_reducible rfl);rotate_left;(simp only [Act.put,z0,z1,z2,i64_w,i32_w];rfl);refine pure_ (i := 2) (N := some 108) (v := ?_) (a' := ?_) #[Y,O,Y,O,O,O,O,O] rfl rfl (any_of HT_.out kr) (fun _ _ _ h => h) (Or.inl ⟨by rfl, ?_⟩) ?_ ?_;rotate_left;(intro w';go_simp;with_reducible rfl);rotate_left;(simp only [Act.put,z0,z1,z2,i64_w,i32_w];rfl);refine take_ (i := 1) (N := some 107) (v := ?_) (a' := ?_) (fl 3 5) rfl rfl (take_ofW HT_.out HW_.out kr) (fun _ _ _ h => h) (Or.inl ⟨by rfl, ?_⟩) hHeld ?_ ?_;rotate_left;(rintro w' ⟨s0, s1, s2⟩;go_simp;with_reducible rfl);rotate_left;(simp only [Act.put,z0,z1,z2,i64_w,i32_w];rfl);refine pure_ (i := 4) (N := some 110) (v := ?_) (a' := ?_) #[Y,Y,Y,O,Y,O,O,O] rfl rfl (any_of HT_.out kr) (fun _ _ _ h => h) (Or.inl ⟨by rfl, ?_⟩) ?_ ?_;rotate_left;(intro w';go_simp;with_reducible rfl);rotate_left;(simp only [Act.put,z0,z1,z2,i64_w,i32_w];rfl);refine take_ (i := 3) (N := some 109) (v := ?_) (a' := ?_) (fl 5 3) rfl rfl (take_ofW HT_.out HW_.out kr) (fun _ _ _ h => h) (Or.inl ⟨by rfl, ?_⟩) hHeld ?_ ?_;rotate_left;(rintro w' ⟨s0, s1, s2⟩;go_simp;with_reducible rfl);rotate_left;(simp only [Act.put,z0,z1,z2,i64_w,i32_w];rfl);refine one_ (i := 5) (N := none) (fl 6 2) rfl rfl (one_of HT_.out kr) (by decide) (fun K hK => ?_);have hs110 : w109.cell? ⟨gb293, 1, none⟩ = some (.int .i64 0) := bc BK293.out 1 rfl;have hfs110 := blk_frozen BK293.out 1;have hns110_0 := NB280_293.out;have hns110_2 := NB307_293.out;have hms110_0 := NB293_280.out;have hms110_2 := NB293_307.out;refine skip_ (w1 := ?_) (by rfl) rfl ?_ ?_;rotate_left
              ·go_simp;rfl
              refine hK.out _ _ ⟨((cell_far (p := ⟨gb293, _, none⟩) NB307_293.out _).trans (hHeld.1)), ((cell_far (p := ⟨gb293, _, none⟩) NB307_293.out _).trans (hHeld.2.1)), ((cell_far (p := ⟨gb293, _, none⟩) NB307_293.out _).trans (hHeld.2.2))⟩ (fun hHeld => ?_);clear hK K;refine pure_ (i := 6) (N := some 111) (v := ?_) (a' := ?_) (fl 7 1) rfl rfl (any_of HT_.out kr) (fun _ _ _ h => h) (Or.inl ⟨by rfl, ?_⟩) ?_ ?_;rotate_left;(intro w';go_simp;with_reducible rfl);rotate_left;(simp only [Act.put,z0,z1,z2,i64_w,i32_w];rfl);refine one_ (i := 7) (N := none) (fl 8 0) rfl rfl (one_of HT_.out kr) (by decide) (fun K hK => ?_);have hs111 : w109.cell? ⟨gb293, 2, none⟩ = some (.int .i64 0) := bc BK293.out 2 rfl;have hfs111 := blk_frozen BK293.out 2;have hns111_0 := NB280_293.out;have hns111_2 := NB307_293.out;have hms111_0 := NB293_280.out;have hms111_2 := NB293_307.out;refine skip_ (w1 := ?_) (by rfl) rfl ?_ ?_;rotate_left
              ·go_simp;rfl
              refine hK.out _ _ ⟨((cell_far (p := ⟨gb293, _, none⟩) NB307_293.out _).trans (hHeld.1)), ((cell_far (p := ⟨gb293, _, none⟩) NB307_293.out _).trans (hHeld.2.1)), ((cell_far (p := ⟨gb293, _, none⟩) NB307_293.out _).trans (hHeld.2.2))⟩ (fun hHeld => ?_);clear hK K;refine done_ (done_of HT_.out kr) ?_
              try go_wp2
              go_meet
              case rel => exact ⟨_, (x308000_3), (x308001_3), (0), H', ⟨by have := HK1.out; have := HJ9.out; have := HK3.out; first | omega | exact Nat.le_refl _⟩, ⟨by (iterate 2 ((with_reducible repeat (first | refine YN ?_ _ | refine YD ?_ | refine YA ?_ _)); refine blk_far ?_ NB280_293.out _)); (with_reducible repeat (first | refine YN ?_ _ | refine YD ?_ | refine YA ?_ _)); exact BK280.out⟩, ⟨by apply blk_to; (iterate 2 ((with_reducible repeat (first | refine YN ?_ _ | refine YD ?_ | refine YA ?_ _)); apply blk_set)); (with_reducible repeat (first | refine YN ?_ _ | refine YD ?_ | refine YA ?_ _)); exact BK293.out; simp only [z0,z1,z2]⟩, ⟨by (iterate 2 ((with_reducible repeat (first | refine YN ?_ _ | refine YD ?_ | refine YA ?_ _)); refine blk_far ?_ NB307_293.out _)); (with_reducible repeat (first | refine YN ?_ _ | refine YD ?_ | refine YA ?_ _)); exact BK307.out⟩, ⟨by repeat (first | (with_reducible first | exact HB.out | apply XA | apply XN | apply XD | refine XS ?_ GE280.out | refine XS ?_ GE293.out | refine XS ?_ GE307.out) | exact HB.out)⟩⟩
             ·rw [if_neg c108] at H;have c108b0 : (x7_1 == 1) = false := beq_eq_false_iff_ne.mpr c108;have c108b1 : (x7_1 != 1) = true := bne_iff_ne.mpr c108
              by_cases c112 : x7_1 = 2
              ·rw [if_pos c112] at H;have c112b0 : (x7_1 == 2) = true := beq_iff_eq.mpr c112;have c112b1 : (x7_1 != 2) = false := bne_eq_false_iff_eq.mpr c112;clear c112;have H' := As H;clear H
               try go_wp2
               replace HO_4 := As (RD HO_4.out);replace BK280 := As (YD BK280.out);replace BK293 := As (YD BK293.out);replace BK307 := As (YD BK307.out);replace HB := As (XD HB.out);refine start_ (n := 12) (S := fun w' => w'.cell? ⟨gb307, 0, none⟩ = some (.int .i64 x308000_3) ∧ w'.cell? ⟨gb307, 1, none⟩ = some (.int .i64 x308001_3) ∧ w'.cell? ⟨gb307, 2, none⟩ = some (.int .i64 x308002_3)) (ds := []) (fl 0 12) kr rfl rfl (cy3 BK307.out) (fun hHeld => ?_); refine with_tabW r6_Parse.tab30 r6_Parse.bits30 (fun HT_ HW_ => ?_);generalize wr.drew = w113 at HO_4 BK280 BK293 BK307 HB hHeld ⊢;refine pure_ (i := 0) (N := some 114) (v := ?_) (a' := ?_) (fl 1 11) rfl rfl (any_of HT_.out kr) (fun _ _ _ h => h) (Or.inl ⟨by rfl, ?_⟩) ?_ ?_;rotate_left;(intro w';go_simp;with_reducible rfl);rotate_left;(simp only [Act.put,z0,z1,z2,i64_w,i32_w];rfl);refine pure_ (i := 2) (N := some 116) (v := ?_) (a' := ?_) #[Y,O,Y,O,O,O,O,O,O,O,O,O] rfl rfl (any_of HT_.out kr) (fun _ _ _ h => h) (Or.inl ⟨by rfl, ?_⟩) ?_ ?_;rotate_left;(intro w';go_simp;with_reducible rfl);rotate_left;(simp only [Act.put,z0,z1,z2,i64_w,i32_w];rfl);refine pure_ (i := 4) (N := some 118) (v := ?_) (a' := ?_) #[Y,O,Y,O,Y,O,O,O,O,O,O,O] rfl rfl (any_of HT_.out kr) (fun _ _ _ h => h) (Or.inl ⟨by rfl, ?_⟩) ?_ ?_;rotate_left;(intro w';go_simp;with_reducible rfl);rotate_left;(simp only [Act.put,z0,z1,z2,i64_w,i32_w];rfl);refine take_ (i := 1) (N := some 115) (v := ?_) (a' := ?_) #[Y,Y,Y,O,Y,O,O,O,O,O,O,O] rfl rfl (take_ofW HT_.out HW_.out kr) (fun _ _ _ h => h) (Or.inl ⟨by rfl, ?_⟩) hHeld ?_ ?_;rotate_left;(rintro w' ⟨s0, s1, s2⟩;go_simp;with_reducible rfl);rotate_left;(simp only [Act.put,z0,z1,z2,i64_w,i32_w];rfl);refine pure_ (i := 6) (N := some 120) (v := ?_) (a' := ?_) #[Y,Y,Y,O,Y,O,Y,O,O,O,O,O] rfl rfl (any_of HT_.out kr) (fun _ _ _ h => h) (Or.inl ⟨by rfl, ?_⟩) ?_ ?_;rotate_left;(intro w';go_simp;with_reducible rfl);rotate_left;(simp only [Act.put,z0,z1,z2,i64_w,i32_w];rfl);refine take_ (i := 3) (N := some 117) (v := ?_) (a' := ?_) #[Y,Y,Y,Y,Y,O,Y,O,O,O,O,O] rfl rfl (take_ofW HT_.out HW_.out kr) (fun _ _ _ h => h) (Or.inl ⟨by rfl, ?_⟩) hHeld ?_ ?_;rotate_left;(rintro w' ⟨s0, s1, s2⟩;go_simp;with_reducible rfl);rotate_left;(simp only [Act.put,z0,z1,z2,i64_w,i32_w];rfl);refine take_ (i := 5) (N := some 119) (v := ?_) (a' := ?_) (fl 7 5) rfl rfl (take_ofW HT_.out HW_.out kr) (fun _ _ _ h => h) (Or.inl ⟨by rfl, ?_⟩) hHeld ?_ ?_;rotate_left;(rintro w' ⟨s0, s1, s2⟩;go_simp;with_reducible rfl);rotate_left;(simp only [Act.put,z0,z1,z2,i64_w,i32_w];rfl);refine one_ (i := 7) (N := none) (fl 8 4) rfl rfl (one_of HT_.out kr) (by decide) (fun K hK => ?_);have hs114 : w113.cell? ⟨gb293, 1, none⟩ = some (.int .i64 0) := bc BK293.out 1 rfl;have hfs114 := blk_frozen BK293.out 1;have hns114_0 := NB280_293.out;have hns114_2 := NB307_293.out;have hms114_0 := NB293_280.out;have hms114_2 := NB293_307.out;refine skip_ (w1 := ?_) (by rfl) rfl ?_ ?_;rotate_left
               ·go_simp;rfl
               refine hK.out _ _ ⟨((cell_far (p := ⟨gb293, _, none⟩) NB307_293.out _).trans (hHeld.1)), ((cell_far (p := ⟨gb293, _, none⟩) NB307_293.out _).trans (hHeld.2.1)), ((cell_far (p := ⟨gb293, _, none⟩) NB307_293.out _).trans (hHeld.2.2))⟩ (fun hHeld => ?_);clear hK K;refine pure_ (i := 8) (N := some 121) (v := ?_) (a' := ?_) (fl 9 3) rfl rfl (any_of HT_.out kr) (fun _ _ _ h => h) (Or.inl ⟨by rfl, ?_⟩) ?_ ?_;rotate_left;(intro w';go_simp;with_reducible rfl);rotate_left;(simp only [Act.put,z0,z1,z2,i64_w,i32_w];rfl);refine one_ (i := 9) (N := none) (fl 10 2) rfl rfl (one_of HT_.out kr) (by decide) (fun K hK => ?_);have hs115 : w113.cell? ⟨gb293, 2, none⟩ = some (.int .i64 0) := bc BK293.out 2 rfl;have hfs115 := blk_frozen BK293.out 2;have hns115_0 := NB280_293.out;have hns115_2 := NB307_293.out;have hms115_0 := NB293_280.out;have hms115_2 := NB293_307.out;refine skip_ (w1 := ?_) (by rfl) rfl ?_ ?_;rotate_left
               ·go_simp;rfl
               refine hK.out _ _ ⟨((cell_far (p := ⟨gb293, _, none⟩) NB307_293.out _).trans (hHeld.1)), ((cell_far (p := ⟨gb293, _, none⟩) NB307_293.out _).trans (hHeld.2.1)), ((cell_far (p := ⟨gb293, _, none⟩) NB307_293.out _).trans (hHeld.2.2))⟩ (fun hHeld => ?_);clear hK K;refine pure_ (i := 10) (N := some 122) (v := ?_) (a' := ?_) (fl 11 1) rfl rfl (any_of HT_.out kr) (fun _ _ _ h => h) (Or.inl ⟨by rfl, ?_⟩) ?_ ?_;rotate_left;(intro w';go_simp;with_reducible rfl);rotate_left;(simp only [Act.put,z0,z1,z2,i64_w,i32_w];rfl);refine one_ (i := 11) (N := none) (fl 12 0) rfl rfl (one_of HT_.out kr) (by decide) (fun K hK => ?_);have hs116 : w113.cell? ⟨gb293, 3, none⟩ = some (.int .i64 0) := bc BK293.out 3 rfl;have hfs116 := blk_frozen BK293.out 3;have hns116_0 := NB280_293.out;have hns116_2 := NB307_293.out;have hms116_0 := NB293_280.out;have hms116_2 := NB293_307.out;refine skip_ (w1 := ?_) (by rfl) rfl ?_ ?_;rotate_left
               ·go_simp;rfl
               refine hK.out _ _ ⟨((cell_far (p := ⟨gb293, _, none⟩) NB307_293.out _).trans (hHeld.1)), ((cell_far (p := ⟨gb293, _, none⟩) NB307_293.out _).trans (hHeld.2.1)), ((cell_far (p := ⟨gb293, _, none⟩) NB307_293.out _).trans (hHeld.2.2))⟩ (fun hHeld => ?_);clear hK K;refine done_ (done_of HT_.out kr) ?_
               try go_wp2
               go_meet
               case rel => exact ⟨_, (x308000_3), (x308001_3), (x308002_3), H', ⟨by have := HK1.out; have := HJ9.out; have := HK3.out; first | omega | exact Nat.le_refl _⟩, ⟨by (iterate 3 ((with_reducible repeat (first | refine YN ?_ _ | refine YD ?_ | refine YA ?_ _)); refine blk_far ?_ NB280_293.out _)); (with_reducible repeat (first | refine YN ?_ _ | refine YD ?_ | refine YA ?_ _)); exact BK280.out⟩, ⟨by apply blk_to; (iterate 3 ((with_reducible repeat (first | refine YN ?_ _ | refine YD ?_ | refine YA ?_ _)); apply blk_set)); (with_reducible repeat (first | refine YN ?_ _ | refine YD ?_ | refine YA ?_ _)); exact BK293.out; simp only [z0,z1,z2]⟩, ⟨by (iterate 3 ((with_reducible repeat (first | refine YN ?_ _ | refine YD ?_ | refine YA ?_ _)); refine blk_far ?_ NB307_293.out _)); (with_reducible repeat (first | refine YN ?_ _ | refine YD ?_ | refine YA ?_ _)); exact BK307.out⟩, ⟨by repeat (first | (with_reducible first | exact HB.out | apply XA | apply XN | apply XD | refine XS ?_ GE280.out | refine XS ?_ GE293.out | refine XS ?_ GE307.out) | exact HB.out)⟩⟩
              ·rw [if_neg c112] at H;have c112b0 : (x7_1 == 2) = false := beq_eq_false_iff_ne.mpr c112;have c112b1 : (x7_1 != 2) = true := bne_iff_ne.mpr c112;have H' := As H;clear H
               go_wp2
               go_meet
               case rel => exact ⟨_, (0), (0), (0), H', ⟨by have := HK1.out; have := HJ9.out; have := HK3.out; first | omega | exact Nat.le_refl _⟩, ⟨by (with_reducible repeat (first | refine YN ?_ _ | refine YD ?_ | refine YA ?_ _)); exact BK280.out⟩, ⟨by (with_reducible repeat (first | refine YN ?_ _ | refine YD ?_ | refine YA ?_ _)); exact BK293.out⟩, ⟨by (with_reducible repeat (first | refine YN ?_ _ | refine YD ?_ | refine YA ?_ _)); exact BK307.out⟩, ⟨by repeat (first | (with_reducible first | exact HB.out | apply XA | apply XN | apply XD | refine XS ?_ GE280.out | refine XS ?_ GE293.out | refine XS ?_ GE307.out) | exact HB.out)⟩⟩
           case rest =>
            clear HC100
            try clear c1
            try clear p2
            try clear q2
            try clear hx2
            try clear c3
            try clear p3
            try clear q3
            try clear hx3
            try clear p6
            try clear c7
            try clear c8
            try clear c9
            try clear c10
            try clear c11
            try clear p29
            try clear q29
            try clear hx29
            try clear p30
            try clear q30
            try clear hx30
            try clear c36
            try clear p64
            try clear c77
            try clear c77b0
            try clear c78
            try clear c78b0
            try clear c80
            try clear c81
            try clear c81b0
            try clear c81b1
            try clear c81b2
            try clear c83
            try clear c84
            try clear c86
            try clear c86b0
            try clear c86b1
            try clear c86b2
            try clear c88
            try clear c89
            try clear c91
            try clear c91b0
            try clear c91b1
            try clear c91b2
            try clear c93
            try clear c94
            try clear c97
            try clear c98
            try clear c102
            try clear c102b0
            try clear c102b1
            try clear c103
            try clear c104
            try clear c106
            try clear c108
            try clear c108b0
            try clear c108b1
            try clear c112
            try clear c112b0
            try clear c112b1
            try clear hcz105_0 hcz105_1 hcz105_2
            try clear hcz107_0 hcz107_1 hcz107_2 hcz107_3 hcz107_4 hcz107_5 hcz107_6 hcz107_7 hcz107_8 hcz107_9
            try clear hcz32_6 hcz32_7 hcz32_8 hcz32_9
            try clear hcz38_0 hcz38_1 hcz38_2
            try clear hcz44_0 hcz44_1 hcz44_2
            try clear hcz59_0 hcz59_1 hcz59_2 hcz59_3 hcz59_4 hcz59_5 hcz59_6 hcz59_7 hcz59_8 hcz59_9
            try clear hcz65_0 hcz65_1 hcz65_2 hcz65_3 hcz65_4 hcz65_5 hcz65_6 hcz65_7 hcz65_8 hcz65_9
            try clear hcz69_0 hcz69_1 hcz69_2 hcz69_3 hcz69_4 hcz69_5 hcz69_6 hcz69_7 hcz69_8 hcz69_9
            try clear hcz72_0 hcz72_1 hcz72_2 hcz72_3 hcz72_4 hcz72_5 hcz72_6 hcz72_7 hcz72_8 hcz72_9
            try clear hcz75_0 hcz75_1 hcz75_2 hcz75_3 hcz75_4 hcz75_5 hcz75_6 hcz75_7 hcz75_8 hcz75_9
            try clear hcz95_0 hcz95_1 hcz95_2
            try clear hcz95_0 hcz95_1 hcz95_2
            try clear hcz95_0 hcz95_1 hcz95_2
            try clear hcz99_0 hcz99_1 hcz99_2 hcz99_3 hcz99_4 hcz99_5 hcz99_6 hcz99_7 hcz99_8 hcz99_9
            try clear hfz105_0 hfz105_1 hfz105_2
            try clear hfz107_0 hfz107_1 hfz107_2 hfz107_3 hfz107_4 hfz107_5 hfz107_6 hfz107_7 hfz107_8 hfz107_9
            try clear hfz32_0 hfz32_1 hfz32_2 hfz32_3 hfz32_4 hfz32_5 hfz32_6 hfz32_7 hfz32_8 hfz32_9
            try clear hfz38_0 hfz38_1 hfz38_2
            try clear hfz44_0 hfz44_1 hfz44_2
            try clear hfz59_0 hfz59_1 hfz59_2 hfz59_3 hfz59_4 hfz59_5 hfz59_6 hfz59_7 hfz59_8 hfz59_9
            try clear hfz65_0 hfz65_1 hfz65_2 hfz65_3 hfz65_4 hfz65_5 hfz65_6 hfz65_7 hfz65_8 hfz65_9
            try clear hfz69_0 hfz69_1 hfz69_2 hfz69_3 hfz69_4 hfz69_5 hfz69_6 hfz69_7 hfz69_8 hfz69_9
            try clear hfz72_0 hfz72_1 hfz72_2 hfz72_3 hfz72_4 hfz72_5 hfz72_6 hfz72_7 hfz72_8 hfz72_9
            try clear hfz75_0 hfz75_1 hfz75_2 hfz75_3 hfz75_4 hfz75_5 hfz75_6 hfz75_7 hfz75_8 hfz75_9
            try clear hfz95_0 hfz95_1 hfz95_2
            try clear hfz95_0 hfz95_1 hfz95_2
            try clear hfz95_0 hfz95_1 hfz95_2
            try clear hfz99_0 hfz99_1 hfz99_2 hfz99_3 hfz99_4 hfz99_5 hfz99_6 hfz99_7 hfz99_8 hfz99_9
            try clear hx290_0
            try clear hx291_0
            try clear hx292_0
            try clear hx294_0
            try clear hx300_0
            try clear hx308_0
            try clear p2
            try clear p29
            try clear p290
            try clear p291
            try clear p292
            try clear p294
            try clear p3
            try clear p30
            try clear p300
            try clear p308
            try clear p6
            try clear q2
            try clear q29
            try clear q290
            try clear q291
            try clear q292
            try clear q294
            try clear q3
            try clear q30
            try clear q300
            try clear q308
            obtain ⟨kq, x294001_99, x294002_99, x294003_99, HA, HJ99, BK280, BK293, BK307, HB⟩ := hcut
            cases kq with
            | zero => exact absurd HA.out (by simp [r6_Parse.j4])
            | succ kj99 =>
             have H := HA.out;clear HA;simp only [r6_Parse.j4] at H;replace H := bE H;obtain ⟨t311, A1170, H⟩ := H;replace H : (if t311 = true then (some (x7_1, x294001_99, x294002_99, x294003_99, 0, 0, 0, 0, 0, 0, true)) else (some (0, 0, 0, 0, 0, 0, 0, 0, 0, 0, false))) = some (r1, r2, r3, r4, r5, r6, r7, r8, r9, r10, r11) := H;have A117 := As A1170;clear A1170
             by_cases c118 : t311 = true
             ·subst c118
              have H1 : (some (x7_1, x294001_99, x294002_99, x294003_99, 0, 0, 0, 0, 0, 0, true)) = some (r1, r2, r3, r4, r5, r6, r7, r8, r9, r10, r11) := by rw [if_pos rfl] at H; exact H
              clear H;have H := H1;clear H1;simp only [Option.some.injEq, Prod.mk.injEq] at H;obtain ⟨rfl, rfl, rfl, rfl, rfl, rfl, rfl, rfl, rfl, rfl, rfl⟩ := H;have hnb119 := NB293_280.out;have hnc119 := NB280_293.out;have hnb120 := NB293_307.out;have hnc120 := NB307_293.out;obtain ⟨hcz121_0, hcz121_1, hcz121_2, hcz121_3, hcz121_4, hcz121_5, hcz121_6, hcz121_7, hcz121_8, hcz121_9, hfz121_0, hfz121_1, hfz121_2, hfz121_3, hfz121_4, hfz121_5, hfz121_6, hfz121_7, hfz121_8, hfz121_9⟩ := cz10 BK293.out
              go_wp2_with (first | ((with_reducible refine gate_callee (f := 8) rfl ?_); refine goesL_ (some 124) rfl rfl Tryz.func8 kr rfl #[.agg #[.int .i64 x7_1, .int .i64 x294001_99, .int .i64 x294002_99, .int .i64 x294003_99, .int .i64 0, .int .i64 0, .int .i64 0, .int .i64 0, .int .i64 0, .int .i64 0]] rfl sa ?_; (with_reducible refine (r6_May.calls kj99 x7_1 x294001_99 x294002_99 x294003_99 0 0 0 0 0 0 _ _ A117.out).mono ?_); rintro e w122 ⟨rfl, hb⟩; refine ⟨_, rfl, ?_⟩; replace BK280 := As (YB (g := gb280) (o := .cells #[.int .i64 x281000_3, .int .i64 x281001_3, .int .i64 x281002_3, .int .i64 x281003_3, .int .i64 x281004_3, .int .i64 x281005_3, .int .i64 x281006_3, .int .i64 x281007_3, .int .i64 x281008_3, .int .i64 x281009_3] 25 (0, 0)) (bk BK280.out) hb); replace BK293 := As (YB (g := gb293) (o := .cells #[.int .i64 x7_1, .int .i64 x294001_99, .int .i64 x294002_99, .int .i64 x294003_99, .int .i64 0, .int .i64 0, .int .i64 0, .int .i64 0, .int .i64 0, .int .i64 0] 25 (0, 0)) (bk BK293.out) hb); replace BK307 := As (YB (g := gb307) (o := .cells #[.int .i64 x308000_3, .int .i64 x308001_3, .int .i64 x308002_3] 70 (0, 0)) (bk BK307.out) hb); replace HB := As (XT (be HB.out) hb); (try clear hb); (try clear hb2); (try clear hk); (try clear hi); obtain ⟨hcz123_0, hcz123_1, hcz123_2, hcz123_3, hcz123_4, hcz123_5, hcz123_6, hcz123_7, hcz123_8, hcz123_9, hfz123_0, hfz123_1, hfz123_2, hfz123_3, hfz123_4, hfz123_5, hfz123_6, hfz123_7, hfz123_8, hfz123_9⟩ := cz10 BK293.out; have hnb124 := NB280_307.out; have hnc124 := NB307_280.out; obtain ⟨hcz125_0, hcz125_1, hcz125_2, hcz125_3, hcz125_4, hcz125_5, hcz125_6, hcz125_7, hcz125_8, hcz125_9, hfz125_0, hfz125_1, hfz125_2, hfz125_3, hfz125_4, hfz125_5, hfz125_6, hfz125_7, hfz125_8, hfz125_9⟩ := cz10 BK280.out))
              refine bodyPost_ret (results_ct rfl _ _ gb280 25 #[.int .i64 x7_1, .int .i64 x294001_99, .int .i64 x294002_99, .int .i64 x294003_99, .int .i64 0, .int .i64 0, .int .i64 0, .int .i64 0, .int .i64 0, .int .i64 0] (0, 0) _ rfl (by apply blk_to; (iterate 10 ((with_reducible repeat (first | refine YN ?_ _ | refine YD ?_ | refine YA ?_ _)); apply blk_set)); (with_reducible repeat (first | refine YN ?_ _ | refine YD ?_ | refine YA ?_ _)); exact BK280.out; simp only [z0,z1,z2]) Tryz.underlying25 rfl kr) rfl ?_;exact ⟨by first | rfl | (simp [errW_none, errW_some] <;> rfl) | (simp [*, errW_none, errW_some] <;> rfl), by repeat (first | (with_reducible first | exact HB.out | apply XA | apply XN | apply XD | refine XS ?_ GE280.out | refine XS ?_ GE293.out | refine XS ?_ GE307.out) | exact HB.out)⟩
             ·replace c118 := Bool.eq_false_iff.mpr c118;subst c118
              have H1 : (some (0, 0, 0, 0, 0, 0, 0, 0, 0, 0, false)) = some (r1, r2, r3, r4, r5, r6, r7, r8, r9, r10, r11) := by rw [if_neg (show ¬ (false = true) by decide)] at H; exact H
              clear H;have H := H1;clear H1;simp only [Option.some.injEq, Prod.mk.injEq] at H;obtain ⟨rfl, rfl, rfl, rfl, rfl, rfl, rfl, rfl, rfl, rfl, rfl⟩ := H;have hnb126 := NB293_280.out;have hnc126 := NB280_293.out;have hnb127 := NB293_307.out;have hnc127 := NB307_293.out;obtain ⟨hcz128_0, hcz128_1, hcz128_2, hcz128_3, hcz128_4, hcz128_5, hcz128_6, hcz128_7, hcz128_8, hcz128_9, hfz128_0, hfz128_1, hfz128_2, hfz128_3, hfz128_4, hfz128_5, hfz128_6, hfz128_7, hfz128_8, hfz128_9⟩ := cz10 BK293.out
              go_wp2_with (first | ((with_reducible refine gate_callee (f := 8) rfl ?_); refine goesL_ (some 124) rfl rfl Tryz.func8 kr rfl #[.agg #[.int .i64 x7_1, .int .i64 x294001_99, .int .i64 x294002_99, .int .i64 x294003_99, .int .i64 0, .int .i64 0, .int .i64 0, .int .i64 0, .int .i64 0, .int .i64 0]] rfl sa ?_; (with_reducible refine (r6_May.calls kj99 x7_1 x294001_99 x294002_99 x294003_99 0 0 0 0 0 0 _ _ A117.out).mono ?_); rintro e w129 ⟨rfl, hb⟩; refine ⟨_, rfl, ?_⟩; replace BK280 := As (YB (g := gb280) (o := .cells #[.int .i64 x281000_3, .int .i64 x281001_3, .int .i64 x281002_3, .int .i64 x281003_3, .int .i64 x281004_3, .int .i64 x281005_3, .int .i64 x281006_3, .int .i64 x281007_3, .int .i64 x281008_3, .int .i64 x281009_3] 25 (0, 0)) (bk BK280.out) hb); replace BK293 := As (YB (g := gb293) (o := .cells #[.int .i64 x7_1, .int .i64 x294001_99, .int .i64 x294002_99, .int .i64 x294003_99, .int .i64 0, .int .i64 0, .int .i64 0, .int .i64 0, .int .i64 0, .int .i64 0] 25 (0, 0)) (bk BK293.out) hb); replace BK307 := As (YB (g := gb307) (o := .cells #[.int .i64 x308000_3, .int .i64 x308001_3, .int .i64 x308002_3] 70 (0, 0)) (bk BK307.out) hb); replace HB := As (XT (be HB.out) hb); (try clear hb); (try clear hb2); (try clear hk); (try clear hi); have hnb130 := NB280_307.out; have hnc130 := NB307_280.out; obtain ⟨hcz131_0, hcz131_1, hcz131_2, hcz131_3, hcz131_4, hcz131_5, hcz131_6, hcz131_7, hcz131_8, hcz131_9, hfz131_0, hfz131_1, hfz131_2, hfz131_3, hfz131_4, hfz131_5, hfz131_6, hfz131_7, hfz131_8, hfz131_9⟩ := cz10 BK280.out))
              refine bodyPost_ret (results_ct rfl _ _ gb280 25 #[.int .i64 0, .int .i64 0, .int .i64 0, .int .i64 0, .int .i64 0, .int .i64 0, .int .i64 0, .int .i64 0, .int .i64 0, .int .i64 0] (0, 0) _ rfl (by apply blk_to; (iterate 10 ((with_reducible repeat (first | refine YN ?_ _ | refine YD ?_ | refine YA ?_ _)); apply blk_set)); (with_reducible repeat (first | refine YN ?_ _ | refine YD ?_ | refine YA ?_ _)); exact BK280.out; simp only [z0,z1,z2]) Tryz.underlying25 rfl kr) rfl ?_;exact ⟨by first | rfl | (simp [errW_none, errW_some] <;> rfl) | (simp [*, errW_none, errW_some] <;> rfl), by repeat (first | (with_reducible first | exact HB.out | apply XA | apply XN | apply XD | refine XS ?_ GE280.out | refine XS ?_ GE293.out | refine XS ?_ GE307.out) | exact HB.out)⟩
          ·go_wp2_with (first | ((with_reducible refine gate_callee (f := 36) rfl ?_); refine goesL_ (some 88) rfl rfl Tryz.func36 kr rfl #[.string (rdOf ByteArray.empty t281 x14_3)] rfl sa ?_; (with_reducible refine (r6_number.calls k3 (rdOf ByteArray.empty t281 x14_3) _ _ _ A79.out).mono ?_); rintro e w' ⟨rfl, ⟨nd, rfl⟩⟩; refine ⟨_, rfl, ?_⟩; (try (rw [drewN_self wr]; generalize hq_ : World.drewN wr _ = wr; have n0_ : Aside0 (Kd.R Kd.string 9 wr w.heap.size (fun _ => True) (.slice (some ad308) t281.length co96) t281) := ⟨by rw [← hq_]; exact (ro HO_4.out)⟩; have n1_ : Aside0 (wr.heap[gb280]? = some (.cells #[.int .i64 x281000_3, .int .i64 x281001_3, .int .i64 x281002_3, .int .i64 x281003_3, .int .i64 x281004_3, .int .i64 x281005_3, .int .i64 x281006_3, .int .i64 x281007_3, .int .i64 x281008_3, .int .i64 x281009_3] 25 (0, 0))) := ⟨by rw [← hq_]; exact (bk BK280.out)⟩; have n2_ : Aside0 (wr.heap[gb293]? = some (.cells #[.int .i64 x7_1, .int .i64 0, .int .i64 0, .int .i64 0, .int .i64 0, .int .i64 0, .int .i64 0, .int .i64 0, .int .i64 0, .int .i64 0] 25 (0, 0))) := ⟨by rw [← hq_]; exact (bk BK293.out)⟩; have n3_ : Aside0 (wr.heap[gb307]? = some (.cells #[.int .i64 x308000_3, .int .i64 x308001_3, .int .i64 x308002_3] 70 (0, 0))) := ⟨by rw [← hq_]; exact (bk BK307.out)⟩; have n4_ : Aside0 (Below w.heap.size w wr) := ⟨by rw [← hq_]; exact (be HB.out)⟩; clear HO_4 BK280 BK293 BK307 HB hq_; have HO_4 := n0_; have BK280 := n1_; have BK293 := n2_; have BK307 := n3_; have HB := n4_; clear n0_ n1_ n2_ n3_ n4_)); have hnb97 := NB280_293.out; have hnc97 := NB293_280.out; have hnb98 := NB280_307.out; have hnc98 := NB307_280.out; obtain ⟨hcz99_0, hcz99_1, hcz99_2, hcz99_3, hcz99_4, hcz99_5, hcz99_6, hcz99_7, hcz99_8, hcz99_9, hfz99_0, hfz99_1, hfz99_2, hfz99_3, hfz99_4, hfz99_5, hfz99_6, hfz99_7, hfz99_8, hfz99_9⟩ := cz10 BK280.out))
           refine bodyPost_ret (results_ct rfl _ _ gb280 25 #[.int .i64 0, .int .i64 0, .int .i64 0, .int .i64 0, .int .i64 0, .int .i64 0, .int .i64 0, .int .i64 0, .int .i64 0, .int .i64 0] (0, 0) _ rfl (by apply blk_to; (iterate 10 ((with_reducible repeat (first | refine YN ?_ _ | refine YD ?_ | refine YA ?_ _)); apply blk_set)); (with_reducible repeat (first | refine YN ?_ _ | refine YD ?_ | refine YA ?_ _)); exact BK280.out; simp only [z0,z1,z2]) Tryz.underlying25 rfl kr) rfl ?_;exact ⟨by first | rfl | (simp [errW_none, errW_some] <;> rfl) | (simp [*, errW_none, errW_some] <;> rfl), by repeat (first | (with_reducible first | exact HB.out | apply XA | apply XN | apply XD | refine XS ?_ GE280.out | refine XS ?_ GE293.out | refine XS ?_ GE307.out) | exact HB.out)⟩
          ·case rel => exact ⟨(wrap64 (x14_3 + 1)), (x281000_3), (x281001_3), (x281002_3), (x281003_3), (x281004_3), (x281005_3), (x281006_3), (x281007_3), (x281008_3), (x281009_3), (x308000_3), (x308001_3), (t309), sw, H', ⟨by have := HK1.out; have := HJ9.out; have := HK3.out; omega⟩, ⟨by (with_reducible repeat (first | apply RA | apply RN | apply RD)); exact RM (RF (p := ⟨gb307, 2, none⟩) (Kd.R_types HO_4.out BK307.out (by decide)) (fun _ hk => hk.2) (.int .i64 t309)) (fun _ hk => trivial)⟩, ⟨by (with_reducible repeat (first | refine YN ?_ _ | refine YD ?_ | refine YA ?_ _)); refine blk_far ?_ NB280_307.out _; (with_reducible repeat (first | refine YN ?_ _ | refine YD ?_ | refine YA ?_ _)); exact BK280.out⟩, ⟨by (with_reducible repeat (first | refine YN ?_ _ | refine YD ?_ | refine YA ?_ _)); refine blk_far ?_ NB293_307.out _; (with_reducible repeat (first | refine YN ?_ _ | refine YD ?_ | refine YA ?_ _)); exact BK293.out⟩, ⟨by (with_reducible repeat (first | refine YN ?_ _ | refine YD ?_ | refine YA ?_ _)); refine blk_put (cs := #[.int .i64 x308000_3, .int .i64 x308001_3, .int .i64 x308002_3]) ?_ 2 _ rfl; (with_reducible repeat (first | refine YN ?_ _ | refine YD ?_ | refine YA ?_ _)); exact BK307.out⟩, ⟨by repeat (first | (with_reducible first | exact HB.out | apply XA | apply XN | apply XD | refine XS ?_ GE280.out | refine XS ?_ GE293.out | refine XS ?_ GE307.out) | exact HB.out)⟩⟩
          ·case rel => exact ⟨(wrap64 (x14_3 + 1)), (x281000_3), (x281001_3), (x281002_3), (x281003_3), (x281004_3), (x281005_3), (x281006_3), (x281007_3), (x281008_3), (x281009_3), (x308000_3), (t309), (x308002_3), sw, H', ⟨by have := HK1.out; have := HJ9.out; have := HK3.out; omega⟩, ⟨by (with_reducible repeat (first | apply RA | apply RN | apply RD)); exact RM (RF (p := ⟨gb307, 1, none⟩) (Kd.R_types HO_4.out BK307.out (by decide)) (fun _ hk => hk.2) (.int .i64 t309)) (fun _ hk => trivial)⟩, ⟨by (with_reducible repeat (first | refine YN ?_ _ | refine YD ?_ | refine YA ?_ _)); refine blk_far ?_ NB280_307.out _; (with_reducible repeat (first | refine YN ?_ _ | refine YD ?_ | refine YA ?_ _)); exact BK280.out⟩, ⟨by (with_reducible repeat (first | refine YN ?_ _ | refine YD ?_ | refine YA ?_ _)); refine blk_far ?_ NB293_307.out _; (with_reducible repeat (first | refine YN ?_ _ | refine YD ?_ | refine YA ?_ _)); exact BK293.out⟩, ⟨by (with_reducible repeat (first | refine YN ?_ _ | refine YD ?_ | refine YA ?_ _)); refine blk_put (cs := #[.int .i64 x308000_3, .int .i64 x308001_3, .int .i64 x308002_3]) ?_ 1 _ rfl; (with_reducible repeat (first | refine YN ?_ _ | refine YD ?_ | refine YA ?_ _)); exact BK307.out⟩, ⟨by repeat (first | (with_reducible first | exact HB.out | apply XA | apply XN | apply XD | refine XS ?_ GE280.out | refine XS ?_ GE293.out | refine XS ?_ GE307.out) | exact HB.out)⟩⟩
          ·case rel => exact ⟨(wrap64 (x14_3 + 1)), (x281000_3), (x281001_3), (x281002_3), (x281003_3), (x281004_3), (x281005_3), (x281006_3), (x281007_3), (x281008_3), (x281009_3), (t309), (x308001_3), (x308002_3), sw, H', ⟨by have := HK1.out; have := HJ9.out; have := HK3.out; omega⟩, ⟨by (with_reducible repeat (first | apply RA | apply RN | apply RD)); exact RM (RF (p := ⟨gb307, 0, none⟩) (Kd.R_types HO_4.out BK307.out (by decide)) (fun _ hk => hk.2) (.int .i64 t309)) (fun _ hk => trivial)⟩, ⟨by (with_reducible repeat (first | refine YN ?_ _ | refine YD ?_ | refine YA ?_ _)); refine blk_far ?_ NB280_307.out _; (with_reducible repeat (first | refine YN ?_ _ | refine YD ?_ | refine YA ?_ _)); exact BK280.out⟩, ⟨by (with_reducible repeat (first | refine YN ?_ _ | refine YD ?_ | refine YA ?_ _)); refine blk_far ?_ NB293_307.out _; (with_reducible repeat (first | refine YN ?_ _ | refine YD ?_ | refine YA ?_ _)); exact BK293.out⟩, ⟨by (with_reducible repeat (first | refine YN ?_ _ | refine YD ?_ | refine YA ?_ _)); refine blk_put (cs := #[.int .i64 x308000_3, .int .i64 x308001_3, .int .i64 x308002_3]) ?_ 0 _ rfl; (with_reducible repeat (first | refine YN ?_ _ | refine YD ?_ | refine YA ?_ _)); exact BK307.out⟩, ⟨by repeat (first | (with_reducible first | exact HB.out | apply XA | apply XN | apply XD | refine XS ?_ GE280.out | refine XS ?_ GE293.out | refine XS ?_ GE307.out) | exact HB.out)⟩⟩
   ·rw [if_neg c9] at H;have c9b0 : decide (x7_1 < 4) = false := dN c9;clear c9;simp only [Option.some.injEq, Prod.mk.injEq] at H;obtain ⟨rfl, rfl, rfl, rfl, rfl, rfl, rfl, rfl, rfl, rfl, rfl⟩ := H;obtain ⟨hcz132_0, hcz132_1, hcz132_2, hcz132_3, hcz132_4, hcz132_5, hcz132_6, hcz132_7, hcz132_8, hcz132_9, hfz132_0, hfz132_1, hfz132_2, hfz132_3, hfz132_4, hfz132_5, hfz132_6, hfz132_7, hfz132_8, hfz132_9⟩ := cz10 BK280.out
    go_wp2
    refine bodyPost_ret (results_ct rfl _ _ gb280 25 #[.int .i64 0, .int .i64 0, .int .i64 0, .int .i64 0, .int .i64 0, .int .i64 0, .int .i64 0, .int .i64 0, .int .i64 0, .int .i64 0] (0, 0) _ rfl (by apply blk_to; (iterate 10 ((with_reducible repeat (first | refine YN ?_ _ | refine YD ?_ | refine YA ?_ _)); apply blk_set)); (with_reducible repeat (first | refine YN ?_ _ | refine YD ?_ | refine YA ?_ _)); exact BK280.out; simp only [z0,z1,z2]) Tryz.underlying25 rfl kr) rfl ?_;exact ⟨by first | rfl | (simp [errW_none, errW_some] <;> rfl) | (simp [*, errW_none, errW_some] <;> rfl), by repeat (first | (with_reducible first | exact HB.out | apply XA | apply XN | apply XD | refine XS ?_ GE280.out) | exact HB.out)⟩

end Go.Proofs.YtpagbmkdphdjoaaGreatDoor.P
-- SHRUNK
-- PACKED
-- PACKED2
