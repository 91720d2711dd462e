-- written by myprint.py (this claim's own program, after the kit's print)
import Derived.Test.YtpagbmkdphdjoaaGreatDoorPx0
import Derived.Test.YtpagbmkdphdjoaaGreatDoorPx1
import Derived.Test.YtpagbmkdphdjoaaGreatDoorPx3
import Derived.Test.YtpagbmkdphdjoaaGreatDoorPx4
import Derived.Test.YtpagbmkdphdjoaaGreatDoorPx5
import Derived.Test.YtpagbmkdphdjoaaGreatDoorPack
namespace Go.Proofs.YtpagbmkdphdjoaaGreatDoor.P
open Go.RowKit Go.Proofs.YtpagbmkdphdjoaaGreatDoorW.PrintWords Go.Proofs.YtpagbmkdphdjoaaGreatDoorW.PrintLast Go.Proofs.YtpagbmkdphdjoaaGreatDoorW.PrintMore
attribute [local go_sem] max2_int min2_int max_two min_two max_three min_three max_four min_four   -- for this text's walks alone
set_option linter.unusedVariables false
set_option linter.unusedSimpArgs false

attribute [local go_sem high] eqA23
/-! ### r6_May: function 8 -/
mutual
def r6_May.j0 : Nat → Bool → Int → Int → Int → Int → Int → Int → Int → Int → Int → Int → Option (Bool)
 | 0, _, _, _, _, _, _, _, _, _, _, _ => none
 | k + 1, x3, x120000, x120001, x120002, x120003, x120004, x120005, x120006, x120007, x120008, x120009 => if x120003 ≥ 0 then (r6_May.j1 k x3 (decide (x120003 ≤ 6)) x120000 x120001 x120002 x120003 x120004 x120005 x120006 x120007 x120008 x120009) else (r6_May.j1 k x3 false x120000 x120001 x120002 x120003 x120004 x120005 x120006 x120007 x120008 x120009)
def r6_May.j1 : Nat → Bool → Bool → Int → Int → Int → Int → Int → Int → Int → Int → Int → Int → Option (Bool)
 | 0, _, _, _, _, _, _, _, _, _, _, _, _ => none
 | k + 1, x3, x4, x120000, x120001, x120002, x120003, x120004, x120005, x120006, x120007, x120008, x120009 => if (x120004 == 0 && (x120005 == 0 && (x120006 == 0))) = true then (r6_May.j2 k x3 x4 (x120007 == 0 && (x120008 == 0 && (x120009 == 0))) x120000 x120001 x120002 x120003 x120004 x120005 x120006 x120007 x120008 x120009) else (r6_May.j2 k x3 x4 false x120000 x120001 x120002 x120003 x120004 x120005 x120006 x120007 x120008 x120009)
def r6_May.j2 : Nat → Bool → Bool → Bool → Int → Int → Int → Int → Int → Int → Int → Int → Int → Int → Option (Bool)
 | 0, _, _, _, _, _, _, _, _, _, _, _, _, _ => none
 | k + 1, x3, x4, x5, x120000, x120001, x120002, x120003, x120004, x120005, x120006, x120007, x120008, x120009 => if x120000 = 0 then (if x4 = true then (if x5 = true then (if x120001 = 0 then (some (x120002 == 0)) else (some false)) else (some false)) else (some false)) else (if x120000 = 1 then (if x3 = true then ((r6_near.f x120002 31).bind fun t120 => (if t120 = true then (if x5 = true then (some (x120003 == 0)) else (some false)) else (some false))) else (some false)) else (if x120000 = 2 then (if x3 = true then ((r6_near.f x120002 5).bind fun t121 => (if t121 = true then (if x4 = true then (some x5) else (some false)) else (some false))) else (some false)) else (if x120000 = 3 then (if x120001 = 0 then (if x120002 = 0 then (if x120003 = 0 then ((r4_May.f x120004 x120005 x120006).bind fun t122 => (if t122 = true then ((r4_May.f x120007 x120008 x120009).bind fun t123 => (if t123 = true then (if x120004 ≥ 0 then (if x120007 ≤ 9999 then ((r4_Days.f k x120004 x120005 x120006).bind fun t124 => ((r4_Days.f k x120007 x120008 x120009).bind fun t125 => (some (decide (t124 ≤ t125))))) else (some false)) else (some false)) else (some false))) else (some false))) else (some false)) else (some false)) else (some false)) else (some false))))
end
def r6_May.f (k : Nat) (a0_0 : Int) (a0_1 : Int) (a0_2 : Int) (a0_3 : Int) (a0_4 : Int) (a0_5 : Int) (a0_6 : Int) (a0_7 : Int) (a0_8 : Int) (a0_9 : Int) : Option (Bool) := if a0_1 ≥ 0 then (r6_May.j0 k (decide (a0_1 ≤ 12)) a0_0 a0_1 a0_2 a0_3 a0_4 a0_5 a0_6 a0_7 a0_8 a0_9) else (r6_May.j0 k false a0_0 a0_1 a0_2 a0_3 a0_4 a0_5 a0_6 a0_7 a0_8 a0_9)
theorem r6_May.mono_l : ∀ k, (∀ y0 y1 y2 y3 y4 y5 y6 y7 y8 y9 y10, LeO (r6_May.j0 k y0 y1 y2 y3 y4 y5 y6 y7 y8 y9 y10) (r6_May.j0 (k + 1) y0 y1 y2 y3 y4 y5 y6 y7 y8 y9 y10)) ∧ (∀ y0 y1 y2 y3 y4 y5 y6 y7 y8 y9 y10 y11, LeO (r6_May.j1 k y0 y1 y2 y3 y4 y5 y6 y7 y8 y9 y10 y11) (r6_May.j1 (k + 1) y0 y1 y2 y3 y4 y5 y6 y7 y8 y9 y10 y11)) ∧ (∀ y0 y1 y2 y3 y4 y5 y6 y7 y8 y9 y10 y11 y12, LeO (r6_May.j2 k y0 y1 y2 y3 y4 y5 y6 y7 y8 y9 y10 y11 y12) (r6_May.j2 (k + 1) y0 y1 y2 y3 y4 y5 y6 y7 y8 y9 y10 y11 y12))
 | 0 => ⟨fun _ _ _ _ _ _ _ _ _ _ _ r h => by simp [r6_May.j0] at h, fun _ _ _ _ _ _ _ _ _ _ _ _ r h => by simp [r6_May.j1] at h, fun _ _ _ _ _ _ _ _ _ _ _ _ _ r h => by simp [r6_May.j2] at h⟩
 | k + 1 => by
  obtain ⟨ih0, ih1, ih2⟩ := r6_May.mono_l k;refine ⟨?_, ?_, ?_⟩
  ·intro y0 y1 y2 y3 y4 y5 y6 y7 y8 y9 y10;unfold r6_May.j0
   repeat' first
   | (with_reducible exact ih0 _ _ _ _ _ _ _ _ _ _ _)
   | (with_reducible exact ih1 _ _ _ _ _ _ _ _ _ _ _ _)
   | (with_reducible exact ih2 _ _ _ _ _ _ _ _ _ _ _ _ _)
   | (with_reducible exact r4_Days.mono _ _ _ _)
   | (with_reducible exact LeO.refl _)
   | (with_reducible exact LeO.none _)
   | (with_reducible refine LeO.ite ?_ ?_)
   | (with_reducible refine LeO.bind ?_ (fun _ => ?_))
   | exact ih0 _ _ _ _ _ _ _ _ _ _ _
   | exact ih1 _ _ _ _ _ _ _ _ _ _ _ _
   | exact ih2 _ _ _ _ _ _ _ _ _ _ _ _ _
   | exact r4_Days.mono _ _ _ _
   | exact LeO.none _
   | refine LeO.ite ?_ ?_
   | refine LeO.bind ?_ (fun _ => ?_)
  ·intro y0 y1 y2 y3 y4 y5 y6 y7 y8 y9 y10 y11;unfold r6_May.j1
   repeat' first
   | (with_reducible exact ih0 _ _ _ _ _ _ _ _ _ _ _)
   | (with_reducible exact ih1 _ _ _ _ _ _ _ _ _ _ _ _)
   | (with_reducible exact ih2 _ _ _ _ _ _ _ _ _ _ _ _ _)
   | (with_reducible exact r4_Days.mono _ _ _ _)
   | (with_reducible exact LeO.refl _)
   | (with_reducible exact LeO.none _)
   | (with_reducible refine LeO.ite ?_ ?_)
   | (with_reducible refine LeO.bind ?_ (fun _ => ?_))
   | exact ih0 _ _ _ _ _ _ _ _ _ _ _
   | exact ih1 _ _ _ _ _ _ _ _ _ _ _ _
   | exact ih2 _ _ _ _ _ _ _ _ _ _ _ _ _
   | exact r4_Days.mono _ _ _ _
   | exact LeO.none _
   | refine LeO.ite ?_ ?_
   | refine LeO.bind ?_ (fun _ => ?_)
  ·intro y0 y1 y2 y3 y4 y5 y6 y7 y8 y9 y10 y11 y12;unfold r6_May.j2
   repeat' first
   | (with_reducible exact ih0 _ _ _ _ _ _ _ _ _ _ _)
   | (with_reducible exact ih1 _ _ _ _ _ _ _ _ _ _ _ _)
   | (with_reducible exact ih2 _ _ _ _ _ _ _ _ _ _ _ _ _)
   | (with_reducible exact r4_Days.mono _ _ _ _)
   | (with_reducible exact LeO.refl _)
   | (with_reducible exact LeO.none _)
   | (with_reducible refine LeO.ite ?_ ?_)
   | (with_reducible refine LeO.bind ?_ (fun _ => ?_))
   | exact ih0 _ _ _ _ _ _ _ _ _ _ _
   | exact ih1 _ _ _ _ _ _ _ _ _ _ _ _
   | exact ih2 _ _ _ _ _ _ _ _ _ _ _ _ _
   | exact r4_Days.mono _ _ _ _
   | exact LeO.none _
   | refine LeO.ite ?_ ?_
   | refine LeO.bind ?_ (fun _ => ?_)
theorem r6_May.mono : ∀ a0 a1 a2 a3 a4 a5 a6 a7 a8 a9 k, LeO (r6_May.f k a0 a1 a2 a3 a4 a5 a6 a7 a8 a9) (r6_May.f (k + 1) a0 a1 a2 a3 a4 a5 a6 a7 a8 a9) := by
 intro a0 a1 a2 a3 a4 a5 a6 a7 a8 a9 k;obtain ⟨ih0, ih1, ih2⟩ := r6_May.mono_l k;unfold r6_May.f
 repeat' first
   | (with_reducible exact ih0 _ _ _ _ _ _ _ _ _ _ _)
   | (with_reducible exact ih1 _ _ _ _ _ _ _ _ _ _ _ _)
   | (with_reducible exact ih2 _ _ _ _ _ _ _ _ _ _ _ _ _)
   | (with_reducible exact r4_Days.mono _ _ _ _)
   | (with_reducible exact LeO.refl _)
   | (with_reducible exact LeO.none _)
   | (with_reducible refine LeO.ite ?_ ?_)
   | (with_reducible refine LeO.bind ?_ (fun _ => ?_))
   | exact ih0 _ _ _ _ _ _ _ _ _ _ _
   | exact ih1 _ _ _ _ _ _ _ _ _ _ _ _
   | exact ih2 _ _ _ _ _ _ _ _ _ _ _ _ _
   | exact r4_Days.mono _ _ _ _
   | exact LeO.none _
   | refine LeO.ite ?_ ?_
   | refine LeO.bind ?_ (fun _ => ?_)
def r6_May.T12 : Bool × List (List Nat × List Nat) := (true, [([], []), ([0], [0]), ([1], [1]), ([2], [2]), ([3], [3]), ([4, 3], [3, 4]), ([5, 3], [3, 5]), ([3, 6], [3, 6]), ([7, 3], [7]), ([8], [8]), ([9, 8], [8, 9]), ([10, 8], [8, 10]), ([8, 11], [8, 11]), ([12, 8], [12]), ([13], [13]), ([14, 13], [13, 14]), ([15, 13, 13], [13, 15]), ([13, 16], [13, 16]), ([17, 16], [17]), ([18], [18]), ([19, 18], [18, 19]), ([20, 18, 18], [18, 20]), ([18, 21], [18, 21]), ([22, 21], [22]), ([23], [23]), ([24, 23], [23, 24]), ([25, 23], [23, 25]), ([26, 23], [23, 26]), ([23, 27], [23, 27]), ([28, 23], [28]), ([29], [29]), ([30, 29], [29, 30]), ([31, 29], [29, 31]), ([32, 29], [29, 32]), ([29, 33], [29, 33]), ([34, 29], [34]), ([35], [35]), ([36, 35], [35, 36]), ([37, 35, 35], [35, 37]), ([35], [35]), ([39, 35], [35, 39]), ([40, 38, 35], [35, 40]), ([38, 41, 35], [35, 38, 41]), ([35, 42], [35, 42]), ([43, 41, 0, 1, 2, 3, 4, 5, 6, 7, 8, 9, 10, 11, 12, 13, 14, 15, 16, 17, 18, 19, 20, 21, 22, 23, 24, 25, 26, 27, 28, 29, 30, 31, 32, 33, 34, 35, 36, 37, 38, 39, 40, 41, 42, 43], [43])])
def r6_May.B12 : List Nat := [0, 1, 3, 7, 15, 31, 63, 127, 255, 511, 1023, 2047, 4095, 8191, 16383, 32767, 65535, 131071, 262143, 524287, 1048575, 2097151, 4194303, 8388607, 16777215, 33554431, 67108863, 134217727, 268435455, 536870911, 1073741823, 2147483647, 4294967295, 8589934591, 17179869183, 34359738367, 68719476735, 137438953471, 274877906943, 68719476735, 618475290623, 2199023255551, 4398046511103, 8796093022207, 17592186044415]
theorem r6_May.tab12 : rtab .any (opsOf Tryz.f8 12) = r6_May.T12 := by kernel_rfl
theorem r6_May.bits12 : waitsOk r6_May.T12.2 r6_May.B12 = true := by kernel_rfl
set_option maxHeartbeats 2000000 in
set_option maxRecDepth 100000 in
theorem r6_May.calls (k : Nat) (a0_0 : Int) (a0_1 : Int) (a0_2 : Int) (a0_3 : Int) (a0_4 : Int) (a0_5 : Int) (a0_6 : Int) (a0_7 : Int) (a0_8 : Int) (a0_9 : Int) (r : Bool) (w : World) (h : r6_May.f k a0_0 a0_1 a0_2 a0_3 a0_4 a0_5 a0_6 a0_7 a0_8 a0_9 = some r) :
  Calls Tryz.prog 8 #[.agg #[.int .i64 a0_0, .int .i64 a0_1, .int .i64 a0_2, .int .i64 a0_3, .int .i64 a0_4, .int .i64 a0_5, .int .i64 a0_6, .int .i64 a0_7, .int .i64 a0_8, .int .i64 a0_9]] w fun e w' => e = .returned (.bool r) ∧ Below w.heap.size w w' := by
 have hu25 := Tryz.underlying25;have hu23 := Tryz.underlying23;have HB := As (Below.refl w.heap.size w);have H : (if a0_1 ≥ 0 then (r6_May.j0 k (decide (a0_1 ≤ 12)) a0_0 a0_1 a0_2 a0_3 a0_4 a0_5 a0_6 a0_7 a0_8 a0_9) else (r6_May.j0 k false a0_0 a0_1 a0_2 a0_3 a0_4 a0_5 a0_6 a0_7 a0_8 a0_9)) = some r := h;clear h;have HC2 := As H;clear H
 go_enter Tryz.func8, Tryz.ntmps8
 go_upto_region 1 with (first | ((with_reducible refine gate_dst (N := 1) rfl ?_); refine box_event ?hg (N := 1) ?hd (cs := #[.int .i64 a0_0, .int .i64 a0_1, .int .i64 a0_2, .int .i64 a0_3, .int .i64 a0_4, .int .i64 a0_5, .int .i64 a0_6, .int .i64 a0_7, .int .i64 a0_8, .int .i64 a0_9]) (t := 25) ?hr ?_; (case hd => rfl); (case hg => rfl); (case hr => first | (go_simp; done) | (go_simp; rfl)); intro gb119 hg w3 hbox hb; have BK119 := As (hbox); have GW119 := As ((gz hg (be HB.out) : w.heap.size ≤ gb119)); have GE119 := As ((gz hg (be HB.out) : w.heap.size ≤ gb119)); replace HB := As (XT (be HB.out) hb); clear hb hbox hg))
 (try simp only [Act.put, List.setIfInBounds_toArray, List.set_cons_zero, List.set_cons_succ])
 go_cut [3] (fun v3 wc => ∃ (kq : Nat) (x3_1 : Bool), v3 = .bool x3_1 ∧ Aside0 (r6_May.j0 kq x3_1 a0_0 a0_1 a0_2 a0_3 a0_4 a0_5 a0_6 a0_7 a0_8 a0_9 = some r) ∧ Aside0 (kq ≤ k) ∧ Aside0 (wc.heap[gb119]? = some (.cells #[.int .i64 a0_0, .int .i64 a0_1, .int .i64 a0_2, .int .i64 a0_3, .int .i64 a0_4, .int .i64 a0_5, .int .i64 a0_6, .int .i64 a0_7, .int .i64 a0_8, .int .i64 a0_9] 25 (0, 0))) ∧ Aside0 (Below w.heap.size w wc))
 case first =>
  have H := HC2.out;clear HC2
  by_cases c4 : a0_1 ≥ 0
  ·rw [if_pos c4] at H;have c4b0 : decide (0 ≤ a0_1) = true := dY c4;clear c4
   (first | rw [c4b0] | (simp only [i64_w, i32_w]; rw [c4b0]) | skip)
   have H' := As H;clear H;obtain ⟨hcz5_0, hcz5_1, hcz5_2, hcz5_3, hcz5_4, hcz5_5, hcz5_6, hcz5_7, hcz5_8, hcz5_9, hfz5_0, hfz5_1, hfz5_2, hfz5_3, hfz5_4, hfz5_5, hfz5_6, hfz5_7, hfz5_8, hfz5_9⟩ := cz10 BK119.out
   go_wp2
   go_meet
   case rel => exact ⟨_, (decide (a0_1 ≤ 12)), sw, H', ⟨by first | omega | exact Nat.le_refl _⟩, ⟨by (with_reducible repeat (first | refine YN ?_ _ | refine YD ?_ | refine YA ?_ _)); exact BK119.out⟩, ⟨by repeat (first | (with_reducible first | exact HB.out | apply XA | apply XN | apply XD | refine XS ?_ GE119.out) | exact HB.out)⟩⟩
  ·rw [if_neg c4] at H;have c4b0 : decide (0 ≤ a0_1) = false := dN c4;clear c4
   (first | rw [c4b0] | (simp only [i64_w, i32_w]; rw [c4b0]) | skip)
   have H' := As H;clear H;obtain ⟨hcz6_0, hcz6_1, hcz6_2, hcz6_3, hcz6_4, hcz6_5, hcz6_6, hcz6_7, hcz6_8, hcz6_9, hfz6_0, hfz6_1, hfz6_2, hfz6_3, hfz6_4, hfz6_5, hfz6_6, hfz6_7, hfz6_8, hfz6_9⟩ := cz10 BK119.out
   go_wp2
   go_meet
   case rel => exact ⟨_, (false), sw, H', ⟨by first | omega | exact Nat.le_refl _⟩, ⟨by (with_reducible repeat (first | refine YN ?_ _ | refine YD ?_ | refine YA ?_ _)); exact BK119.out⟩, ⟨by repeat (first | (with_reducible first | exact HB.out | apply XA | apply XN | apply XD | refine XS ?_ GE119.out) | exact HB.out)⟩⟩
 case rest =>
  clear HC2
  try clear p2
  try clear c4
  try clear c4b0
  try clear p6
  try clear hcz5_0 hcz5_1 hcz5_2 hcz5_3 hcz5_4 hcz5_5 hcz5_6 hcz5_7 hcz5_8 hcz5_9
  try clear hcz6_0 hcz6_1 hcz6_2 hcz6_3 hcz6_4 hcz6_5 hcz6_6 hcz6_7 hcz6_8 hcz6_9
  try clear hfz5_0 hfz5_1 hfz5_2 hfz5_3 hfz5_4 hfz5_5 hfz5_6 hfz5_7 hfz5_8 hfz5_9
  try clear hfz6_0 hfz6_1 hfz6_2 hfz6_3 hfz6_4 hfz6_5 hfz6_6 hfz6_7 hfz6_8 hfz6_9
  obtain ⟨kq, x3_1, rfl, HA, HJ1, BK119, HB⟩ := hcut
  cases kq with
  | zero => exact absurd HA.out (by simp [r6_May.j0])
  | succ kj1 =>
   have H := HA.out;clear HA;simp only [r6_May.j0] at H;have HC7 := As H;clear H
   go_upto_region 2 with (fail)
   go_cut [4] (fun v4 wc => ∃ (kq : Nat) (x4_6 : Bool), v4 = .bool x4_6 ∧ Aside0 (r6_May.j1 kq x3_1 x4_6 a0_0 a0_1 a0_2 a0_3 a0_4 a0_5 a0_6 a0_7 a0_8 a0_9 = some r) ∧ Aside0 (kq ≤ kj1) ∧ Aside0 (wc.heap[gb119]? = some (.cells #[.int .i64 a0_0, .int .i64 a0_1, .int .i64 a0_2, .int .i64 a0_3, .int .i64 a0_4, .int .i64 a0_5, .int .i64 a0_6, .int .i64 a0_7, .int .i64 a0_8, .int .i64 a0_9] 25 (0, 0))) ∧ Aside0 (Below w.heap.size w wc))
   case first =>
    have H := HC7.out;clear HC7
    by_cases c8 : a0_3 ≥ 0
    ·rw [if_pos c8] at H;have c8b0 : decide (0 ≤ a0_3) = true := dY c8;clear c8
     (first | rw [c8b0] | (simp only [i64_w, i32_w]; rw [c8b0]) | skip)
     have H' := As H;clear H;obtain ⟨hcz9_0, hcz9_1, hcz9_2, hcz9_3, hcz9_4, hcz9_5, hcz9_6, hcz9_7, hcz9_8, hcz9_9, hfz9_0, hfz9_1, hfz9_2, hfz9_3, hfz9_4, hfz9_5, hfz9_6, hfz9_7, hfz9_8, hfz9_9⟩ := cz10 BK119.out
     go_wp2
     go_meet
     case rel => exact ⟨_, (decide (a0_3 ≤ 6)), sw, H', ⟨by have := HJ1.out; first | omega | exact Nat.le_refl _⟩, ⟨by (with_reducible repeat (first | refine YN ?_ _ | refine YD ?_ | refine YA ?_ _)); exact BK119.out⟩, ⟨by repeat (first | (with_reducible first | exact HB.out | apply XA | apply XN | apply XD | refine XS ?_ GE119.out) | exact HB.out)⟩⟩
    ·rw [if_neg c8] at H;have c8b0 : decide (0 ≤ a0_3) = false := dN c8;clear c8
     (first | rw [c8b0] | (simp only [i64_w, i32_w]; rw [c8b0]) | skip)
     have H' := As H;clear H;obtain ⟨hcz10_0, hcz10_1, hcz10_2, hcz10_3, hcz10_4, hcz10_5, hcz10_6, hcz10_7, hcz10_8, hcz10_9, hfz10_0, hfz10_1, hfz10_2, hfz10_3, hfz10_4, hfz10_5, hfz10_6, hfz10_7, hfz10_8, hfz10_9⟩ := cz10 BK119.out
     go_wp2
     go_meet
     case rel => exact ⟨_, (false), sw, H', ⟨by have := HJ1.out; first | omega | exact Nat.le_refl _⟩, ⟨by (with_reducible repeat (first | refine YN ?_ _ | refine YD ?_ | refine YA ?_ _)); exact BK119.out⟩, ⟨by repeat (first | (with_reducible first | exact HB.out | apply XA | apply XN | apply XD | refine XS ?_ GE119.out) | exact HB.out)⟩⟩
   case rest =>
    clear HC7
    try clear p2
    try clear c4
    try clear c4b0
    try clear p6
    try clear c8
    try clear c8b0
    try clear hcz10_0 hcz10_1 hcz10_2 hcz10_3 hcz10_4 hcz10_5 hcz10_6 hcz10_7 hcz10_8 hcz10_9
    try clear hcz5_0 hcz5_1 hcz5_2 hcz5_3 hcz5_4 hcz5_5 hcz5_6 hcz5_7 hcz5_8 hcz5_9
    try clear hcz6_0 hcz6_1 hcz6_2 hcz6_3 hcz6_4 hcz6_5 hcz6_6 hcz6_7 hcz6_8 hcz6_9
    try clear hcz9_0 hcz9_1 hcz9_2 hcz9_3 hcz9_4 hcz9_5 hcz9_6 hcz9_7 hcz9_8 hcz9_9
    try clear hfz10_0 hfz10_1 hfz10_2 hfz10_3 hfz10_4 hfz10_5 hfz10_6 hfz10_7 hfz10_8 hfz10_9
    try clear hfz5_0 hfz5_1 hfz5_2 hfz5_3 hfz5_4 hfz5_5 hfz5_6 hfz5_7 hfz5_8 hfz5_9
    try clear hfz6_0 hfz6_1 hfz6_2 hfz6_3 hfz6_4 hfz6_5 hfz6_6 hfz6_7 hfz6_8 hfz6_9
    try clear hfz9_0 hfz9_1 hfz9_2 hfz9_3 hfz9_4 hfz9_5 hfz9_6 hfz9_7 hfz9_8 hfz9_9
    try clear p2
    try clear p6
    obtain ⟨kq, x4_6, rfl, HA, HJ6, BK119, HB⟩ := hcut
    cases kq with
    | zero => exact absurd HA.out (by simp [r6_May.j1])
    | succ kj6 =>
     have H := HA.out;clear HA;simp only [r6_May.j1] at H;have HC11 := As H;clear H
     go_upto_region 3 with (fail)
     go_cut [5] (fun v5 wc => ∃ (kq : Nat) (x5_10 : Bool), v5 = .bool x5_10 ∧ Aside0 (r6_May.j2 kq x3_1 x4_6 x5_10 a0_0 a0_1 a0_2 a0_3 a0_4 a0_5 a0_6 a0_7 a0_8 a0_9 = some r) ∧ Aside0 (kq ≤ kj6) ∧ Aside0 (wc.heap[gb119]? = some (.cells #[.int .i64 a0_0, .int .i64 a0_1, .int .i64 a0_2, .int .i64 a0_3, .int .i64 a0_4, .int .i64 a0_5, .int .i64 a0_6, .int .i64 a0_7, .int .i64 a0_8, .int .i64 a0_9] 25 (0, 0))) ∧ Aside0 (Below w.heap.size w wc))
     case first =>
      have H := HC11.out;clear HC11
      by_cases c12 : (a0_4 == 0 && (a0_5 == 0 && (a0_6 == 0))) = true
      ·rw [if_pos c12] at H;have c12b0 : (a0_4 == 0 && (a0_5 == 0 && (a0_6 == 0))) = true := c12
       (try (have c12b1 : decide (a0_4 = 0 && (a0_5 == 0 && (a0_6 == 0))) = true := by simpa using c12))
       (try (have c12b2 : (a0_4 == 0 && (a0_5 == 0 && (a0_6 == 0))) = true := by simpa using c12))
       clear c12
       (first | rw [c12b0] | (simp only [i64_w, i32_w]; rw [c12b0]) | skip)
       have H' := As H;clear H;obtain ⟨hcz13_0, hcz13_1, hcz13_2, hcz13_3, hcz13_4, hcz13_5, hcz13_6, hcz13_7, hcz13_8, hcz13_9, hfz13_0, hfz13_1, hfz13_2, hfz13_3, hfz13_4, hfz13_5, hfz13_6, hfz13_7, hfz13_8, hfz13_9⟩ := cz10 BK119.out
       go_wp2
       go_meet
       case rel => exact ⟨_, ((a0_7 == 0 && (a0_8 == 0 && (a0_9 == 0)))), sw, H', ⟨by have := HJ1.out; have := HJ6.out; first | omega | exact Nat.le_refl _⟩, ⟨by (with_reducible repeat (first | refine YN ?_ _ | refine YD ?_ | refine YA ?_ _)); exact BK119.out⟩, ⟨by repeat (first | (with_reducible first | exact HB.out | apply XA | apply XN | apply XD | refine XS ?_ GE119.out) | exact HB.out)⟩⟩
      ·rw [if_neg c12] at H
       have c12b0 : (a0_4 == 0 && (a0_5 == 0 && (a0_6 == 0))) = false := by simpa using c12
       (try (have c12b1 : decide (a0_4 = 0 && (a0_5 == 0 && (a0_6 == 0))) = false := by simpa using c12))
       (try (have c12b2 : (a0_4 == 0 && (a0_5 == 0 && (a0_6 == 0))) = false := by simpa using c12))
       (try (have c12b3 : ¬ (a0_4 = 0 && (a0_5 == 0 && (a0_6 == 0))) := by simpa using c12))
       clear c12
       (first | rw [c12b0] | (simp only [i64_w, i32_w]; rw [c12b0]) | skip)
       have H' := As H;clear H;obtain ⟨hcz14_0, hcz14_1, hcz14_2, hcz14_3, hcz14_4, hcz14_5, hcz14_6, hcz14_7, hcz14_8, hcz14_9, hfz14_0, hfz14_1, hfz14_2, hfz14_3, hfz14_4, hfz14_5, hfz14_6, hfz14_7, hfz14_8, hfz14_9⟩ := cz10 BK119.out
       go_wp2
       go_meet
       case rel => exact ⟨_, (false), sw, H', ⟨by have := HJ1.out; have := HJ6.out; first | omega | exact Nat.le_refl _⟩, ⟨by (with_reducible repeat (first | refine YN ?_ _ | refine YD ?_ | refine YA ?_ _)); exact BK119.out⟩, ⟨by repeat (first | (with_reducible first | exact HB.out | apply XA | apply XN | apply XD | refine XS ?_ GE119.out) | exact HB.out)⟩⟩
     case rest =>
      clear HC11
      try clear c1
      try clear p2
      try clear c4
      try clear c4b0
      try clear p6
      try clear c8
      try clear c8b0
      try clear c12
      try clear c12b0
      try clear c12b1
      try clear c12b2
      try clear hcz10_0 hcz10_1 hcz10_2 hcz10_3 hcz10_4 hcz10_5 hcz10_6 hcz10_7 hcz10_8 hcz10_9
      try clear hcz13_0 hcz13_1 hcz13_2 hcz13_3 hcz13_4 hcz13_5 hcz13_6 hcz13_7 hcz13_8 hcz13_9
      try clear hcz14_0 hcz14_1 hcz14_2 hcz14_3 hcz14_4 hcz14_5 hcz14_6 hcz14_7 hcz14_8 hcz14_9
      try clear hcz5_0 hcz5_1 hcz5_2 hcz5_3 hcz5_4 hcz5_5 hcz5_6 hcz5_7 hcz5_8 hcz5_9
      try clear hcz6_0 hcz6_1 hcz6_2 hcz6_3 hcz6_4 hcz6_5 hcz6_6 hcz6_7 hcz6_8 hcz6_9
      try clear hcz9_0 hcz9_1 hcz9_2 hcz9_3 hcz9_4 hcz9_5 hcz9_6 hcz9_7 hcz9_8 hcz9_9
      try clear hfz10_0 hfz10_1 hfz10_2 hfz10_3 hfz10_4 hfz10_5 hfz10_6 hfz10_7 hfz10_8 hfz10_9
      try clear hfz13_0 hfz13_1 hfz13_2 hfz13_3 hfz13_4 hfz13_5 hfz13_6 hfz13_7 hfz13_8 hfz13_9
      try clear hfz14_0 hfz14_1 hfz14_2 hfz14_3 hfz14_4 hfz14_5 hfz14_6 hfz14_7 hfz14_8 hfz14_9
      try clear hfz5_0 hfz5_1 hfz5_2 hfz5_3 hfz5_4 hfz5_5 hfz5_6 hfz5_7 hfz5_8 hfz5_9
      try clear hfz6_0 hfz6_1 hfz6_2 hfz6_3 hfz6_4 hfz6_5 hfz6_6 hfz6_7 hfz6_8 hfz6_9
      try clear hfz9_0 hfz9_1 hfz9_2 hfz9_3 hfz9_4 hfz9_5 hfz9_6 hfz9_7 hfz9_8 hfz9_9
      try clear p2
      try clear p6
      obtain ⟨kq, x5_10, rfl, HA, HJ10, BK119, HB⟩ := hcut
      cases kq with
      | zero => exact absurd HA.out (by simp [r6_May.j2])
      | succ kj10 =>
       have H := HA.out;clear HA;simp only [r6_May.j2] at H
       by_cases c15 : a0_0 = 0
       focus
        rw [if_pos c15] at H;have c15b0 : (a0_0 == 0) = true := beq_iff_eq.mpr c15;have c15b1 : (a0_0 != 0) = false := bne_eq_false_iff_eq.mpr c15;clear c15
        by_cases c16 : x4_6 = true
        focus
         subst c16
         have H1 : (if x5_10 = true then (if a0_1 = 0 then (some (a0_2 == 0)) else (some false)) else (some false)) = some r := by rw [if_pos rfl] at H; exact H
         clear H;have H := H1;clear H1
         by_cases c17 : x5_10 = true
         focus
          subst c17
          have H1 : (if a0_1 = 0 then (some (a0_2 == 0)) else (some false)) = some r := by rw [if_pos rfl] at H; exact H
          clear H;have H := H1;clear H1
          by_cases c18 : a0_1 = 0
          rw [if_pos c18] at H;have c18b0 : (a0_1 == 0) = true := beq_iff_eq.mpr c18;have c18b1 : (a0_1 != 0) = false := bne_eq_false_iff_eq.mpr c18;clear c18;obtain rfl := Option.some.inj H;obtain ⟨hcz19_0, hcz19_1, hcz19_2, hcz19_3, hcz19_4, hcz19_5, hcz19_6, hcz19_7, hcz19_8, hcz19_9, hfz19_0, hfz19_1, hfz19_2, hfz19_3, hfz19_4, hfz19_5, hfz19_6, hfz19_7, hfz19_8, hfz19_9⟩ := cz10 BK119.out
          have m21_ := trivial
          rotate_left
          rw [if_neg c18] at H;have c18b0 : (a0_1 == 0) = false := beq_eq_false_iff_ne.mpr c18;have c18b1 : (a0_1 != 0) = true := bne_iff_ne.mpr c18;obtain rfl := Option.some.inj H;obtain ⟨hcz20_0, hcz20_1, hcz20_2, hcz20_3, hcz20_4, hcz20_5, hcz20_6, hcz20_7, hcz20_8, hcz20_9, hfz20_0, hfz20_1, hfz20_2, hfz20_3, hfz20_4, hfz20_5, hfz20_6, hfz20_7, hfz20_8, hfz20_9⟩ := cz10 BK119.out
          have m20_ := trivial
         rotate_left 2
         replace c17 := Bool.eq_false_iff.mpr c17;subst c17
         have H1 : (some false) = some r := by rw [if_neg (show ¬ (false = true) by decide)] at H; exact H
         clear H;have H := H1;clear H1;obtain rfl := Option.some.inj H;obtain ⟨hcz21_0, hcz21_1, hcz21_2, hcz21_3, hcz21_4, hcz21_5, hcz21_6, hcz21_7, hcz21_8, hcz21_9, hfz21_0, hfz21_1, hfz21_2, hfz21_3, hfz21_4, hfz21_5, hfz21_6, hfz21_7, hfz21_8, hfz21_9⟩ := cz10 BK119.out
         have m19_ := trivial
        rotate_left 3
        replace c16 := Bool.eq_false_iff.mpr c16;subst c16
        have H1 : (some false) = some r := by rw [if_neg (show ¬ (false = true) by decide)] at H; exact H
        clear H;have H := H1;clear H1;obtain rfl := Option.some.inj H;obtain ⟨hcz22_0, hcz22_1, hcz22_2, hcz22_3, hcz22_4, hcz22_5, hcz22_6, hcz22_7, hcz22_8, hcz22_9, hfz22_0, hfz22_1, hfz22_2, hfz22_3, hfz22_4, hfz22_5, hfz22_6, hfz22_7, hfz22_8, hfz22_9⟩ := cz10 BK119.out
        have m18_ := trivial
       rotate_left 4
       focus
        rw [if_neg c15] at H;have c15b0 : (a0_0 == 0) = false := beq_eq_false_iff_ne.mpr c15;have c15b1 : (a0_0 != 0) = true := bne_iff_ne.mpr c15
        by_cases c23 : a0_0 = 1
        focus
         rw [if_pos c23] at H;have c23b0 : (a0_0 == 1) = true := beq_iff_eq.mpr c23;have c23b1 : (a0_0 != 1) = false := bne_eq_false_iff_eq.mpr c23;clear c23
         by_cases c24 : x3_1 = true
         focus
          subst c24
          have H1 : ((r6_near.f a0_2 31).bind fun t120 => (if t120 = true then (if x5_10 = true then (some (a0_3 == 0)) else (some false)) else (some false))) = some r := by rw [if_pos rfl] at H; exact H
          clear H;have H := H1;clear H1;replace H := bE H;obtain ⟨t120, A250, H⟩ := H;replace H : (if t120 = true then (if x5_10 = true then (some (a0_3 == 0)) else (some false)) else (some false)) = some r := H;have A25 := As A250;clear A250
          by_cases c26 : t120 = true
          focus
           subst c26
           have H1 : (if x5_10 = true then (some (a0_3 == 0)) else (some false)) = some r := by rw [if_pos rfl] at H; exact H
           clear H;have H := H1;clear H1
           by_cases c27 : x5_10 = true
           subst c27
           have H1 : (some (a0_3 == 0)) = some r := by rw [if_pos rfl] at H; exact H
           clear H;have H := H1;clear H1;obtain rfl := Option.some.inj H;obtain ⟨hcz28_0, hcz28_1, hcz28_2, hcz28_3, hcz28_4, hcz28_5, hcz28_6, hcz28_7, hcz28_8, hcz28_9, hfz28_0, hfz28_1, hfz28_2, hfz28_3, hfz28_4, hfz28_5, hfz28_6, hfz28_7, hfz28_8, hfz28_9⟩ := cz10 BK119.out
           have m3_ := trivial
           rotate_left
           replace c27 := Bool.eq_false_iff.mpr c27;subst c27
           have H1 : (some false) = some r := by rw [if_neg (show ¬ (false = true) by decide)] at H; exact H
           clear H;have H := H1;clear H1;obtain rfl := Option.some.inj H;obtain ⟨hcz29_0, hcz29_1, hcz29_2, hcz29_3, hcz29_4, hcz29_5, hcz29_6, hcz29_7, hcz29_8, hcz29_9, hfz29_0, hfz29_1, hfz29_2, hfz29_3, hfz29_4, hfz29_5, hfz29_6, hfz29_7, hfz29_8, hfz29_9⟩ := cz10 BK119.out
           have m2_ := trivial
          rotate_left 2
          replace c26 := Bool.eq_false_iff.mpr c26;subst c26
          have H1 : (some false) = some r := by rw [if_neg (show ¬ (false = true) by decide)] at H; exact H
          clear H;have H := H1;clear H1;obtain rfl := Option.some.inj H;obtain ⟨hcz30_0, hcz30_1, hcz30_2, hcz30_3, hcz30_4, hcz30_5, hcz30_6, hcz30_7, hcz30_8, hcz30_9, hfz30_0, hfz30_1, hfz30_2, hfz30_3, hfz30_4, hfz30_5, hfz30_6, hfz30_7, hfz30_8, hfz30_9⟩ := cz10 BK119.out
          have m1_ := trivial
         rotate_left 3
         replace c24 := Bool.eq_false_iff.mpr c24;subst c24
         have H1 : (some false) = some r := by rw [if_neg (show ¬ (false = true) by decide)] at H; exact H
         clear H;have H := H1;clear H1;obtain rfl := Option.some.inj H;obtain ⟨hcz31_0, hcz31_1, hcz31_2, hcz31_3, hcz31_4, hcz31_5, hcz31_6, hcz31_7, hcz31_8, hcz31_9, hfz31_0, hfz31_1, hfz31_2, hfz31_3, hfz31_4, hfz31_5, hfz31_6, hfz31_7, hfz31_8, hfz31_9⟩ := cz10 BK119.out
         have m17_ := trivial
        rotate_left 4
        focus
         rw [if_neg c23] at H;have c23b0 : (a0_0 == 1) = false := beq_eq_false_iff_ne.mpr c23;have c23b1 : (a0_0 != 1) = true := bne_iff_ne.mpr c23
         by_cases c32 : a0_0 = 2
         focus
          rw [if_pos c32] at H;have c32b0 : (a0_0 == 2) = true := beq_iff_eq.mpr c32;have c32b1 : (a0_0 != 2) = false := bne_eq_false_iff_eq.mpr c32;clear c32
          by_cases c33 : x3_1 = true
          focus
           subst c33
           have H1 : ((r6_near.f a0_2 5).bind fun t121 => (if t121 = true then (if x4_6 = true then (some x5_10) else (some false)) else (some false))) = some r := by rw [if_pos rfl] at H; exact H
           clear H;have H := H1;clear H1;replace H := bE H;obtain ⟨t121, A340, H⟩ := H;replace H : (if t121 = true then (if x4_6 = true then (some x5_10) else (some false)) else (some false)) = some r := H;have A34 := As A340;clear A340
           by_cases c35 : t121 = true
           focus
            subst c35
            have H1 : (if x4_6 = true then (some x5_10) else (some false)) = some r := by rw [if_pos rfl] at H; exact H
            clear H;have H := H1;clear H1
            by_cases c36 : x4_6 = true
            subst c36
            have H1 : (some x5_10) = some r := by rw [if_pos rfl] at H; exact H
            clear H;have H := H1;clear H1;obtain rfl := Option.some.inj H;obtain ⟨hcz37_0, hcz37_1, hcz37_2, hcz37_3, hcz37_4, hcz37_5, hcz37_6, hcz37_7, hcz37_8, hcz37_9, hfz37_0, hfz37_1, hfz37_2, hfz37_3, hfz37_4, hfz37_5, hfz37_6, hfz37_7, hfz37_8, hfz37_9⟩ := cz10 BK119.out
            have m6_ := trivial
            rotate_left
            replace c36 := Bool.eq_false_iff.mpr c36;subst c36
            have H1 : (some false) = some r := by rw [if_neg (show ¬ (false = true) by decide)] at H; exact H
            clear H;have H := H1;clear H1;obtain rfl := Option.some.inj H;obtain ⟨hcz38_0, hcz38_1, hcz38_2, hcz38_3, hcz38_4, hcz38_5, hcz38_6, hcz38_7, hcz38_8, hcz38_9, hfz38_0, hfz38_1, hfz38_2, hfz38_3, hfz38_4, hfz38_5, hfz38_6, hfz38_7, hfz38_8, hfz38_9⟩ := cz10 BK119.out
            have m5_ := trivial
           rotate_left 2
           replace c35 := Bool.eq_false_iff.mpr c35;subst c35
           have H1 : (some false) = some r := by rw [if_neg (show ¬ (false = true) by decide)] at H; exact H
           clear H;have H := H1;clear H1;obtain rfl := Option.some.inj H;obtain ⟨hcz39_0, hcz39_1, hcz39_2, hcz39_3, hcz39_4, hcz39_5, hcz39_6, hcz39_7, hcz39_8, hcz39_9, hfz39_0, hfz39_1, hfz39_2, hfz39_3, hfz39_4, hfz39_5, hfz39_6, hfz39_7, hfz39_8, hfz39_9⟩ := cz10 BK119.out
           have m4_ := trivial
          rotate_left 3
          replace c33 := Bool.eq_false_iff.mpr c33;subst c33
          have H1 : (some false) = some r := by rw [if_neg (show ¬ (false = true) by decide)] at H; exact H
          clear H;have H := H1;clear H1;obtain rfl := Option.some.inj H;obtain ⟨hcz40_0, hcz40_1, hcz40_2, hcz40_3, hcz40_4, hcz40_5, hcz40_6, hcz40_7, hcz40_8, hcz40_9, hfz40_0, hfz40_1, hfz40_2, hfz40_3, hfz40_4, hfz40_5, hfz40_6, hfz40_7, hfz40_8, hfz40_9⟩ := cz10 BK119.out
          have m16_ := trivial
         rotate_left 4
         focus
          rw [if_neg c32] at H;have c32b0 : (a0_0 == 2) = false := beq_eq_false_iff_ne.mpr c32;have c32b1 : (a0_0 != 2) = true := bne_iff_ne.mpr c32
          by_cases c41 : a0_0 = 3
          focus
           rw [if_pos c41] at H;have c41b0 : (a0_0 == 3) = true := beq_iff_eq.mpr c41;have c41b1 : (a0_0 != 3) = false := bne_eq_false_iff_eq.mpr c41;clear c41
           by_cases c42 : a0_1 = 0
           focus
            rw [if_pos c42] at H;have c42b0 : (a0_1 == 0) = true := beq_iff_eq.mpr c42;have c42b1 : (a0_1 != 0) = false := bne_eq_false_iff_eq.mpr c42;clear c42
            by_cases c43 : a0_2 = 0
            focus
             rw [if_pos c43] at H;have c43b0 : (a0_2 == 0) = true := beq_iff_eq.mpr c43;have c43b1 : (a0_2 != 0) = false := bne_eq_false_iff_eq.mpr c43;clear c43
             by_cases c44 : a0_3 = 0
             focus
              rw [if_pos c44] at H;have c44b0 : (a0_3 == 0) = true := beq_iff_eq.mpr c44;have c44b1 : (a0_3 != 0) = false := bne_eq_false_iff_eq.mpr c44;clear c44;replace H := bE H;obtain ⟨t122, A450, H⟩ := H;replace H : (if t122 = true then ((r4_May.f a0_7 a0_8 a0_9).bind fun t123 => (if t123 = true then (if a0_4 ≥ 0 then (if a0_7 ≤ 9999 then ((r4_Days.f kj10 a0_4 a0_5 a0_6).bind fun t124 => ((r4_Days.f kj10 a0_7 a0_8 a0_9).bind fun t125 => (some (decide (t124 ≤ t125))))) else (some false)) else (some false)) else (some false))) else (some false)) = some r := H;have A45 := As A450;clear A450
              by_cases c46 : t122 = true
              focus
               subst c46
               have H1 : ((r4_May.f a0_7 a0_8 a0_9).bind fun t123 => (if t123 = true then (if a0_4 ≥ 0 then (if a0_7 ≤ 9999 then ((r4_Days.f kj10 a0_4 a0_5 a0_6).bind fun t124 => ((r4_Days.f kj10 a0_7 a0_8 a0_9).bind fun t125 => (some (decide (t124 ≤ t125))))) else (some false)) else (some false)) else (some false))) = some r := by rw [if_pos rfl] at H; exact H
               clear H;have H := H1;clear H1;replace H := bE H;obtain ⟨t123, A470, H⟩ := H;replace H : (if t123 = true then (if a0_4 ≥ 0 then (if a0_7 ≤ 9999 then ((r4_Days.f kj10 a0_4 a0_5 a0_6).bind fun t124 => ((r4_Days.f kj10 a0_7 a0_8 a0_9).bind fun t125 => (some (decide (t124 ≤ t125))))) else (some false)) else (some false)) else (some false)) = some r := H;have A47 := As A470;clear A470
               by_cases c48 : t123 = true
               focus
                subst c48
                have H1 : (if a0_4 ≥ 0 then (if a0_7 ≤ 9999 then ((r4_Days.f kj10 a0_4 a0_5 a0_6).bind fun t124 => ((r4_Days.f kj10 a0_7 a0_8 a0_9).bind fun t125 => (some (decide (t124 ≤ t125))))) else (some false)) else (some false)) = some r := by rw [if_pos rfl] at H; exact H
                clear H;have H := H1;clear H1
                by_cases c49 : a0_4 ≥ 0
                focus
                 rw [if_pos c49] at H;have c49b0 : decide (0 ≤ a0_4) = true := dY c49;clear c49
                 by_cases c50 : a0_7 ≤ 9999
                 rw [if_pos c50] at H;have c50b0 : decide (a0_7 ≤ 9999) = true := dY c50;clear c50;replace H := bE H;obtain ⟨t124, A510, H⟩ := H;replace H : ((r4_Days.f kj10 a0_7 a0_8 a0_9).bind fun t125 => (some (decide (t124 ≤ t125)))) = some r := H;have A51 := As A510;clear A510;replace H := bE H;obtain ⟨t125, A520, H⟩ := H;replace H : (some (decide (t124 ≤ t125))) = some r := H;have A52 := As A520;clear A520;obtain rfl := Option.some.inj H;obtain ⟨hcz53_0, hcz53_1, hcz53_2, hcz53_3, hcz53_4, hcz53_5, hcz53_6, hcz53_7, hcz53_8, hcz53_9, hfz53_0, hfz53_1, hfz53_2, hfz53_3, hfz53_4, hfz53_5, hfz53_6, hfz53_7, hfz53_8, hfz53_9⟩ := cz10 BK119.out
                 have m14_ := trivial
                 rotate_left
                 rw [if_neg c50] at H;have c50b0 : decide (a0_7 ≤ 9999) = false := dN c50;clear c50;obtain rfl := Option.some.inj H;obtain ⟨hcz59_0, hcz59_1, hcz59_2, hcz59_3, hcz59_4, hcz59_5, hcz59_6, hcz59_7, hcz59_8, hcz59_9, hfz59_0, hfz59_1, hfz59_2, hfz59_3, hfz59_4, hfz59_5, hfz59_6, hfz59_7, hfz59_8, hfz59_9⟩ := cz10 BK119.out
                 have m13_ := trivial
                rotate_left 2
                rw [if_neg c49] at H;have c49b0 : decide (0 ≤ a0_4) = false := dN c49;clear c49;obtain rfl := Option.some.inj H;obtain ⟨hcz63_0, hcz63_1, hcz63_2, hcz63_3, hcz63_4, hcz63_5, hcz63_6, hcz63_7, hcz63_8, hcz63_9, hfz63_0, hfz63_1, hfz63_2, hfz63_3, hfz63_4, hfz63_5, hfz63_6, hfz63_7, hfz63_8, hfz63_9⟩ := cz10 BK119.out
                have m12_ := trivial
               rotate_left 3
               replace c48 := Bool.eq_false_iff.mpr c48;subst c48
               have H1 : (some false) = some r := by rw [if_neg (show ¬ (false = true) by decide)] at H; exact H
               clear H;have H := H1;clear H1;obtain rfl := Option.some.inj H;obtain ⟨hcz67_0, hcz67_1, hcz67_2, hcz67_3, hcz67_4, hcz67_5, hcz67_6, hcz67_7, hcz67_8, hcz67_9, hfz67_0, hfz67_1, hfz67_2, hfz67_3, hfz67_4, hfz67_5, hfz67_6, hfz67_7, hfz67_8, hfz67_9⟩ := cz10 BK119.out
               have m11_ := trivial
              rotate_left 4
              replace c46 := Bool.eq_false_iff.mpr c46;subst c46
              have H1 : (some false) = some r := by rw [if_neg (show ¬ (false = true) by decide)] at H; exact H
              clear H;have H := H1;clear H1;obtain rfl := Option.some.inj H;obtain ⟨hcz71_0, hcz71_1, hcz71_2, hcz71_3, hcz71_4, hcz71_5, hcz71_6, hcz71_7, hcz71_8, hcz71_9, hfz71_0, hfz71_1, hfz71_2, hfz71_3, hfz71_4, hfz71_5, hfz71_6, hfz71_7, hfz71_8, hfz71_9⟩ := cz10 BK119.out
              have m10_ := trivial
             rotate_left 5
             rw [if_neg c44] at H;have c44b0 : (a0_3 == 0) = false := beq_eq_false_iff_ne.mpr c44;have c44b1 : (a0_3 != 0) = true := bne_iff_ne.mpr c44;obtain rfl := Option.some.inj H;obtain ⟨hcz74_0, hcz74_1, hcz74_2, hcz74_3, hcz74_4, hcz74_5, hcz74_6, hcz74_7, hcz74_8, hcz74_9, hfz74_0, hfz74_1, hfz74_2, hfz74_3, hfz74_4, hfz74_5, hfz74_6, hfz74_7, hfz74_8, hfz74_9⟩ := cz10 BK119.out
             have m9_ := trivial
            rotate_left 6
            rw [if_neg c43] at H;have c43b0 : (a0_2 == 0) = false := beq_eq_false_iff_ne.mpr c43;have c43b1 : (a0_2 != 0) = true := bne_iff_ne.mpr c43;obtain rfl := Option.some.inj H;obtain ⟨hcz76_0, hcz76_1, hcz76_2, hcz76_3, hcz76_4, hcz76_5, hcz76_6, hcz76_7, hcz76_8, hcz76_9, hfz76_0, hfz76_1, hfz76_2, hfz76_3, hfz76_4, hfz76_5, hfz76_6, hfz76_7, hfz76_8, hfz76_9⟩ := cz10 BK119.out
            have m8_ := trivial
           rotate_left 7
           rw [if_neg c42] at H;have c42b0 : (a0_1 == 0) = false := beq_eq_false_iff_ne.mpr c42;have c42b1 : (a0_1 != 0) = true := bne_iff_ne.mpr c42;obtain rfl := Option.some.inj H;obtain ⟨hcz78_0, hcz78_1, hcz78_2, hcz78_3, hcz78_4, hcz78_5, hcz78_6, hcz78_7, hcz78_8, hcz78_9, hfz78_0, hfz78_1, hfz78_2, hfz78_3, hfz78_4, hfz78_5, hfz78_6, hfz78_7, hfz78_8, hfz78_9⟩ := cz10 BK119.out
           have m7_ := trivial
          rotate_left 8
          rw [if_neg c41] at H;have c41b0 : (a0_0 == 3) = false := beq_eq_false_iff_ne.mpr c41;have c41b1 : (a0_0 != 3) = true := bne_iff_ne.mpr c41;obtain rfl := Option.some.inj H;obtain ⟨hcz80_0, hcz80_1, hcz80_2, hcz80_3, hcz80_4, hcz80_5, hcz80_6, hcz80_7, hcz80_8, hcz80_9, hfz80_0, hfz80_1, hfz80_2, hfz80_3, hfz80_4, hfz80_5, hfz80_6, hfz80_7, hfz80_8, hfz80_9⟩ := cz10 BK119.out
          have m15_ := trivial
       all_goals try
        first | (clear m1_; have m1_ := trivial) | (clear m2_; have m2_ := trivial) | (clear m3_; have m3_ := trivial)
        go_wp2_with (first | (go_at_call 22; (with_reducible refine (r6_near.calls a0_2 31 _ _ A25.out).mono ?_); rintro e w' ⟨rfl, ⟨nd, rfl⟩⟩))
        go_ret
        exact ⟨by first | rfl | (simp [errW_none, errW_some] <;> rfl) | (simp [*, errW_none, errW_some] <;> rfl), by repeat (first | (with_reducible first | exact HB.out | apply XA | apply XN | apply XD | refine XS ?_ GE119.out) | exact HB.out)⟩
       all_goals try
        first | (clear m4_; have m4_ := trivial) | (clear m5_; have m5_ := trivial) | (clear m6_; have m6_ := trivial)
        go_wp2_with (first | (go_at_call 22; (with_reducible refine (r6_near.calls a0_2 5 _ _ A34.out).mono ?_); rintro e w' ⟨rfl, ⟨nd, rfl⟩⟩))
        go_ret
        exact ⟨by first | rfl | (simp [errW_none, errW_some] <;> rfl) | (simp [*, errW_none, errW_some] <;> rfl), by repeat (first | (with_reducible first | exact HB.out | apply XA | apply XN | apply XD | refine XS ?_ GE119.out) | exact HB.out)⟩
       all_goals try
        first | (clear m7_; have m7_ := trivial) | (clear m8_; have m8_ := trivial) | (clear m9_; have m9_ := trivial) | (clear m10_; have m10_ := trivial) | (clear m11_; have m11_ := trivial) | (clear m12_; have m12_ := trivial) | (clear m13_; have m13_ := trivial) | (clear m14_; have m14_ := trivial)
        try go_wp2
       all_goals try
        first | (clear m10_; have m10_ := trivial) | (clear m11_; have m11_ := trivial) | (clear m12_; have m12_ := trivial) | (clear m13_; have m13_ := trivial) | (clear m14_; have m14_ := trivial)
        replace BK119 := As (YD BK119.out);replace HB := As (XD HB.out);refine start_ (n := 45) (S := fun w' => w'.cell? ⟨gb119, 0, none⟩ = some (.int .i64 a0_0) ∧ w'.cell? ⟨gb119, 1, none⟩ = some (.int .i64 a0_1) ∧ w'.cell? ⟨gb119, 2, none⟩ = some (.int .i64 a0_2) ∧ w'.cell? ⟨gb119, 3, none⟩ = some (.int .i64 a0_3) ∧ w'.cell? ⟨gb119, 4, none⟩ = some (.int .i64 a0_4) ∧ w'.cell? ⟨gb119, 5, none⟩ = some (.int .i64 a0_5) ∧ w'.cell? ⟨gb119, 6, none⟩ = some (.int .i64 a0_6) ∧ w'.cell? ⟨gb119, 7, none⟩ = some (.int .i64 a0_7) ∧ w'.cell? ⟨gb119, 8, none⟩ = some (.int .i64 a0_8) ∧ w'.cell? ⟨gb119, 9, none⟩ = some (.int .i64 a0_9)) (ds := []) (fl 0 45) kr rfl rfl (cy10 BK119.out) (fun hHeld => ?_); refine with_tabW r6_May.tab12 r6_May.bits12 (fun HT_ HW_ => ?_);generalize wc.drew = w72 at BK119 HB hHeld ⊢;refine pure_ (i := 0) (N := some 82) (v := ?_) (a' := ?_) (fl 1 44) rfl rfl (any_of HT_.out kr) (fun _ _ _ h => h) (Or.inl ⟨by rfl, ?_⟩) ?_ ?_;rotate_left;(intro w';go_simp;with_reducible rfl);rotate_left;(simp only [Act.put,z0,z1,z2,i64_w,i32_w];rfl);refine take_ (i := 1) (N := some 83) (v := ?_) (a' := ?_) (fl 2 43) rfl rfl (take_ofW HT_.out HW_.out kr) (fun _ _ _ h => h) (Or.inl ⟨by rfl, ?_⟩) hHeld ?_ ?_;rotate_left;(rintro w' ⟨s0, s1, s2, s3, s4, s5, s6, s7, s8, s9⟩;go_simp;with_reducible rfl);rotate_left;(simp only [Act.put,z0,z1,z2,i64_w,i32_w];rfl);refine pure_ (i := 2) (N := some 84) (v := ?_) (a' := ?_) (fl 3 42) rfl rfl (any_of HT_.out kr) (fun _ _ _ h => h) (Or.inl ⟨by rfl, ?_⟩) ?_ ?_;rotate_left;(intro w';go_simp;with_reducible rfl);rotate_left;(simp only [Act.put,z0,z1,z2,i64_w,i32_w];rfl);refine pure_ (i := 3) (N := some 85) (v := ?_) (a' := ?_) (fl 4 41) rfl rfl (any_of HT_.out kr) (fun _ _ _ h => h) (Or.inl ⟨by rfl, ?_⟩) ?_ ?_;rotate_left;(intro w';go_simp;with_reducible rfl);rotate_left;(simp only [Act.put,z0,z1,z2,i64_w,i32_w];rfl);refine pure_ (i := 4) (N := some 86) (v := ?_) (a' := ?_) (fl 5 40) rfl rfl (any_of HT_.out kr) (fun _ _ _ h => h) (Or.inl ⟨by rfl, ?_⟩) ?_ ?_;rotate_left;(intro w';go_simp;with_reducible rfl);rotate_left;(simp only [Act.put,z0,z1,z2,i64_w,i32_w];rfl);refine take_ (i := 5) (N := some 87) (v := ?_) (a' := ?_) (fl 6 39) rfl rfl (take_ofW HT_.out HW_.out kr) (fun _ _ _ h => h) (Or.inl ⟨by rfl, ?_⟩) hHeld ?_ ?_;rotate_left;(rintro w' ⟨s0, s1, s2, s3, s4, s5, s6, s7, s8, s9⟩;go_simp;with_reducible rfl);rotate_left;(simp only [Act.put,z0,z1,z2,i64_w,i32_w];rfl);refine pure_ (i := 6) (N := some 88) (v := ?_) (a' := ?_) (fl 7 38) rfl rfl (any_of HT_.out kr) (fun _ _ _ h => h) (Or.inl ⟨by rfl, ?_⟩) ?_ ?_;rotate_left;(intro w';go_simp;with_reducible rfl);rotate_left;(simp only [Act.put,z0,z1,z2,i64_w,i32_w];rfl);refine pure_ (i := 7) (N := some 89) (v := ?_) (a' := ?_) (fl 8 37) rfl rfl (any_of HT_.out kr) (fun _ _ _ h => h) (Or.inl ⟨by rfl, ?_⟩) ?_ ?_;rotate_left;(intro w';go_simp;with_reducible rfl);rotate_left;(simp only [Act.put,z0,z1,z2,i64_w,i32_w];rfl);refine pure_ (i := 8) (N := some 90) (v := ?_) (a' := ?_) (fl 9 36) rfl rfl (any_of HT_.out kr) (fun _ _ _ h => h) (Or.inl ⟨by rfl, ?_⟩) ?_ ?_;rotate_left;(intro w';go_simp;with_reducible rfl);rotate_left;(simp only [Act.put,z0,z1,z2,i64_w,i32_w];rfl);refine pure_ (i := 9) (N := some 91) (v := ?_) (a' := ?_) (fl 10 35) rfl rfl (any_of HT_.out kr) (fun _ _ _ h => h) (Or.inl ⟨by rfl, ?_⟩) ?_ ?_;rotate_left;(intro w';go_simp;with_reducible rfl);rotate_left;(simp only [Act.put,z0,z1,z2,i64_w,i32_w];rfl);refine take_ (i := 10) (N := some 92) (v := ?_) (a' := ?_) (fl 11 34) rfl rfl (take_ofW HT_.out HW_.out kr) (fun _ _ _ h => h) (Or.inl ⟨by rfl, ?_⟩) hHeld ?_ ?_;rotate_left;(rintro w' ⟨s0, s1, s2, s3, s4, s5, s6, s7, s8, s9⟩;go_simp;with_reducible rfl);rotate_left;(simp only [Act.put,z0,z1,z2,i64_w,i32_w];rfl);refine pure_ (i := 11) (N := some 93) (v := ?_) (a' := ?_) (fl 12 33) rfl rfl (any_of HT_.out kr) (fun _ _ _ h => h) (Or.inl ⟨by rfl, ?_⟩) ?_ ?_;rotate_left;(intro w';go_simp;with_reducible rfl);rotate_left;(simp only [Act.put,z0,z1,z2,i64_w,i32_w];rfl);refine pure_ (i := 12) (N := some 94) (v := ?_) (a' := ?_) (fl 13 32) rfl rfl (any_of HT_.out kr) (fun _ _ _ h => h) (Or.inl ⟨by rfl, ?_⟩) ?_ ?_;rotate_left;(intro w';go_simp;with_reducible rfl);rotate_left;(simp only [Act.put,z0,z1,z2,i64_w,i32_w];rfl);refine pure_ (i := 13) (N := some 95) (v := ?_) (a' := ?_) (fl 14 31) rfl rfl (any_of HT_.out kr) (fun _ _ _ h => h) (Or.inl ⟨by rfl, ?_⟩) ?_ ?_;rotate_left;(intro w';go_simp;with_reducible rfl);rotate_left;(simp only [Act.put,z0,z1,z2,i64_w,i32_w];rfl);refine pure_ (i := 14) (N := some 96) (v := ?_) (a' := ?_) (fl 15 30) rfl rfl (any_of HT_.out kr) (fun _ _ _ h => h) (Or.inl ⟨by rfl, ?_⟩) ?_ ?_;rotate_left;(intro w';go_simp;with_reducible rfl);rotate_left;(simp only [Act.put,z0,z1,z2,i64_w,i32_w];rfl);refine take_ (i := 15) (N := some 97) (v := ?_) (a' := ?_) (fl 16 29) rfl rfl (take_ofW HT_.out HW_.out kr) (fun _ _ _ h => h) (Or.inl ⟨by rfl, ?_⟩) hHeld ?_ ?_;rotate_left;(rintro w' ⟨s0, s1, s2, s3, s4, s5, s6, s7, s8, s9⟩;go_simp;with_reducible rfl);rotate_left;(simp only [Act.put,z0,z1,z2,i64_w,i32_w];rfl);refine one_ (i := 16) (N := some 98) (fl 17 28) rfl rfl (one_of HT_.out kr) (by decide) (fun K hK => ?_);refine goes_ Tryz.func23 kr rfl #[.agg #[.int .i64 a0_4, .int .i64 a0_5, .int .i64 a0_6]] (by rfl) rfl rfl sa ?_
        with_reducible refine (r4_May.calls a0_4 a0_5 a0_6 _ _ A45.out).mono ?_
        rintro e w73 ⟨rfl, hb⟩;refine ⟨_, rfl, ?_⟩;replace BK119 := As (YB (g := gb119) (o := .cells #[.int .i64 a0_0, .int .i64 a0_1, .int .i64 a0_2, .int .i64 a0_3, .int .i64 a0_4, .int .i64 a0_5, .int .i64 a0_6, .int .i64 a0_7, .int .i64 a0_8, .int .i64 a0_9] 25 (0, 0)) (bk BK119.out) hb);replace HB := As (XT (be HB.out) hb)
        (try clear hb)
        (try clear hb2)
        (try clear hk)
        (try clear hi)
        refine hK.out _ _ (cy10 BK119.out) (fun hHeld => ?_);clear hK K;refine norm_ (a' := ?_) ?_ ?_;rotate_left
        ·show Act.put _ (some 98) _ = _
         simp only [Act.put, z0,z1,z2,i64_w,i32_w];rfl
       all_goals try
        first | (clear m11_; have m11_ := trivial) | (clear m12_; have m12_ := trivial) | (clear m13_; have m13_ := trivial) | (clear m14_; have m14_ := trivial)
        refine pure_ (i := 17) (N := some 99) (v := ?_) (a' := ?_) (fl 18 27) rfl rfl (any_of HT_.out kr) (fun _ _ _ h => h) (Or.inl ⟨by rfl, ?_⟩) ?_ ?_;rotate_left;(intro w';go_simp;with_reducible rfl);rotate_left;(simp only [Act.put,z0,z1,z2,i64_w,i32_w];rfl);refine pure_ (i := 18) (N := some 100) (v := ?_) (a' := ?_) (fl 19 26) rfl rfl (any_of HT_.out kr) (fun _ _ _ h => h) (Or.inl ⟨by rfl, ?_⟩) ?_ ?_;rotate_left;(intro w';go_simp;with_reducible rfl);rotate_left;(simp only [Act.put,z0,z1,z2,i64_w,i32_w];rfl);refine pure_ (i := 19) (N := some 101) (v := ?_) (a' := ?_) (fl 20 25) rfl rfl (any_of HT_.out kr) (fun _ _ _ h => h) (Or.inl ⟨by rfl, ?_⟩) ?_ ?_;rotate_left;(intro w';go_simp;with_reducible rfl);rotate_left;(simp only [Act.put,z0,z1,z2,i64_w,i32_w];rfl);refine take_ (i := 20) (N := some 102) (v := ?_) (a' := ?_) (fl 21 24) rfl rfl (take_ofW HT_.out HW_.out kr) (fun _ _ _ h => h) (Or.inl ⟨by rfl, ?_⟩) hHeld ?_ ?_;rotate_left;(rintro w' ⟨s0, s1, s2, s3, s4, s5, s6, s7, s8, s9⟩;go_simp;with_reducible rfl);rotate_left;(simp only [Act.put,z0,z1,z2,i64_w,i32_w];rfl);refine one_ (i := 21) (N := some 103) (fl 22 23) rfl rfl (one_of HT_.out kr) (by decide) (fun K hK => ?_);refine goes_ Tryz.func23 kr rfl #[.agg #[.int .i64 a0_7, .int .i64 a0_8, .int .i64 a0_9]] (by rfl) rfl rfl sa ?_
        with_reducible refine (r4_May.calls a0_7 a0_8 a0_9 _ _ A47.out).mono ?_
        rintro e w70 ⟨rfl, hb⟩;refine ⟨_, rfl, ?_⟩;replace BK119 := As (YB (g := gb119) (o := .cells #[.int .i64 a0_0, .int .i64 a0_1, .int .i64 a0_2, .int .i64 a0_3, .int .i64 a0_4, .int .i64 a0_5, .int .i64 a0_6, .int .i64 a0_7, .int .i64 a0_8, .int .i64 a0_9] 25 (0, 0)) (bk BK119.out) hb);replace HB := As (XT (be HB.out) hb)
        (try clear hb)
        (try clear hb2)
        (try clear hk)
        (try clear hi)
        refine hK.out _ _ (cy10 BK119.out) (fun hHeld => ?_);clear hK K;refine norm_ (a' := ?_) ?_ ?_;rotate_left
        ·show Act.put _ (some 103) _ = _
         simp only [Act.put, z0,z1,z2,i64_w,i32_w];rfl
       all_goals try
        first | (clear m15_; have m15_ := trivial) | (clear m16_; have m16_ := trivial) | (clear m17_; have m17_ := trivial) | (clear m18_; have m18_ := trivial) | (clear m19_; have m19_ := trivial) | (clear m20_; have m20_ := trivial) | (clear m21_; have m21_ := trivial)
        go_wp2
        go_ret
        exact ⟨by first | rfl | (simp [errW_none, errW_some] <;> rfl) | (simp [*, errW_none, errW_some] <;> rfl), by repeat (first | (with_reducible first | exact HB.out | apply XA | apply XN | apply XD | refine XS ?_ GE119.out) | exact HB.out)⟩
       ·replace BK119 := As (YD BK119.out);replace HB := As (XD HB.out);refine start_ (n := 45) (S := fun w' => w'.cell? ⟨gb119, 0, none⟩ = some (.int .i64 a0_0) ∧ w'.cell? ⟨gb119, 1, none⟩ = some (.int .i64 a0_1) ∧ w'.cell? ⟨gb119, 2, none⟩ = some (.int .i64 a0_2) ∧ w'.cell? ⟨gb119, 3, none⟩ = some (.int .i64 a0_3) ∧ w'.cell? ⟨gb119, 4, none⟩ = some (.int .i64 a0_4) ∧ w'.cell? ⟨gb119, 5, none⟩ = some (.int .i64 a0_5) ∧ w'.cell? ⟨gb119, 6, none⟩ = some (.int .i64 a0_6) ∧ w'.cell? ⟨gb119, 7, none⟩ = some (.int .i64 a0_7) ∧ w'.cell? ⟨gb119, 8, none⟩ = some (.int .i64 a0_8) ∧ w'.cell? ⟨gb119, 9, none⟩ = some (.int .i64 a0_9)) (ds := []) (fl 0 45) kr rfl rfl (cy10 BK119.out) (fun hHeld => ?_); refine with_tabW r6_May.tab12 r6_May.bits12 (fun HT_ HW_ => ?_);generalize wc.drew = w79 at BK119 HB hHeld ⊢;refine pure_ (i := 0) (N := some 82) (v := ?_) (a' := ?_) (fl 1 44) rfl rfl (any_of HT_.out kr) (fun _ _ _ h => h) (Or.inl ⟨by rfl, ?_⟩) ?_ ?_;rotate_left;(intro w';go_simp;with_reducible rfl);rotate_left;(simp only [Act.put,z0,z1,z2,i64_w,i32_w];rfl);refine take_ (i := 1) (N := some 83) (v := ?_) (a' := ?_) (fl 2 43) rfl rfl (take_ofW HT_.out HW_.out kr) (fun _ _ _ h => h) (Or.inl ⟨by rfl, ?_⟩) hHeld ?_ ?_;rotate_left;(rintro w' ⟨s0, s1, s2, s3, s4, s5, s6, s7, s8, s9⟩;go_simp;with_reducible rfl);rotate_left;(simp only [Act.put,z0,z1,z2,i64_w,i32_w];rfl);refine pure_ (i := 2) (N := some 84) (v := ?_) (a' := ?_) (fl 3 42) rfl rfl (any_of HT_.out kr) (fun _ _ _ h => h) (Or.inl ⟨by rfl, ?_⟩) ?_ ?_;rotate_left;(intro w';go_simp;with_reducible rfl);rotate_left;(simp only [Act.put,z0,z1,z2,i64_w,i32_w];rfl);refine pure_ (i := 3) (N := some 85) (v := ?_) (a' := ?_) (fl 4 41) rfl rfl (any_of HT_.out kr) (fun _ _ _ h => h) (Or.inl ⟨by rfl, ?_⟩) ?_ ?_;rotate_left;(intro w';go_simp;with_reducible rfl);rotate_left;(simp only [Act.put,z0,z1,z2,i64_w,i32_w];rfl);refine pure_ (i := 4) (N := some 86) (v := undef) (a' := ?_) (fl 5 40) rfl rfl (any_of HT_.out kr) (fun _ _ _ h => h) (Or.inr ⟨by rfl, rfl⟩) ?_ ?_;rotate_left
        ·simp only [Act.put, z0,z1,z2,i64_w,i32_w];rfl
        refine pure_ (i := 5) (N := some 87) (v := undef) (a' := ?_) (fl 6 39) rfl rfl (any_of HT_.out kr) (fun _ _ _ h => h) (Or.inr ⟨by rfl, rfl⟩) ?_ ?_;rotate_left
        ·simp only [Act.put, z0,z1,z2,i64_w,i32_w];rfl
        refine pure_ (i := 6) (N := some 88) (v := undef) (a' := ?_) (fl 7 38) rfl rfl (any_of HT_.out kr) (fun _ _ _ h => h) (Or.inr ⟨by rfl, rfl⟩) ?_ ?_;rotate_left
        ·simp only [Act.put, z0,z1,z2,i64_w,i32_w];rfl
        refine pure_ (i := 7) (N := some 89) (v := ?_) (a' := ?_) (fl 8 37) rfl rfl (any_of HT_.out kr) (fun _ _ _ h => h) (Or.inl ⟨by rfl, ?_⟩) ?_ ?_;rotate_left;(intro w';go_simp;with_reducible rfl);rotate_left;(simp only [Act.put,z0,z1,z2,i64_w,i32_w];rfl);refine pure_ (i := 8) (N := some 90) (v := ?_) (a' := ?_) (fl 9 36) rfl rfl (any_of HT_.out kr) (fun _ _ _ h => h) (Or.inl ⟨by rfl, ?_⟩) ?_ ?_;rotate_left;(intro w';go_simp;with_reducible rfl);rotate_left;(simp only [Act.put,z0,z1,z2,i64_w,i32_w];rfl);refine pure_ (i := 9) (N := some 91) (v := undef) (a' := ?_) (fl 10 35) rfl rfl (any_of HT_.out kr) (fun _ _ _ h => h) (Or.inr ⟨by rfl, rfl⟩) ?_ ?_;rotate_left
        ·simp only [Act.put, z0,z1,z2,i64_w,i32_w];rfl
        refine pure_ (i := 10) (N := some 92) (v := undef) (a' := ?_) (fl 11 34) rfl rfl (any_of HT_.out kr) (fun _ _ _ h => h) (Or.inr ⟨by rfl, rfl⟩) ?_ ?_;rotate_left
        ·simp only [Act.put, z0,z1,z2,i64_w,i32_w];rfl
        refine pure_ (i := 11) (N := some 93) (v := undef) (a' := ?_) (fl 12 33) rfl rfl (any_of HT_.out kr) (fun _ _ _ h => h) (Or.inr ⟨by rfl, rfl⟩) ?_ ?_;rotate_left
        ·simp only [Act.put, z0,z1,z2,i64_w,i32_w];rfl
        refine pure_ (i := 12) (N := some 94) (v := ?_) (a' := ?_) (fl 13 32) rfl rfl (any_of HT_.out kr) (fun _ _ _ h => h) (Or.inl ⟨by rfl, ?_⟩) ?_ ?_;rotate_left;(intro w';go_simp;with_reducible rfl);rotate_left;(simp only [Act.put,z0,z1,z2,i64_w,i32_w];rfl);refine pure_ (i := 13) (N := some 95) (v := ?_) (a' := ?_) (fl 14 31) rfl rfl (any_of HT_.out kr) (fun _ _ _ h => h) (Or.inl ⟨by rfl, ?_⟩) ?_ ?_;rotate_left;(intro w';go_simp;with_reducible rfl);rotate_left;(simp only [Act.put,z0,z1,z2,i64_w,i32_w];rfl);refine pure_ (i := 14) (N := some 96) (v := undef) (a' := ?_) (fl 15 30) rfl rfl (any_of HT_.out kr) (fun _ _ _ h => h) (Or.inr ⟨by rfl, rfl⟩) ?_ ?_;rotate_left
        ·simp only [Act.put, z0,z1,z2,i64_w,i32_w];rfl
        refine pure_ (i := 15) (N := some 97) (v := undef) (a' := ?_) (fl 16 29) rfl rfl (any_of HT_.out kr) (fun _ _ _ h => h) (Or.inr ⟨by rfl, rfl⟩) ?_ ?_;rotate_left
        ·simp only [Act.put, z0,z1,z2,i64_w,i32_w];rfl
        refine pure_ (i := 16) (N := some 98) (v := undef) (a' := ?_) (fl 17 28) rfl rfl (any_of HT_.out kr) (fun _ _ _ h => h) (Or.inr ⟨by rfl, rfl⟩) ?_ ?_;rotate_left
        ·simp only [Act.put, z0,z1,z2,i64_w,i32_w];rfl
        refine pure_ (i := 17) (N := some 99) (v := ?_) (a' := ?_) (fl 18 27) rfl rfl (any_of HT_.out kr) (fun _ _ _ h => h) (Or.inl ⟨by rfl, ?_⟩) ?_ ?_;rotate_left;(intro w';go_simp;with_reducible rfl);rotate_left;(simp only [Act.put,z0,z1,z2,i64_w,i32_w];rfl);refine pure_ (i := 18) (N := some 100) (v := ?_) (a' := ?_) (fl 19 26) rfl rfl (any_of HT_.out kr) (fun _ _ _ h => h) (Or.inl ⟨by rfl, ?_⟩) ?_ ?_;rotate_left;(intro w';go_simp;with_reducible rfl);rotate_left;(simp only [Act.put,z0,z1,z2,i64_w,i32_w];rfl);refine pure_ (i := 19) (N := some 101) (v := undef) (a' := ?_) (fl 20 25) rfl rfl (any_of HT_.out kr) (fun _ _ _ h => h) (Or.inr ⟨by rfl, rfl⟩) ?_ ?_;rotate_left
        ·simp only [Act.put, z0,z1,z2,i64_w,i32_w];rfl
        refine pure_ (i := 20) (N := some 102) (v := undef) (a' := ?_) (fl 21 24) rfl rfl (any_of HT_.out kr) (fun _ _ _ h => h) (Or.inr ⟨by rfl, rfl⟩) ?_ ?_;rotate_left
        ·simp only [Act.put, z0,z1,z2,i64_w,i32_w];rfl
        refine pure_ (i := 21) (N := some 103) (v := undef) (a' := ?_) (fl 22 23) rfl rfl (any_of HT_.out kr) (fun _ _ _ h => h) (Or.inr ⟨by rfl, rfl⟩) ?_ ?_;rotate_left
        ·simp only [Act.put, z0,z1,z2,i64_w,i32_w];rfl
        refine pure_ (i := 22) (N := some 104) (v := ?_) (a' := ?_) (fl 23 22) rfl rfl (any_of HT_.out kr) (fun _ _ _ h => h) (Or.inl ⟨by rfl, ?_⟩) ?_ ?_;rotate_left;(intro w';go_simp;with_reducible rfl);rotate_left;(simp only [Act.put,z0,z1,z2,i64_w,i32_w];rfl);refine pure_ (i := 23) (N := some 105) (v := ?_) (a' := ?_) (fl 24 21) rfl rfl (any_of HT_.out kr) (fun _ _ _ h => h) (Or.inl ⟨by rfl, ?_⟩) ?_ ?_;rotate_left;(intro w';go_simp;with_reducible rfl);rotate_left;(simp only [Act.put,z0,z1,z2,i64_w,i32_w];rfl);refine pure_ (i := 24) (N := some 106) (v := undef) (a' := ?_) (fl 25 20) rfl rfl (any_of HT_.out kr) (fun _ _ _ h => h) (Or.inr ⟨by rfl, rfl⟩) ?_ ?_;rotate_left
        ·simp only [Act.put, z0,z1,z2,i64_w,i32_w];rfl
        refine pure_ (i := 25) (N := some 107) (v := undef) (a' := ?_) (fl 26 19) rfl rfl (any_of HT_.out kr) (fun _ _ _ h => h) (Or.inr ⟨by rfl, rfl⟩) ?_ ?_;rotate_left
        ·simp only [Act.put, z0,z1,z2,i64_w,i32_w];rfl
        refine pure_ (i := 26) (N := some 108) (v := undef) (a' := ?_) (fl 27 18) rfl rfl (any_of HT_.out kr) (fun _ _ _ h => h) (Or.inr ⟨by rfl, rfl⟩) ?_ ?_;rotate_left
        ·simp only [Act.put, z0,z1,z2,i64_w,i32_w];rfl
        refine pure_ (i := 27) (N := some 109) (v := undef) (a' := ?_) (fl 28 17) rfl rfl (any_of HT_.out kr) (fun _ _ _ h => h) (Or.inr ⟨by rfl, rfl⟩) ?_ ?_;rotate_left
        ·simp only [Act.put, z0,z1,z2,i64_w,i32_w];rfl
        refine pure_ (i := 28) (N := some 110) (v := ?_) (a' := ?_) (fl 29 16) rfl rfl (any_of HT_.out kr) (fun _ _ _ h => h) (Or.inl ⟨by rfl, ?_⟩) ?_ ?_;rotate_left;(intro w';go_simp;with_reducible rfl);rotate_left;(simp only [Act.put,z0,z1,z2,i64_w,i32_w];rfl);refine pure_ (i := 29) (N := some 111) (v := ?_) (a' := ?_) (fl 30 15) rfl rfl (any_of HT_.out kr) (fun _ _ _ h => h) (Or.inl ⟨by rfl, ?_⟩) ?_ ?_;rotate_left;(intro w';go_simp;with_reducible rfl);rotate_left;(simp only [Act.put,z0,z1,z2,i64_w,i32_w];rfl);refine pure_ (i := 30) (N := some 112) (v := undef) (a' := ?_) (fl 31 14) rfl rfl (any_of HT_.out kr) (fun _ _ _ h => h) (Or.inr ⟨by rfl, rfl⟩) ?_ ?_;rotate_left
        ·simp only [Act.put, z0,z1,z2,i64_w,i32_w];rfl
        refine pure_ (i := 31) (N := some 113) (v := undef) (a' := ?_) (fl 32 13) rfl rfl (any_of HT_.out kr) (fun _ _ _ h => h) (Or.inr ⟨by rfl, rfl⟩) ?_ ?_;rotate_left
        ·simp only [Act.put, z0,z1,z2,i64_w,i32_w];rfl
        refine pure_ (i := 32) (N := some 114) (v := undef) (a' := ?_) (fl 33 12) rfl rfl (any_of HT_.out kr) (fun _ _ _ h => h) (Or.inr ⟨by rfl, rfl⟩) ?_ ?_;rotate_left
        ·simp only [Act.put, z0,z1,z2,i64_w,i32_w];rfl
        refine pure_ (i := 33) (N := some 115) (v := undef) (a' := ?_) (fl 34 11) rfl rfl (any_of HT_.out kr) (fun _ _ _ h => h) (Or.inr ⟨by rfl, rfl⟩) ?_ ?_;rotate_left
        ·simp only [Act.put, z0,z1,z2,i64_w,i32_w];rfl
        refine pure_ (i := 34) (N := some 116) (v := ?_) (a' := ?_) (fl 35 10) rfl rfl (any_of HT_.out kr) (fun _ _ _ h => h) (Or.inl ⟨by rfl, ?_⟩) ?_ ?_;rotate_left;(intro w';go_simp;with_reducible rfl);rotate_left;(simp only [Act.put,z0,z1,z2,i64_w,i32_w];rfl);refine pure_ (i := 35) (N := some 117) (v := ?_) (a' := ?_) (fl 36 9) rfl rfl (any_of HT_.out kr) (fun _ _ _ h => h) (Or.inl ⟨by rfl, ?_⟩) ?_ ?_;rotate_left;(intro w';go_simp;with_reducible rfl);rotate_left;(simp only [Act.put,z0,z1,z2,i64_w,i32_w];rfl);refine pure_ (i := 36) (N := some 118) (v := undef) (a' := ?_) (fl 37 8) rfl rfl (any_of HT_.out kr) (fun _ _ _ h => h) (Or.inr ⟨by rfl, rfl⟩) ?_ ?_;rotate_left
        ·simp only [Act.put, z0,z1,z2,i64_w,i32_w];rfl
        refine pure_ (i := 37) (N := some 119) (v := undef) (a' := ?_) (fl 38 7) rfl rfl (any_of HT_.out kr) (fun _ _ _ h => h) (Or.inr ⟨by rfl, rfl⟩) ?_ ?_;rotate_left
        ·simp only [Act.put, z0,z1,z2,i64_w,i32_w];rfl
        refine pure_ (i := 38) (N := some 120) (v := undef) (a' := ?_) (fl 39 6) rfl rfl (any_of HT_.out kr) (fun _ _ _ h => h) (Or.inr ⟨by rfl, rfl⟩) ?_ ?_;rotate_left
        ·simp only [Act.put, z0,z1,z2,i64_w,i32_w];rfl
        refine pure_ (i := 39) (N := some 121) (v := undef) (a' := ?_) (fl 40 5) rfl rfl (any_of HT_.out kr) (fun _ _ _ h => h) (Or.inr ⟨by rfl, rfl⟩) ?_ ?_;rotate_left
        ·simp only [Act.put, z0,z1,z2,i64_w,i32_w];rfl
        refine pure_ (i := 40) (N := some 122) (v := undef) (a' := ?_) (fl 41 4) rfl rfl (any_of HT_.out kr) (fun _ _ _ h => h) (Or.inr ⟨by rfl, rfl⟩) ?_ ?_;rotate_left
        ·simp only [Act.put, z0,z1,z2,i64_w,i32_w];rfl
        refine pure_ (i := 41) (N := some 123) (v := undef) (a' := ?_) (fl 42 3) rfl rfl (any_of HT_.out kr) (fun _ _ _ h => h) (Or.inr ⟨by rfl, rfl⟩) ?_ ?_;rotate_left
        ·simp only [Act.put, z0,z1,z2,i64_w,i32_w];rfl
        refine pure_ (i := 42) (N := some 124) (v := undef) (a' := ?_) (fl 43 2) rfl rfl (any_of HT_.out kr) (fun _ _ _ h => h) (Or.inr ⟨by rfl, rfl⟩) ?_ ?_;rotate_left
        ·simp only [Act.put, z0,z1,z2,i64_w,i32_w];rfl
        refine pure_ (i := 43) (N := some 125) (v := ?_) (a' := ?_) (fl 44 1) rfl rfl (any_of HT_.out kr) (fun _ _ _ h => h) (Or.inl ⟨by rfl, ?_⟩) ?_ ?_;rotate_left;(intro w';go_simp;with_reducible rfl);rotate_left;(simp only [Act.put,z0,z1,z2,i64_w,i32_w];rfl);refine pure_ (i := 44) (N := some 2) (v := ?_) (a' := ?_) (fl 45 0) rfl rfl (any_of HT_.out kr) (fun _ _ _ h => h) (Or.inl ⟨by rfl, ?_⟩) ?_ ?_;rotate_left;(intro w';go_simp;with_reducible rfl);rotate_left;(simp only [Act.put,z0,z1,z2,i64_w,i32_w];rfl);refine done_ (done_of HT_.out kr) ?_
        try go_wp2
        go_ret
        exact ⟨by first | rfl | (simp [errW_none, errW_some] <;> rfl) | (simp [*, errW_none, errW_some] <;> rfl), by repeat (first | (with_reducible first | exact HB.out | apply XA | apply XN | apply XD | refine XS ?_ GE119.out) | exact HB.out)⟩
       ·replace BK119 := As (YD BK119.out);replace HB := As (XD HB.out);refine start_ (n := 45) (S := fun w' => w'.cell? ⟨gb119, 0, none⟩ = some (.int .i64 a0_0) ∧ w'.cell? ⟨gb119, 1, none⟩ = some (.int .i64 a0_1) ∧ w'.cell? ⟨gb119, 2, none⟩ = some (.int .i64 a0_2) ∧ w'.cell? ⟨gb119, 3, none⟩ = some (.int .i64 a0_3) ∧ w'.cell? ⟨gb119, 4, none⟩ = some (.int .i64 a0_4) ∧ w'.cell? ⟨gb119, 5, none⟩ = some (.int .i64 a0_5) ∧ w'.cell? ⟨gb119, 6, none⟩ = some (.int .i64 a0_6) ∧ w'.cell? ⟨gb119, 7, none⟩ = some (.int .i64 a0_7) ∧ w'.cell? ⟨gb119, 8, none⟩ = some (.int .i64 a0_8) ∧ w'.cell? ⟨gb119, 9, none⟩ = some (.int .i64 a0_9)) (ds := []) (fl 0 45) kr rfl rfl (cy10 BK119.out) (fun hHeld => ?_); refine with_tabW r6_May.tab12 r6_May.bits12 (fun HT_ HW_ => ?_);generalize wc.drew = w77 at BK119 HB hHeld ⊢;refine pure_ (i := 0) (N := some 82) (v := ?_) (a' := ?_) (fl 1 44) rfl rfl (any_of HT_.out kr) (fun _ _ _ h => h) (Or.inl ⟨by rfl, ?_⟩) ?_ ?_;rotate_left;(intro w';go_simp;with_reducible rfl);rotate_left;(simp only [Act.put,z0,z1,z2,i64_w,i32_w];rfl);refine take_ (i := 1) (N := some 83) (v := ?_) (a' := ?_) (fl 2 43) rfl rfl (take_ofW HT_.out HW_.out kr) (fun _ _ _ h => h) (Or.inl ⟨by rfl, ?_⟩) hHeld ?_ ?_;rotate_left;(rintro w' ⟨s0, s1, s2, s3, s4, s5, s6, s7, s8, s9⟩;go_simp;with_reducible rfl);rotate_left;(simp only [Act.put,z0,z1,z2,i64_w,i32_w];rfl);refine pure_ (i := 2) (N := some 84) (v := ?_) (a' := ?_) (fl 3 42) rfl rfl (any_of HT_.out kr) (fun _ _ _ h => h) (Or.inl ⟨by rfl, ?_⟩) ?_ ?_;rotate_left;(intro w';go_simp;with_reducible rfl);rotate_left;(simp only [Act.put,z0,z1,z2,i64_w,i32_w];rfl);refine pure_ (i := 3) (N := some 85) (v := ?_) (a' := ?_) (fl 4 41) rfl rfl (any_of HT_.out kr) (fun _ _ _ h => h) (Or.inl ⟨by rfl, ?_⟩) ?_ ?_;rotate_left;(intro w';go_simp;with_reducible rfl);rotate_left;(simp only [Act.put,z0,z1,z2,i64_w,i32_w];rfl);refine pure_ (i := 4) (N := some 86) (v := ?_) (a' := ?_) (fl 5 40) rfl rfl (any_of HT_.out kr) (fun _ _ _ h => h) (Or.inl ⟨by rfl, ?_⟩) ?_ ?_;rotate_left;(intro w';go_simp;with_reducible rfl);rotate_left;(simp only [Act.put,z0,z1,z2,i64_w,i32_w];rfl);refine take_ (i := 5) (N := some 87) (v := ?_) (a' := ?_) (fl 6 39) rfl rfl (take_ofW HT_.out HW_.out kr) (fun _ _ _ h => h) (Or.inl ⟨by rfl, ?_⟩) hHeld ?_ ?_;rotate_left;(rintro w' ⟨s0, s1, s2, s3, s4, s5, s6, s7, s8, s9⟩;go_simp;with_reducible rfl);rotate_left;(simp only [Act.put,z0,z1,z2,i64_w,i32_w];rfl);refine pure_ (i := 6) (N := some 88) (v := ?_) (a' := ?_) (fl 7 38) rfl rfl (any_of HT_.out kr) (fun _ _ _ h => h) (Or.inl ⟨by rfl, ?_⟩) ?_ ?_;rotate_left;(intro w';go_simp;with_reducible rfl);rotate_left;(simp only [Act.put,z0,z1,z2,i64_w,i32_w];rfl);refine pure_ (i := 7) (N := some 89) (v := ?_) (a' := ?_) (fl 8 37) rfl rfl (any_of HT_.out kr) (fun _ _ _ h => h) (Or.inl ⟨by rfl, ?_⟩) ?_ ?_;rotate_left;(intro w';go_simp;with_reducible rfl);rotate_left;(simp only [Act.put,z0,z1,z2,i64_w,i32_w];rfl);refine pure_ (i := 8) (N := some 90) (v := ?_) (a' := ?_) (fl 9 36) rfl rfl (any_of HT_.out kr) (fun _ _ _ h => h) (Or.inl ⟨by rfl, ?_⟩) ?_ ?_;rotate_left;(intro w';go_simp;with_reducible rfl);rotate_left;(simp only [Act.put,z0,z1,z2,i64_w,i32_w];rfl);refine pure_ (i := 9) (N := some 91) (v := undef) (a' := ?_) (fl 10 35) rfl rfl (any_of HT_.out kr) (fun _ _ _ h => h) (Or.inr ⟨by rfl, rfl⟩) ?_ ?_;rotate_left
        ·simp only [Act.put, z0,z1,z2,i64_w,i32_w];rfl
        refine pure_ (i := 10) (N := some 92) (v := undef) (a' := ?_) (fl 11 34) rfl rfl (any_of HT_.out kr) (fun _ _ _ h => h) (Or.inr ⟨by rfl, rfl⟩) ?_ ?_;rotate_left
        ·simp only [Act.put, z0,z1,z2,i64_w,i32_w];rfl
        refine pure_ (i := 11) (N := some 93) (v := undef) (a' := ?_) (fl 12 33) rfl rfl (any_of HT_.out kr) (fun _ _ _ h => h) (Or.inr ⟨by rfl, rfl⟩) ?_ ?_;rotate_left
        ·simp only [Act.put, z0,z1,z2,i64_w,i32_w];rfl
        refine pure_ (i := 12) (N := some 94) (v := ?_) (a' := ?_) (fl 13 32) rfl rfl (any_of HT_.out kr) (fun _ _ _ h => h) (Or.inl ⟨by rfl, ?_⟩) ?_ ?_;rotate_left;(intro w';go_simp;with_reducible rfl);rotate_left;(simp only [Act.put,z0,z1,z2,i64_w,i32_w];rfl);refine pure_ (i := 13) (N := some 95) (v := ?_) (a' := ?_) (fl 14 31) rfl rfl (any_of HT_.out kr) (fun _ _ _ h => h) (Or.inl ⟨by rfl, ?_⟩) ?_ ?_;rotate_left;(intro w';go_simp;with_reducible rfl);rotate_left;(simp only [Act.put,z0,z1,z2,i64_w,i32_w];rfl);refine pure_ (i := 14) (N := some 96) (v := undef) (a' := ?_) (fl 15 30) rfl rfl (any_of HT_.out kr) (fun _ _ _ h => h) (Or.inr ⟨by rfl, rfl⟩) ?_ ?_;rotate_left
        ·simp only [Act.put, z0,z1,z2,i64_w,i32_w];rfl
        refine pure_ (i := 15) (N := some 97) (v := undef) (a' := ?_) (fl 16 29) rfl rfl (any_of HT_.out kr) (fun _ _ _ h => h) (Or.inr ⟨by rfl, rfl⟩) ?_ ?_;rotate_left
        ·simp only [Act.put, z0,z1,z2,i64_w,i32_w];rfl
        refine pure_ (i := 16) (N := some 98) (v := undef) (a' := ?_) (fl 17 28) rfl rfl (any_of HT_.out kr) (fun _ _ _ h => h) (Or.inr ⟨by rfl, rfl⟩) ?_ ?_;rotate_left
        ·simp only [Act.put, z0,z1,z2,i64_w,i32_w];rfl
        refine pure_ (i := 17) (N := some 99) (v := ?_) (a' := ?_) (fl 18 27) rfl rfl (any_of HT_.out kr) (fun _ _ _ h => h) (Or.inl ⟨by rfl, ?_⟩) ?_ ?_;rotate_left;(intro w';go_simp;with_reducible rfl);rotate_left;(simp only [Act.put,z0,z1,z2,i64_w,i32_w];rfl);refine pure_ (i := 18) (N := some 100) (v := ?_) (a' := ?_) (fl 19 26) rfl rfl (any_of HT_.out kr) (fun _ _ _ h => h) (Or.inl ⟨by rfl, ?_⟩) ?_ ?_;rotate_left;(intro w';go_simp;with_reducible rfl);rotate_left;(simp only [Act.put,z0,z1,z2,i64_w,i32_w];rfl);refine pure_ (i := 19) (N := some 101) (v := undef) (a' := ?_) (fl 20 25) rfl rfl (any_of HT_.out kr) (fun _ _ _ h => h) (Or.inr ⟨by rfl, rfl⟩) ?_ ?_;rotate_left
        ·simp only [Act.put, z0,z1,z2,i64_w,i32_w];rfl
        refine pure_ (i := 20) (N := some 102) (v := undef) (a' := ?_) (fl 21 24) rfl rfl (any_of HT_.out kr) (fun _ _ _ h => h) (Or.inr ⟨by rfl, rfl⟩) ?_ ?_;rotate_left
        ·simp only [Act.put, z0,z1,z2,i64_w,i32_w];rfl
        refine pure_ (i := 21) (N := some 103) (v := undef) (a' := ?_) (fl 22 23) rfl rfl (any_of HT_.out kr) (fun _ _ _ h => h) (Or.inr ⟨by rfl, rfl⟩) ?_ ?_;rotate_left
        ·simp only [Act.put, z0,z1,z2,i64_w,i32_w];rfl
        refine pure_ (i := 22) (N := some 104) (v := ?_) (a' := ?_) (fl 23 22) rfl rfl (any_of HT_.out kr) (fun _ _ _ h => h) (Or.inl ⟨by rfl, ?_⟩) ?_ ?_;rotate_left;(intro w';go_simp;with_reducible rfl);rotate_left;(simp only [Act.put,z0,z1,z2,i64_w,i32_w];rfl);refine pure_ (i := 23) (N := some 105) (v := ?_) (a' := ?_) (fl 24 21) rfl rfl (any_of HT_.out kr) (fun _ _ _ h => h) (Or.inl ⟨by rfl, ?_⟩) ?_ ?_;rotate_left;(intro w';go_simp;with_reducible rfl);rotate_left;(simp only [Act.put,z0,z1,z2,i64_w,i32_w];rfl);refine pure_ (i := 24) (N := some 106) (v := undef) (a' := ?_) (fl 25 20) rfl rfl (any_of HT_.out kr) (fun _ _ _ h => h) (Or.inr ⟨by rfl, rfl⟩) ?_ ?_;rotate_left
        ·simp only [Act.put, z0,z1,z2,i64_w,i32_w];rfl
        refine pure_ (i := 25) (N := some 107) (v := undef) (a' := ?_) (fl 26 19) rfl rfl (any_of HT_.out kr) (fun _ _ _ h => h) (Or.inr ⟨by rfl, rfl⟩) ?_ ?_;rotate_left
        ·simp only [Act.put, z0,z1,z2,i64_w,i32_w];rfl
        refine pure_ (i := 26) (N := some 108) (v := undef) (a' := ?_) (fl 27 18) rfl rfl (any_of HT_.out kr) (fun _ _ _ h => h) (Or.inr ⟨by rfl, rfl⟩) ?_ ?_;rotate_left
        ·simp only [Act.put, z0,z1,z2,i64_w,i32_w];rfl
        refine pure_ (i := 27) (N := some 109) (v := undef) (a' := ?_) (fl 28 17) rfl rfl (any_of HT_.out kr) (fun _ _ _ h => h) (Or.inr ⟨by rfl, rfl⟩) ?_ ?_;rotate_left
        ·simp only [Act.put, z0,z1,z2,i64_w,i32_w];rfl
        refine pure_ (i := 28) (N := some 110) (v := ?_) (a' := ?_) (fl 29 16) rfl rfl (any_of HT_.out kr) (fun _ _ _ h => h) (Or.inl ⟨by rfl, ?_⟩) ?_ ?_;rotate_left;(intro w';go_simp;with_reducible rfl);rotate_left;(simp only [Act.put,z0,z1,z2,i64_w,i32_w];rfl);refine pure_ (i := 29) (N := some 111) (v := ?_) (a' := ?_) (fl 30 15) rfl rfl (any_of HT_.out kr) (fun _ _ _ h => h) (Or.inl ⟨by rfl, ?_⟩) ?_ ?_;rotate_left;(intro w';go_simp;with_reducible rfl);rotate_left;(simp only [Act.put,z0,z1,z2,i64_w,i32_w];rfl);refine pure_ (i := 30) (N := some 112) (v := undef) (a' := ?_) (fl 31 14) rfl rfl (any_of HT_.out kr) (fun _ _ _ h => h) (Or.inr ⟨by rfl, rfl⟩) ?_ ?_;rotate_left
        ·simp only [Act.put, z0,z1,z2,i64_w,i32_w];rfl
        refine pure_ (i := 31) (N := some 113) (v := undef) (a' := ?_) (fl 32 13) rfl rfl (any_of HT_.out kr) (fun _ _ _ h => h) (Or.inr ⟨by rfl, rfl⟩) ?_ ?_;rotate_left
        ·simp only [Act.put, z0,z1,z2,i64_w,i32_w];rfl
        refine pure_ (i := 32) (N := some 114) (v := undef) (a' := ?_) (fl 33 12) rfl rfl (any_of HT_.out kr) (fun _ _ _ h => h) (Or.inr ⟨by rfl, rfl⟩) ?_ ?_;rotate_left
        ·simp only [Act.put, z0,z1,z2,i64_w,i32_w];rfl
        refine pure_ (i := 33) (N := some 115) (v := undef) (a' := ?_) (fl 34 11) rfl rfl (any_of HT_.out kr) (fun _ _ _ h => h) (Or.inr ⟨by rfl, rfl⟩) ?_ ?_;rotate_left
        ·simp only [Act.put, z0,z1,z2,i64_w,i32_w];rfl
        refine pure_ (i := 34) (N := some 116) (v := ?_) (a' := ?_) (fl 35 10) rfl rfl (any_of HT_.out kr) (fun _ _ _ h => h) (Or.inl ⟨by rfl, ?_⟩) ?_ ?_;rotate_left;(intro w';go_simp;with_reducible rfl);rotate_left;(simp only [Act.put,z0,z1,z2,i64_w,i32_w];rfl);refine pure_ (i := 35) (N := some 117) (v := ?_) (a' := ?_) (fl 36 9) rfl rfl (any_of HT_.out kr) (fun _ _ _ h => h) (Or.inl ⟨by rfl, ?_⟩) ?_ ?_;rotate_left;(intro w';go_simp;with_reducible rfl);rotate_left;(simp only [Act.put,z0,z1,z2,i64_w,i32_w];rfl);refine pure_ (i := 36) (N := some 118) (v := undef) (a' := ?_) (fl 37 8) rfl rfl (any_of HT_.out kr) (fun _ _ _ h => h) (Or.inr ⟨by rfl, rfl⟩) ?_ ?_;rotate_left
        ·simp only [Act.put, z0,z1,z2,i64_w,i32_w];rfl
        refine pure_ (i := 37) (N := some 119) (v := undef) (a' := ?_) (fl 38 7) rfl rfl (any_of HT_.out kr) (fun _ _ _ h => h) (Or.inr ⟨by rfl, rfl⟩) ?_ ?_;rotate_left
        ·simp only [Act.put, z0,z1,z2,i64_w,i32_w];rfl
        refine pure_ (i := 38) (N := some 120) (v := undef) (a' := ?_) (fl 39 6) rfl rfl (any_of HT_.out kr) (fun _ _ _ h => h) (Or.inr ⟨by rfl, rfl⟩) ?_ ?_;rotate_left
        ·simp only [Act.put, z0,z1,z2,i64_w,i32_w];rfl
        refine pure_ (i := 39) (N := some 121) (v := undef) (a' := ?_) (fl 40 5) rfl rfl (any_of HT_.out kr) (fun _ _ _ h => h) (Or.inr ⟨by rfl, rfl⟩) ?_ ?_;rotate_left
        ·simp only [Act.put, z0,z1,z2,i64_w,i32_w];rfl
        refine pure_ (i := 40) (N := some 122) (v := undef) (a' := ?_) (fl 41 4) rfl rfl (any_of HT_.out kr) (fun _ _ _ h => h) (Or.inr ⟨by rfl, rfl⟩) ?_ ?_;rotate_left
        ·simp only [Act.put, z0,z1,z2,i64_w,i32_w];rfl
        refine pure_ (i := 41) (N := some 123) (v := undef) (a' := ?_) (fl 42 3) rfl rfl (any_of HT_.out kr) (fun _ _ _ h => h) (Or.inr ⟨by rfl, rfl⟩) ?_ ?_;rotate_left
        ·simp only [Act.put, z0,z1,z2,i64_w,i32_w];rfl
        refine pure_ (i := 42) (N := some 124) (v := undef) (a' := ?_) (fl 43 2) rfl rfl (any_of HT_.out kr) (fun _ _ _ h => h) (Or.inr ⟨by rfl, rfl⟩) ?_ ?_;rotate_left
        ·simp only [Act.put, z0,z1,z2,i64_w,i32_w];rfl
        refine pure_ (i := 43) (N := some 125) (v := ?_) (a' := ?_) (fl 44 1) rfl rfl (any_of HT_.out kr) (fun _ _ _ h => h) (Or.inl ⟨by rfl, ?_⟩) ?_ ?_;rotate_left;(intro w';go_simp;with_reducible rfl);rotate_left;(simp only [Act.put,z0,z1,z2,i64_w,i32_w];rfl);refine pure_ (i := 44) (N := some 2) (v := ?_) (a' := ?_) (fl 45 0) rfl rfl (any_of HT_.out kr) (fun _ _ _ h => h) (Or.inl ⟨by rfl, ?_⟩) ?_ ?_;rotate_left;(intro w';go_simp;with_reducible rfl);rotate_left;(simp only [Act.put,z0,z1,z2,i64_w,i32_w];rfl);refine done_ (done_of HT_.out kr) ?_
        try go_wp2
        go_ret
        exact ⟨by first | rfl | (simp [errW_none, errW_some] <;> rfl) | (simp [*, errW_none, errW_some] <;> rfl), by repeat (first | (with_reducible first | exact HB.out | apply XA | apply XN | apply XD | refine XS ?_ GE119.out) | exact HB.out)⟩
       ·replace BK119 := As (YD BK119.out);replace HB := As (XD HB.out);refine start_ (n := 45) (S := fun w' => w'.cell? ⟨gb119, 0, none⟩ = some (.int .i64 a0_0) ∧ w'.cell? ⟨gb119, 1, none⟩ = some (.int .i64 a0_1) ∧ w'.cell? ⟨gb119, 2, none⟩ = some (.int .i64 a0_2) ∧ w'.cell? ⟨gb119, 3, none⟩ = some (.int .i64 a0_3) ∧ w'.cell? ⟨gb119, 4, none⟩ = some (.int .i64 a0_4) ∧ w'.cell? ⟨gb119, 5, none⟩ = some (.int .i64 a0_5) ∧ w'.cell? ⟨gb119, 6, none⟩ = some (.int .i64 a0_6) ∧ w'.cell? ⟨gb119, 7, none⟩ = some (.int .i64 a0_7) ∧ w'.cell? ⟨gb119, 8, none⟩ = some (.int .i64 a0_8) ∧ w'.cell? ⟨gb119, 9, none⟩ = some (.int .i64 a0_9)) (ds := []) (fl 0 45) kr rfl rfl (cy10 BK119.out) (fun hHeld => ?_); refine with_tabW r6_May.tab12 r6_May.bits12 (fun HT_ HW_ => ?_);generalize wc.drew = w75 at BK119 HB hHeld ⊢;refine pure_ (i := 0) (N := some 82) (v := ?_) (a' := ?_) (fl 1 44) rfl rfl (any_of HT_.out kr) (fun _ _ _ h => h) (Or.inl ⟨by rfl, ?_⟩) ?_ ?_;rotate_left;(intro w';go_simp;with_reducible rfl);rotate_left;(simp only [Act.put,z0,z1,z2,i64_w,i32_w];rfl);refine take_ (i := 1) (N := some 83) (v := ?_) (a' := ?_) (fl 2 43) rfl rfl (take_ofW HT_.out HW_.out kr) (fun _ _ _ h => h) (Or.inl ⟨by rfl, ?_⟩) hHeld ?_ ?_;rotate_left;(rintro w' ⟨s0, s1, s2, s3, s4, s5, s6, s7, s8, s9⟩;go_simp;with_reducible rfl);rotate_left;(simp only [Act.put,z0,z1,z2,i64_w,i32_w];rfl);refine pure_ (i := 2) (N := some 84) (v := ?_) (a' := ?_) (fl 3 42) rfl rfl (any_of HT_.out kr) (fun _ _ _ h => h) (Or.inl ⟨by rfl, ?_⟩) ?_ ?_;rotate_left;(intro w';go_simp;with_reducible rfl);rotate_left;(simp only [Act.put,z0,z1,z2,i64_w,i32_w];rfl);refine pure_ (i := 3) (N := some 85) (v := ?_) (a' := ?_) (fl 4 41) rfl rfl (any_of HT_.out kr) (fun _ _ _ h => h) (Or.inl ⟨by rfl, ?_⟩) ?_ ?_;rotate_left;(intro w';go_simp;with_reducible rfl);rotate_left;(simp only [Act.put,z0,z1,z2,i64_w,i32_w];rfl);refine pure_ (i := 4) (N := some 86) (v := ?_) (a' := ?_) (fl 5 40) rfl rfl (any_of HT_.out kr) (fun _ _ _ h => h) (Or.inl ⟨by rfl, ?_⟩) ?_ ?_;rotate_left;(intro w';go_simp;with_reducible rfl);rotate_left;(simp only [Act.put,z0,z1,z2,i64_w,i32_w];rfl);refine take_ (i := 5) (N := some 87) (v := ?_) (a' := ?_) (fl 6 39) rfl rfl (take_ofW HT_.out HW_.out kr) (fun _ _ _ h => h) (Or.inl ⟨by rfl, ?_⟩) hHeld ?_ ?_;rotate_left;(rintro w' ⟨s0, s1, s2, s3, s4, s5, s6, s7, s8, s9⟩;go_simp;with_reducible rfl);rotate_left;(simp only [Act.put,z0,z1,z2,i64_w,i32_w];rfl);refine pure_ (i := 6) (N := some 88) (v := ?_) (a' := ?_) (fl 7 38) rfl rfl (any_of HT_.out kr) (fun _ _ _ h => h) (Or.inl ⟨by rfl, ?_⟩) ?_ ?_;rotate_left;(intro w';go_simp;with_reducible rfl);rotate_left;(simp only [Act.put,z0,z1,z2,i64_w,i32_w];rfl);refine pure_ (i := 7) (N := some 89) (v := ?_) (a' := ?_) (fl 8 37) rfl rfl (any_of HT_.out kr) (fun _ _ _ h => h) (Or.inl ⟨by rfl, ?_⟩) ?_ ?_;rotate_left;(intro w';go_simp;with_reducible rfl);rotate_left;(simp only [Act.put,z0,z1,z2,i64_w,i32_w];rfl);refine pure_ (i := 8) (N := some 90) (v := ?_) (a' := ?_) (fl 9 36) rfl rfl (any_of HT_.out kr) (fun _ _ _ h => h) (Or.inl ⟨by rfl, ?_⟩) ?_ ?_;rotate_left;(intro w';go_simp;with_reducible rfl);rotate_left;(simp only [Act.put,z0,z1,z2,i64_w,i32_w];rfl);refine pure_ (i := 9) (N := some 91) (v := ?_) (a' := ?_) (fl 10 35) rfl rfl (any_of HT_.out kr) (fun _ _ _ h => h) (Or.inl ⟨by rfl, ?_⟩) ?_ ?_;rotate_left;(intro w';go_simp;with_reducible rfl);rotate_left;(simp only [Act.put,z0,z1,z2,i64_w,i32_w];rfl);refine take_ (i := 10) (N := some 92) (v := ?_) (a' := ?_) (fl 11 34) rfl rfl (take_ofW HT_.out HW_.out kr) (fun _ _ _ h => h) (Or.inl ⟨by rfl, ?_⟩) hHeld ?_ ?_;rotate_left;(rintro w' ⟨s0, s1, s2, s3, s4, s5, s6, s7, s8, s9⟩;go_simp;with_reducible rfl);rotate_left;(simp only [Act.put,z0,z1,z2,i64_w,i32_w];rfl);refine pure_ (i := 11) (N := some 93) (v := ?_) (a' := ?_) (fl 12 33) rfl rfl (any_of HT_.out kr) (fun _ _ _ h => h) (Or.inl ⟨by rfl, ?_⟩) ?_ ?_;rotate_left;(intro w';go_simp;with_reducible rfl);rotate_left;(simp only [Act.put,z0,z1,z2,i64_w,i32_w];rfl);refine pure_ (i := 12) (N := some 94) (v := ?_) (a' := ?_) (fl 13 32) rfl rfl (any_of HT_.out kr) (fun _ _ _ h => h) (Or.inl ⟨by rfl, ?_⟩) ?_ ?_;rotate_left;(intro w';go_simp;with_reducible rfl);rotate_left;(simp only [Act.put,z0,z1,z2,i64_w,i32_w];rfl);refine pure_ (i := 13) (N := some 95) (v := ?_) (a' := ?_) (fl 14 31) rfl rfl (any_of HT_.out kr) (fun _ _ _ h => h) (Or.inl ⟨by rfl, ?_⟩) ?_ ?_;rotate_left;(intro w';go_simp;with_reducible rfl);rotate_left;(simp only [Act.put,z0,z1,z2,i64_w,i32_w];rfl);refine pure_ (i := 14) (N := some 96) (v := undef) (a' := ?_) (fl 15 30) rfl rfl (any_of HT_.out kr) (fun _ _ _ h => h) (Or.inr ⟨by rfl, rfl⟩) ?_ ?_;rotate_left
        ·simp only [Act.put, z0,z1,z2,i64_w,i32_w];rfl
        refine pure_ (i := 15) (N := some 97) (v := undef) (a' := ?_) (fl 16 29) rfl rfl (any_of HT_.out kr) (fun _ _ _ h => h) (Or.inr ⟨by rfl, rfl⟩) ?_ ?_;rotate_left
        ·simp only [Act.put, z0,z1,z2,i64_w,i32_w];rfl
        refine pure_ (i := 16) (N := some 98) (v := undef) (a' := ?_) (fl 17 28) rfl rfl (any_of HT_.out kr) (fun _ _ _ h => h) (Or.inr ⟨by rfl, rfl⟩) ?_ ?_;rotate_left
        ·simp only [Act.put, z0,z1,z2,i64_w,i32_w];rfl
        refine pure_ (i := 17) (N := some 99) (v := ?_) (a' := ?_) (fl 18 27) rfl rfl (any_of HT_.out kr) (fun _ _ _ h => h) (Or.inl ⟨by rfl, ?_⟩) ?_ ?_;rotate_left;(intro w';go_simp;with_reducible rfl);rotate_left;(simp only [Act.put,z0,z1,z2,i64_w,i32_w];rfl);refine pure_ (i := 18) (N := some 100) (v := ?_) (a' := ?_) (fl 19 26) rfl rfl (any_of HT_.out kr) (fun _ _ _ h => h) (Or.inl ⟨by rfl, ?_⟩) ?_ ?_;rotate_left;(intro w';go_simp;with_reducible rfl);rotate_left;(simp only [Act.put,z0,z1,z2,i64_w,i32_w];rfl);refine pure_ (i := 19) (N := some 101) (v := undef) (a' := ?_) (fl 20 25) rfl rfl (any_of HT_.out kr) (fun _ _ _ h => h) (Or.inr ⟨by rfl, rfl⟩) ?_ ?_;rotate_left
        ·simp only [Act.put, z0,z1,z2,i64_w,i32_w];rfl
        refine pure_ (i := 20) (N := some 102) (v := undef) (a' := ?_) (fl 21 24) rfl rfl (any_of HT_.out kr) (fun _ _ _ h => h) (Or.inr ⟨by rfl, rfl⟩) ?_ ?_;rotate_left
        ·simp only [Act.put, z0,z1,z2,i64_w,i32_w];rfl
        refine pure_ (i := 21) (N := some 103) (v := undef) (a' := ?_) (fl 22 23) rfl rfl (any_of HT_.out kr) (fun _ _ _ h => h) (Or.inr ⟨by rfl, rfl⟩) ?_ ?_;rotate_left
        ·simp only [Act.put, z0,z1,z2,i64_w,i32_w];rfl
        refine pure_ (i := 22) (N := some 104) (v := ?_) (a' := ?_) (fl 23 22) rfl rfl (any_of HT_.out kr) (fun _ _ _ h => h) (Or.inl ⟨by rfl, ?_⟩) ?_ ?_;rotate_left;(intro w';go_simp;with_reducible rfl);rotate_left;(simp only [Act.put,z0,z1,z2,i64_w,i32_w];rfl);refine pure_ (i := 23) (N := some 105) (v := ?_) (a' := ?_) (fl 24 21) rfl rfl (any_of HT_.out kr) (fun _ _ _ h => h) (Or.inl ⟨by rfl, ?_⟩) ?_ ?_;rotate_left;(intro w';go_simp;with_reducible rfl);rotate_left;(simp only [Act.put,z0,z1,z2,i64_w,i32_w];rfl);refine pure_ (i := 24) (N := some 106) (v := undef) (a' := ?_) (fl 25 20) rfl rfl (any_of HT_.out kr) (fun _ _ _ h => h) (Or.inr ⟨by rfl, rfl⟩) ?_ ?_;rotate_left
        ·simp only [Act.put, z0,z1,z2,i64_w,i32_w];rfl
        refine pure_ (i := 25) (N := some 107) (v := undef) (a' := ?_) (fl 26 19) rfl rfl (any_of HT_.out kr) (fun _ _ _ h => h) (Or.inr ⟨by rfl, rfl⟩) ?_ ?_;rotate_left
        ·simp only [Act.put, z0,z1,z2,i64_w,i32_w];rfl
        refine pure_ (i := 26) (N := some 108) (v := undef) (a' := ?_) (fl 27 18) rfl rfl (any_of HT_.out kr) (fun _ _ _ h => h) (Or.inr ⟨by rfl, rfl⟩) ?_ ?_;rotate_left
        ·simp only [Act.put, z0,z1,z2,i64_w,i32_w];rfl
        refine pure_ (i := 27) (N := some 109) (v := undef) (a' := ?_) (fl 28 17) rfl rfl (any_of HT_.out kr) (fun _ _ _ h => h) (Or.inr ⟨by rfl, rfl⟩) ?_ ?_;rotate_left
        ·simp only [Act.put, z0,z1,z2,i64_w,i32_w];rfl
        refine pure_ (i := 28) (N := some 110) (v := ?_) (a' := ?_) (fl 29 16) rfl rfl (any_of HT_.out kr) (fun _ _ _ h => h) (Or.inl ⟨by rfl, ?_⟩) ?_ ?_;rotate_left;(intro w';go_simp;with_reducible rfl);rotate_left;(simp only [Act.put,z0,z1,z2,i64_w,i32_w];rfl);refine pure_ (i := 29) (N := some 111) (v := ?_) (a' := ?_) (fl 30 15) rfl rfl (any_of HT_.out kr) (fun _ _ _ h => h) (Or.inl ⟨by rfl, ?_⟩) ?_ ?_;rotate_left;(intro w';go_simp;with_reducible rfl);rotate_left;(simp only [Act.put,z0,z1,z2,i64_w,i32_w];rfl);refine pure_ (i := 30) (N := some 112) (v := undef) (a' := ?_) (fl 31 14) rfl rfl (any_of HT_.out kr) (fun _ _ _ h => h) (Or.inr ⟨by rfl, rfl⟩) ?_ ?_;rotate_left
        ·simp only [Act.put, z0,z1,z2,i64_w,i32_w];rfl
        refine pure_ (i := 31) (N := some 113) (v := undef) (a' := ?_) (fl 32 13) rfl rfl (any_of HT_.out kr) (fun _ _ _ h => h) (Or.inr ⟨by rfl, rfl⟩) ?_ ?_;rotate_left
        ·simp only [Act.put, z0,z1,z2,i64_w,i32_w];rfl
        refine pure_ (i := 32) (N := some 114) (v := undef) (a' := ?_) (fl 33 12) rfl rfl (any_of HT_.out kr) (fun _ _ _ h => h) (Or.inr ⟨by rfl, rfl⟩) ?_ ?_;rotate_left
        ·simp only [Act.put, z0,z1,z2,i64_w,i32_w];rfl
        refine pure_ (i := 33) (N := some 115) (v := undef) (a' := ?_) (fl 34 11) rfl rfl (any_of HT_.out kr) (fun _ _ _ h => h) (Or.inr ⟨by rfl, rfl⟩) ?_ ?_;rotate_left
        ·simp only [Act.put, z0,z1,z2,i64_w,i32_w];rfl
        refine pure_ (i := 34) (N := some 116) (v := ?_) (a' := ?_) (fl 35 10) rfl rfl (any_of HT_.out kr) (fun _ _ _ h => h) (Or.inl ⟨by rfl, ?_⟩) ?_ ?_;rotate_left;(intro w';go_simp;with_reducible rfl);rotate_left;(simp only [Act.put,z0,z1,z2,i64_w,i32_w];rfl);refine pure_ (i := 35) (N := some 117) (v := ?_) (a' := ?_) (fl 36 9) rfl rfl (any_of HT_.out kr) (fun _ _ _ h => h) (Or.inl ⟨by rfl, ?_⟩) ?_ ?_;rotate_left;(intro w';go_simp;with_reducible rfl);rotate_left;(simp only [Act.put,z0,z1,z2,i64_w,i32_w];rfl);refine pure_ (i := 36) (N := some 118) (v := undef) (a' := ?_) (fl 37 8) rfl rfl (any_of HT_.out kr) (fun _ _ _ h => h) (Or.inr ⟨by rfl, rfl⟩) ?_ ?_;rotate_left
        ·simp only [Act.put, z0,z1,z2,i64_w,i32_w];rfl
        refine pure_ (i := 37) (N := some 119) (v := undef) (a' := ?_) (fl 38 7) rfl rfl (any_of HT_.out kr) (fun _ _ _ h => h) (Or.inr ⟨by rfl, rfl⟩) ?_ ?_;rotate_left
        ·simp only [Act.put, z0,z1,z2,i64_w,i32_w];rfl
        refine pure_ (i := 38) (N := some 120) (v := undef) (a' := ?_) (fl 39 6) rfl rfl (any_of HT_.out kr) (fun _ _ _ h => h) (Or.inr ⟨by rfl, rfl⟩) ?_ ?_;rotate_left
        ·simp only [Act.put, z0,z1,z2,i64_w,i32_w];rfl
        refine pure_ (i := 39) (N := some 121) (v := undef) (a' := ?_) (fl 40 5) rfl rfl (any_of HT_.out kr) (fun _ _ _ h => h) (Or.inr ⟨by rfl, rfl⟩) ?_ ?_;rotate_left
        ·simp only [Act.put, z0,z1,z2,i64_w,i32_w];rfl
        refine pure_ (i := 40) (N := some 122) (v := undef) (a' := ?_) (fl 41 4) rfl rfl (any_of HT_.out kr) (fun _ _ _ h => h) (Or.inr ⟨by rfl, rfl⟩) ?_ ?_;rotate_left
        ·simp only [Act.put, z0,z1,z2,i64_w,i32_w];rfl
        refine pure_ (i := 41) (N := some 123) (v := undef) (a' := ?_) (fl 42 3) rfl rfl (any_of HT_.out kr) (fun _ _ _ h => h) (Or.inr ⟨by rfl, rfl⟩) ?_ ?_;rotate_left
        ·simp only [Act.put, z0,z1,z2,i64_w,i32_w];rfl
        refine pure_ (i := 42) (N := some 124) (v := undef) (a' := ?_) (fl 43 2) rfl rfl (any_of HT_.out kr) (fun _ _ _ h => h) (Or.inr ⟨by rfl, rfl⟩) ?_ ?_;rotate_left
        ·simp only [Act.put, z0,z1,z2,i64_w,i32_w];rfl
        refine pure_ (i := 43) (N := some 125) (v := ?_) (a' := ?_) (fl 44 1) rfl rfl (any_of HT_.out kr) (fun _ _ _ h => h) (Or.inl ⟨by rfl, ?_⟩) ?_ ?_;rotate_left;(intro w';go_simp;with_reducible rfl);rotate_left;(simp only [Act.put,z0,z1,z2,i64_w,i32_w];rfl);refine pure_ (i := 44) (N := some 2) (v := ?_) (a' := ?_) (fl 45 0) rfl rfl (any_of HT_.out kr) (fun _ _ _ h => h) (Or.inl ⟨by rfl, ?_⟩) ?_ ?_;rotate_left;(intro w';go_simp;with_reducible rfl);rotate_left;(simp only [Act.put,z0,z1,z2,i64_w,i32_w];rfl);refine done_ (done_of HT_.out kr) ?_
        try go_wp2
        go_ret
        exact ⟨by first | rfl | (simp [errW_none, errW_some] <;> rfl) | (simp [*, errW_none, errW_some] <;> rfl), by repeat (first | (with_reducible first | exact HB.out | apply XA | apply XN | apply XD | refine XS ?_ GE119.out) | exact HB.out)⟩
       ·refine pure_ (i := 17) (N := some 99) (v := ?_) (a' := ?_) (fl 18 27) rfl rfl (any_of HT_.out kr) (fun _ _ _ h => h) (Or.inl ⟨by rfl, ?_⟩) ?_ ?_;rotate_left;(intro w';go_simp;with_reducible rfl);rotate_left;(simp only [Act.put,z0,z1,z2,i64_w,i32_w];rfl);refine pure_ (i := 18) (N := some 100) (v := ?_) (a' := ?_) (fl 19 26) rfl rfl (any_of HT_.out kr) (fun _ _ _ h => h) (Or.inl ⟨by rfl, ?_⟩) ?_ ?_;rotate_left;(intro w';go_simp;with_reducible rfl);rotate_left;(simp only [Act.put,z0,z1,z2,i64_w,i32_w];rfl);refine pure_ (i := 19) (N := some 101) (v := undef) (a' := ?_) (fl 20 25) rfl rfl (any_of HT_.out kr) (fun _ _ _ h => h) (Or.inr ⟨by rfl, rfl⟩) ?_ ?_;rotate_left
        ·simp only [Act.put, z0,z1,z2,i64_w,i32_w];rfl
        refine pure_ (i := 20) (N := some 102) (v := undef) (a' := ?_) (fl 21 24) rfl rfl (any_of HT_.out kr) (fun _ _ _ h => h) (Or.inr ⟨by rfl, rfl⟩) ?_ ?_;rotate_left
        ·simp only [Act.put, z0,z1,z2,i64_w,i32_w];rfl
        refine pure_ (i := 21) (N := some 103) (v := undef) (a' := ?_) (fl 22 23) rfl rfl (any_of HT_.out kr) (fun _ _ _ h => h) (Or.inr ⟨by rfl, rfl⟩) ?_ ?_;rotate_left
        ·simp only [Act.put, z0,z1,z2,i64_w,i32_w];rfl
        refine pure_ (i := 22) (N := some 104) (v := ?_) (a' := ?_) (fl 23 22) rfl rfl (any_of HT_.out kr) (fun _ _ _ h => h) (Or.inl ⟨by rfl, ?_⟩) ?_ ?_;rotate_left;(intro w';go_simp;with_reducible rfl);rotate_left;(simp only [Act.put,z0,z1,z2,i64_w,i32_w];rfl);refine pure_ (i := 23) (N := some 105) (v := ?_) (a' := ?_) (fl 24 21) rfl rfl (any_of HT_.out kr) (fun _ _ _ h => h) (Or.inl ⟨by rfl, ?_⟩) ?_ ?_;rotate_left;(intro w';go_simp;with_reducible rfl);rotate_left;(simp only [Act.put,z0,z1,z2,i64_w,i32_w];rfl);refine pure_ (i := 24) (N := some 106) (v := undef) (a' := ?_) (fl 25 20) rfl rfl (any_of HT_.out kr) (fun _ _ _ h => h) (Or.inr ⟨by rfl, rfl⟩) ?_ ?_;rotate_left
        ·simp only [Act.put, z0,z1,z2,i64_w,i32_w];rfl
        refine pure_ (i := 25) (N := some 107) (v := undef) (a' := ?_) (fl 26 19) rfl rfl (any_of HT_.out kr) (fun _ _ _ h => h) (Or.inr ⟨by rfl, rfl⟩) ?_ ?_;rotate_left
        ·simp only [Act.put, z0,z1,z2,i64_w,i32_w];rfl
        refine pure_ (i := 26) (N := some 108) (v := undef) (a' := ?_) (fl 27 18) rfl rfl (any_of HT_.out kr) (fun _ _ _ h => h) (Or.inr ⟨by rfl, rfl⟩) ?_ ?_;rotate_left
        ·simp only [Act.put, z0,z1,z2,i64_w,i32_w];rfl
        refine pure_ (i := 27) (N := some 109) (v := undef) (a' := ?_) (fl 28 17) rfl rfl (any_of HT_.out kr) (fun _ _ _ h => h) (Or.inr ⟨by rfl, rfl⟩) ?_ ?_;rotate_left
        ·simp only [Act.put, z0,z1,z2,i64_w,i32_w];rfl
        refine pure_ (i := 28) (N := some 110) (v := ?_) (a' := ?_) (fl 29 16) rfl rfl (any_of HT_.out kr) (fun _ _ _ h => h) (Or.inl ⟨by rfl, ?_⟩) ?_ ?_;rotate_left;(intro w';go_simp;with_reducible rfl);rotate_left;(simp only [Act.put,z0,z1,z2,i64_w,i32_w];rfl);refine pure_ (i := 29) (N := some 111) (v := ?_) (a' := ?_) (fl 30 15) rfl rfl (any_of HT_.out kr) (fun _ _ _ h => h) (Or.inl ⟨by rfl, ?_⟩) ?_ ?_;rotate_left;(intro w';go_simp;with_reducible rfl);rotate_left;(simp only [Act.put,z0,z1,z2,i64_w,i32_w];rfl);refine pure_ (i := 30) (N := some 112) (v := undef) (a' := ?_) (fl 31 14) rfl rfl (any_of HT_.out kr) (fun _ _ _ h => h) (Or.inr ⟨by rfl, rfl⟩) ?_ ?_;rotate_left
        ·simp only [Act.put, z0,z1,z2,i64_w,i32_w];rfl
        refine pure_ (i := 31) (N := some 113) (v := undef) (a' := ?_) (fl 32 13) rfl rfl (any_of HT_.out kr) (fun _ _ _ h => h) (Or.inr ⟨by rfl, rfl⟩) ?_ ?_;rotate_left
        ·simp only [Act.put, z0,z1,z2,i64_w,i32_w];rfl
        refine pure_ (i := 32) (N := some 114) (v := undef) (a' := ?_) (fl 33 12) rfl rfl (any_of HT_.out kr) (fun _ _ _ h => h) (Or.inr ⟨by rfl, rfl⟩) ?_ ?_;rotate_left
        ·simp only [Act.put, z0,z1,z2,i64_w,i32_w];rfl
        refine pure_ (i := 33) (N := some 115) (v := undef) (a' := ?_) (fl 34 11) rfl rfl (any_of HT_.out kr) (fun _ _ _ h => h) (Or.inr ⟨by rfl, rfl⟩) ?_ ?_;rotate_left
        ·simp only [Act.put, z0,z1,z2,i64_w,i32_w];rfl
        refine pure_ (i := 34) (N := some 116) (v := ?_) (a' := ?_) (fl 35 10) rfl rfl (any_of HT_.out kr) (fun _ _ _ h => h) (Or.inl ⟨by rfl, ?_⟩) ?_ ?_;rotate_left;(intro w';go_simp;with_reducible rfl);rotate_left;(simp only [Act.put,z0,z1,z2,i64_w,i32_w];rfl);refine pure_ (i := 35) (N := some 117) (v := ?_) (a' := ?_) (fl 36 9) rfl rfl (any_of HT_.out kr) (fun _ _ _ h => h) (Or.inl ⟨by rfl, ?_⟩) ?_ ?_;rotate_left;(intro w';go_simp;with_reducible rfl);rotate_left;(simp only [Act.put,z0,z1,z2,i64_w,i32_w];rfl);refine pure_ (i := 36) (N := some 118) (v := undef) (a' := ?_) (fl 37 8) rfl rfl (any_of HT_.out kr) (fun _ _ _ h => h) (Or.inr ⟨by rfl, rfl⟩) ?_ ?_;rotate_left
        ·simp only [Act.put, z0,z1,z2,i64_w,i32_w];rfl
        refine pure_ (i := 37) (N := some 119) (v := undef) (a' := ?_) (fl 38 7) rfl rfl (any_of HT_.out kr) (fun _ _ _ h => h) (Or.inr ⟨by rfl, rfl⟩) ?_ ?_;rotate_left
        ·simp only [Act.put, z0,z1,z2,i64_w,i32_w];rfl
        refine pure_ (i := 38) (N := some 120) (v := undef) (a' := ?_) (fl 39 6) rfl rfl (any_of HT_.out kr) (fun _ _ _ h => h) (Or.inr ⟨by rfl, rfl⟩) ?_ ?_;rotate_left
        ·simp only [Act.put, z0,z1,z2,i64_w,i32_w];rfl
        refine pure_ (i := 39) (N := some 121) (v := undef) (a' := ?_) (fl 40 5) rfl rfl (any_of HT_.out kr) (fun _ _ _ h => h) (Or.inr ⟨by rfl, rfl⟩) ?_ ?_;rotate_left
        ·simp only [Act.put, z0,z1,z2,i64_w,i32_w];rfl
        refine pure_ (i := 40) (N := some 122) (v := undef) (a' := ?_) (fl 41 4) rfl rfl (any_of HT_.out kr) (fun _ _ _ h => h) (Or.inr ⟨by rfl, rfl⟩) ?_ ?_;rotate_left
        ·simp only [Act.put, z0,z1,z2,i64_w,i32_w];rfl
        refine pure_ (i := 41) (N := some 123) (v := undef) (a' := ?_) (fl 42 3) rfl rfl (any_of HT_.out kr) (fun _ _ _ h => h) (Or.inr ⟨by rfl, rfl⟩) ?_ ?_;rotate_left
        ·simp only [Act.put, z0,z1,z2,i64_w,i32_w];rfl
        refine pure_ (i := 42) (N := some 124) (v := undef) (a' := ?_) (fl 43 2) rfl rfl (any_of HT_.out kr) (fun _ _ _ h => h) (Or.inr ⟨by rfl, rfl⟩) ?_ ?_;rotate_left
        ·simp only [Act.put, z0,z1,z2,i64_w,i32_w];rfl
        refine pure_ (i := 43) (N := some 125) (v := ?_) (a' := ?_) (fl 44 1) rfl rfl (any_of HT_.out kr) (fun _ _ _ h => h) (Or.inl ⟨by rfl, ?_⟩) ?_ ?_;rotate_left;(intro w';go_simp;with_reducible rfl);rotate_left;(simp only [Act.put,z0,z1,z2,i64_w,i32_w];rfl);refine pure_ (i := 44) (N := some 2) (v := ?_) (a' := ?_) (fl 45 0) rfl rfl (any_of HT_.out kr) (fun _ _ _ h => h) (Or.inl ⟨by rfl, ?_⟩) ?_ ?_;rotate_left;(intro w';go_simp;with_reducible rfl);rotate_left;(simp only [Act.put,z0,z1,z2,i64_w,i32_w];rfl);refine done_ (done_of HT_.out kr) ?_
        try go_wp2
        go_ret
        exact ⟨by first | rfl | (simp [errW_none, errW_some] <;> rfl) | (simp [*, errW_none, errW_some] <;> rfl), by repeat (first | (with_reducible first | exact HB.out | apply XA | apply XN | apply XD | refine XS ?_ GE119.out) | exact HB.out)⟩
       ·refine pure_ (i := 22) (N := some 104) (v := ?_) (a' := ?_) (fl 23 22) rfl rfl (any_of HT_.out kr) (fun _ _ _ h => h) (Or.inl ⟨by rfl, ?_⟩) ?_ ?_;rotate_left;(intro w';go_simp;with_reducible rfl);rotate_left;(simp only [Act.put,z0,z1,z2,i64_w,i32_w];rfl);refine pure_ (i := 23) (N := some 105) (v := ?_) (a' := ?_) (fl 24 21) rfl rfl (any_of HT_.out kr) (fun _ _ _ h => h) (Or.inl ⟨by rfl, ?_⟩) ?_ ?_;rotate_left;(intro w';go_simp;with_reducible rfl);rotate_left;(simp only [Act.put,z0,z1,z2,i64_w,i32_w];rfl);refine pure_ (i := 24) (N := some 106) (v := undef) (a' := ?_) (fl 25 20) rfl rfl (any_of HT_.out kr) (fun _ _ _ h => h) (Or.inr ⟨by rfl, rfl⟩) ?_ ?_;rotate_left
        ·simp only [Act.put, z0,z1,z2,i64_w,i32_w];rfl
        refine pure_ (i := 25) (N := some 107) (v := undef) (a' := ?_) (fl 26 19) rfl rfl (any_of HT_.out kr) (fun _ _ _ h => h) (Or.inr ⟨by rfl, rfl⟩) ?_ ?_;rotate_left
        ·simp only [Act.put, z0,z1,z2,i64_w,i32_w];rfl
        refine pure_ (i := 26) (N := some 108) (v := undef) (a' := ?_) (fl 27 18) rfl rfl (any_of HT_.out kr) (fun _ _ _ h => h) (Or.inr ⟨by rfl, rfl⟩) ?_ ?_;rotate_left
        ·simp only [Act.put, z0,z1,z2,i64_w,i32_w];rfl
        refine pure_ (i := 27) (N := some 109) (v := undef) (a' := ?_) (fl 28 17) rfl rfl (any_of HT_.out kr) (fun _ _ _ h => h) (Or.inr ⟨by rfl, rfl⟩) ?_ ?_;rotate_left
        ·simp only [Act.put, z0,z1,z2,i64_w,i32_w];rfl
        refine pure_ (i := 28) (N := some 110) (v := ?_) (a' := ?_) (fl 29 16) rfl rfl (any_of HT_.out kr) (fun _ _ _ h => h) (Or.inl ⟨by rfl, ?_⟩) ?_ ?_;rotate_left;(intro w';go_simp;with_reducible rfl);rotate_left;(simp only [Act.put,z0,z1,z2,i64_w,i32_w];rfl);refine pure_ (i := 29) (N := some 111) (v := ?_) (a' := ?_) (fl 30 15) rfl rfl (any_of HT_.out kr) (fun _ _ _ h => h) (Or.inl ⟨by rfl, ?_⟩) ?_ ?_;rotate_left;(intro w';go_simp;with_reducible rfl);rotate_left;(simp only [Act.put,z0,z1,z2,i64_w,i32_w];rfl);refine pure_ (i := 30) (N := some 112) (v := undef) (a' := ?_) (fl 31 14) rfl rfl (any_of HT_.out kr) (fun _ _ _ h => h) (Or.inr ⟨by rfl, rfl⟩) ?_ ?_;rotate_left
        ·simp only [Act.put, z0,z1,z2,i64_w,i32_w];rfl
        refine pure_ (i := 31) (N := some 113) (v := undef) (a' := ?_) (fl 32 13) rfl rfl (any_of HT_.out kr) (fun _ _ _ h => h) (Or.inr ⟨by rfl, rfl⟩) ?_ ?_;rotate_left
        ·simp only [Act.put, z0,z1,z2,i64_w,i32_w];rfl
        refine pure_ (i := 32) (N := some 114) (v := undef) (a' := ?_) (fl 33 12) rfl rfl (any_of HT_.out kr) (fun _ _ _ h => h) (Or.inr ⟨by rfl, rfl⟩) ?_ ?_;rotate_left
        ·simp only [Act.put, z0,z1,z2,i64_w,i32_w];rfl
        refine pure_ (i := 33) (N := some 115) (v := undef) (a' := ?_) (fl 34 11) rfl rfl (any_of HT_.out kr) (fun _ _ _ h => h) (Or.inr ⟨by rfl, rfl⟩) ?_ ?_;rotate_left
        ·simp only [Act.put, z0,z1,z2,i64_w,i32_w];rfl
        refine pure_ (i := 34) (N := some 116) (v := ?_) (a' := ?_) (fl 35 10) rfl rfl (any_of HT_.out kr) (fun _ _ _ h => h) (Or.inl ⟨by rfl, ?_⟩) ?_ ?_;rotate_left;(intro w';go_simp;with_reducible rfl);rotate_left;(simp only [Act.put,z0,z1,z2,i64_w,i32_w];rfl);refine pure_ (i := 35) (N := some 117) (v := ?_) (a' := ?_) (fl 36 9) rfl rfl (any_of HT_.out kr) (fun _ _ _ h => h) (Or.inl ⟨by rfl, ?_⟩) ?_ ?_;rotate_left;(intro w';go_simp;with_reducible rfl);rotate_left;(simp only [Act.put,z0,z1,z2,i64_w,i32_w];rfl);refine pure_ (i := 36) (N := some 118) (v := undef) (a' := ?_) (fl 37 8) rfl rfl (any_of HT_.out kr) (fun _ _ _ h => h) (Or.inr ⟨by rfl, rfl⟩) ?_ ?_;rotate_left
        ·simp only [Act.put, z0,z1,z2,i64_w,i32_w];rfl
        refine pure_ (i := 37) (N := some 119) (v := undef) (a' := ?_) (fl 38 7) rfl rfl (any_of HT_.out kr) (fun _ _ _ h => h) (Or.inr ⟨by rfl, rfl⟩) ?_ ?_;rotate_left
        ·simp only [Act.put, z0,z1,z2,i64_w,i32_w];rfl
        refine pure_ (i := 38) (N := some 120) (v := undef) (a' := ?_) (fl 39 6) rfl rfl (any_of HT_.out kr) (fun _ _ _ h => h) (Or.inr ⟨by rfl, rfl⟩) ?_ ?_;rotate_left
        ·simp only [Act.put, z0,z1,z2,i64_w,i32_w];rfl
        refine pure_ (i := 39) (N := some 121) (v := undef) (a' := ?_) (fl 40 5) rfl rfl (any_of HT_.out kr) (fun _ _ _ h => h) (Or.inr ⟨by rfl, rfl⟩) ?_ ?_;rotate_left
        ·simp only [Act.put, z0,z1,z2,i64_w,i32_w];rfl
        refine pure_ (i := 40) (N := some 122) (v := undef) (a' := ?_) (fl 41 4) rfl rfl (any_of HT_.out kr) (fun _ _ _ h => h) (Or.inr ⟨by rfl, rfl⟩) ?_ ?_;rotate_left
        ·simp only [Act.put, z0,z1,z2,i64_w,i32_w];rfl
        refine pure_ (i := 41) (N := some 123) (v := undef) (a' := ?_) (fl 42 3) rfl rfl (any_of HT_.out kr) (fun _ _ _ h => h) (Or.inr ⟨by rfl, rfl⟩) ?_ ?_;rotate_left
        ·simp only [Act.put, z0,z1,z2,i64_w,i32_w];rfl
        refine pure_ (i := 42) (N := some 124) (v := undef) (a' := ?_) (fl 43 2) rfl rfl (any_of HT_.out kr) (fun _ _ _ h => h) (Or.inr ⟨by rfl, rfl⟩) ?_ ?_;rotate_left
        ·simp only [Act.put, z0,z1,z2,i64_w,i32_w];rfl
        refine pure_ (i := 43) (N := some 125) (v := ?_) (a' := ?_) (fl 44 1) rfl rfl (any_of HT_.out kr) (fun _ _ _ h => h) (Or.inl ⟨by rfl, ?_⟩) ?_ ?_;rotate_left;(intro w';go_simp;with_reducible rfl);rotate_left;(simp only [Act.put,z0,z1,z2,i64_w,i32_w];rfl);refine pure_ (i := 44) (N := some 2) (v := ?_) (a' := ?_) (fl 45 0) rfl rfl (any_of HT_.out kr) (fun _ _ _ h => h) (Or.inl ⟨by rfl, ?_⟩) ?_ ?_;rotate_left;(intro w';go_simp;with_reducible rfl);rotate_left;(simp only [Act.put,z0,z1,z2,i64_w,i32_w];rfl);refine done_ (done_of HT_.out kr) ?_
        try go_wp2
        go_ret
        exact ⟨by first | rfl | (simp [errW_none, errW_some] <;> rfl) | (simp [*, errW_none, errW_some] <;> rfl), by repeat (first | (with_reducible first | exact HB.out | apply XA | apply XN | apply XD | refine XS ?_ GE119.out) | exact HB.out)⟩
       ·refine pure_ (i := 22) (N := some 104) (v := ?_) (a' := ?_) (fl 23 22) rfl rfl (any_of HT_.out kr) (fun _ _ _ h => h) (Or.inl ⟨by rfl, ?_⟩) ?_ ?_;rotate_left;(intro w';go_simp;with_reducible rfl);rotate_left;(simp only [Act.put,z0,z1,z2,i64_w,i32_w];rfl);refine pure_ (i := 23) (N := some 105) (v := ?_) (a' := ?_) (fl 24 21) rfl rfl (any_of HT_.out kr) (fun _ _ _ h => h) (Or.inl ⟨by rfl, ?_⟩) ?_ ?_;rotate_left;(intro w';go_simp;with_reducible rfl);rotate_left;(simp only [Act.put,z0,z1,z2,i64_w,i32_w];rfl);refine pure_ (i := 24) (N := some 106) (v := ?_) (a' := ?_) (fl 25 20) rfl rfl (any_of HT_.out kr) (fun _ _ _ h => h) (Or.inl ⟨by rfl, ?_⟩) ?_ ?_;rotate_left;(intro w';go_simp;with_reducible rfl);rotate_left;(simp only [Act.put,z0,z1,z2,i64_w,i32_w];rfl);refine pure_ (i := 25) (N := some 107) (v := ?_) (a' := ?_) (fl 26 19) rfl rfl (any_of HT_.out kr) (fun _ _ _ h => h) (Or.inl ⟨by rfl, ?_⟩) ?_ ?_;rotate_left;(intro w';go_simp;with_reducible rfl);rotate_left;(simp only [Act.put,z0,z1,z2,i64_w,i32_w];rfl);refine take_ (i := 26) (N := some 108) (v := ?_) (a' := ?_) (fl 27 18) rfl rfl (take_ofW HT_.out HW_.out kr) (fun _ _ _ h => h) (Or.inl ⟨by rfl, ?_⟩) hHeld ?_ ?_;rotate_left;(rintro w' ⟨s0, s1, s2, s3, s4, s5, s6, s7, s8, s9⟩;go_simp;with_reducible rfl);rotate_left;(simp only [Act.put,z0,z1,z2,i64_w,i32_w];rfl);refine pure_ (i := 27) (N := some 109) (v := ?_) (a' := ?_) (fl 28 17) rfl rfl (any_of HT_.out kr) (fun _ _ _ h => h) (Or.inl ⟨by rfl, ?_⟩) ?_ ?_;rotate_left;(intro w';go_simp;with_reducible rfl);rotate_left;(simp only [Act.put,z0,z1,z2,i64_w,i32_w];rfl);refine pure_ (i := 28) (N := some 110) (v := ?_) (a' := ?_) (fl 29 16) rfl rfl (any_of HT_.out kr) (fun _ _ _ h => h) (Or.inl ⟨by rfl, ?_⟩) ?_ ?_;rotate_left;(intro w';go_simp;with_reducible rfl);rotate_left;(simp only [Act.put,z0,z1,z2,i64_w,i32_w];rfl);refine pure_ (i := 29) (N := some 111) (v := ?_) (a' := ?_) (fl 30 15) rfl rfl (any_of HT_.out kr) (fun _ _ _ h => h) (Or.inl ⟨by rfl, ?_⟩) ?_ ?_;rotate_left;(intro w';go_simp;with_reducible rfl);rotate_left;(simp only [Act.put,z0,z1,z2,i64_w,i32_w];rfl);refine pure_ (i := 30) (N := some 112) (v := undef) (a' := ?_) (fl 31 14) rfl rfl (any_of HT_.out kr) (fun _ _ _ h => h) (Or.inr ⟨by rfl, rfl⟩) ?_ ?_;rotate_left
        ·simp only [Act.put, z0,z1,z2,i64_w,i32_w];rfl
        refine pure_ (i := 31) (N := some 113) (v := undef) (a' := ?_) (fl 32 13) rfl rfl (any_of HT_.out kr) (fun _ _ _ h => h) (Or.inr ⟨by rfl, rfl⟩) ?_ ?_;rotate_left
        ·simp only [Act.put, z0,z1,z2,i64_w,i32_w];rfl
        refine pure_ (i := 32) (N := some 114) (v := undef) (a' := ?_) (fl 33 12) rfl rfl (any_of HT_.out kr) (fun _ _ _ h => h) (Or.inr ⟨by rfl, rfl⟩) ?_ ?_;rotate_left
        ·simp only [Act.put, z0,z1,z2,i64_w,i32_w];rfl
        refine pure_ (i := 33) (N := some 115) (v := undef) (a' := ?_) (fl 34 11) rfl rfl (any_of HT_.out kr) (fun _ _ _ h => h) (Or.inr ⟨by rfl, rfl⟩) ?_ ?_;rotate_left
        ·simp only [Act.put, z0,z1,z2,i64_w,i32_w];rfl
        refine pure_ (i := 34) (N := some 116) (v := ?_) (a' := ?_) (fl 35 10) rfl rfl (any_of HT_.out kr) (fun _ _ _ h => h) (Or.inl ⟨by rfl, ?_⟩) ?_ ?_;rotate_left;(intro w';go_simp;with_reducible rfl);rotate_left;(simp only [Act.put,z0,z1,z2,i64_w,i32_w];rfl);refine pure_ (i := 35) (N := some 117) (v := ?_) (a' := ?_) (fl 36 9) rfl rfl (any_of HT_.out kr) (fun _ _ _ h => h) (Or.inl ⟨by rfl, ?_⟩) ?_ ?_;rotate_left;(intro w';go_simp;with_reducible rfl);rotate_left;(simp only [Act.put,z0,z1,z2,i64_w,i32_w];rfl);refine pure_ (i := 36) (N := some 118) (v := undef) (a' := ?_) (fl 37 8) rfl rfl (any_of HT_.out kr) (fun _ _ _ h => h) (Or.inr ⟨by rfl, rfl⟩) ?_ ?_;rotate_left
        ·simp only [Act.put, z0,z1,z2,i64_w,i32_w];rfl
        refine pure_ (i := 37) (N := some 119) (v := undef) (a' := ?_) (fl 38 7) rfl rfl (any_of HT_.out kr) (fun _ _ _ h => h) (Or.inr ⟨by rfl, rfl⟩) ?_ ?_;rotate_left
        ·simp only [Act.put, z0,z1,z2,i64_w,i32_w];rfl
        refine pure_ (i := 38) (N := some 120) (v := undef) (a' := ?_) (fl 39 6) rfl rfl (any_of HT_.out kr) (fun _ _ _ h => h) (Or.inr ⟨by rfl, rfl⟩) ?_ ?_;rotate_left
        ·simp only [Act.put, z0,z1,z2,i64_w,i32_w];rfl
        refine pure_ (i := 39) (N := some 121) (v := undef) (a' := ?_) (fl 40 5) rfl rfl (any_of HT_.out kr) (fun _ _ _ h => h) (Or.inr ⟨by rfl, rfl⟩) ?_ ?_;rotate_left
        ·simp only [Act.put, z0,z1,z2,i64_w,i32_w];rfl
        refine pure_ (i := 40) (N := some 122) (v := undef) (a' := ?_) (fl 41 4) rfl rfl (any_of HT_.out kr) (fun _ _ _ h => h) (Or.inr ⟨by rfl, rfl⟩) ?_ ?_;rotate_left
        ·simp only [Act.put, z0,z1,z2,i64_w,i32_w];rfl
        refine pure_ (i := 41) (N := some 123) (v := undef) (a' := ?_) (fl 42 3) rfl rfl (any_of HT_.out kr) (fun _ _ _ h => h) (Or.inr ⟨by rfl, rfl⟩) ?_ ?_;rotate_left
        ·simp only [Act.put, z0,z1,z2,i64_w,i32_w];rfl
        refine pure_ (i := 42) (N := some 124) (v := undef) (a' := ?_) (fl 43 2) rfl rfl (any_of HT_.out kr) (fun _ _ _ h => h) (Or.inr ⟨by rfl, rfl⟩) ?_ ?_;rotate_left
        ·simp only [Act.put, z0,z1,z2,i64_w,i32_w];rfl
        refine pure_ (i := 43) (N := some 125) (v := ?_) (a' := ?_) (fl 44 1) rfl rfl (any_of HT_.out kr) (fun _ _ _ h => h) (Or.inl ⟨by rfl, ?_⟩) ?_ ?_;rotate_left;(intro w';go_simp;with_reducible rfl);rotate_left;(simp only [Act.put,z0,z1,z2,i64_w,i32_w];rfl);refine pure_ (i := 44) (N := some 2) (v := ?_) (a' := ?_) (fl 45 0) rfl rfl (any_of HT_.out kr) (fun _ _ _ h => h) (Or.inl ⟨by rfl, ?_⟩) ?_ ?_;rotate_left;(intro w';go_simp;with_reducible rfl);rotate_left;(simp only [Act.put,z0,z1,z2,i64_w,i32_w];rfl);refine done_ (done_of HT_.out kr) ?_
        try go_wp2
        go_ret
        exact ⟨by first | rfl | (simp [errW_none, errW_some] <;> rfl) | (simp [*, errW_none, errW_some] <;> rfl), by repeat (first | (with_reducible first | exact HB.out | apply XA | apply XN | apply XD | refine XS ?_ GE119.out) | exact HB.out)⟩
       ·refine pure_ (i := 22) (N := some 104) (v := ?_) (a' := ?_) (fl 23 22) rfl rfl (any_of HT_.out kr) (fun _ _ _ h => h) (Or.inl ⟨by rfl, ?_⟩) ?_ ?_;rotate_left;(intro w';go_simp;with_reducible rfl);rotate_left;(simp only [Act.put,z0,z1,z2,i64_w,i32_w];rfl);refine pure_ (i := 23) (N := some 105) (v := ?_) (a' := ?_) (fl 24 21) rfl rfl (any_of HT_.out kr) (fun _ _ _ h => h) (Or.inl ⟨by rfl, ?_⟩) ?_ ?_;rotate_left;(intro w';go_simp;with_reducible rfl);rotate_left;(simp only [Act.put,z0,z1,z2,i64_w,i32_w];rfl);refine pure_ (i := 24) (N := some 106) (v := ?_) (a' := ?_) (fl 25 20) rfl rfl (any_of HT_.out kr) (fun _ _ _ h => h) (Or.inl ⟨by rfl, ?_⟩) ?_ ?_;rotate_left;(intro w';go_simp;with_reducible rfl);rotate_left;(simp only [Act.put,z0,z1,z2,i64_w,i32_w];rfl);refine pure_ (i := 25) (N := some 107) (v := ?_) (a' := ?_) (fl 26 19) rfl rfl (any_of HT_.out kr) (fun _ _ _ h => h) (Or.inl ⟨by rfl, ?_⟩) ?_ ?_;rotate_left;(intro w';go_simp;with_reducible rfl);rotate_left;(simp only [Act.put,z0,z1,z2,i64_w,i32_w];rfl);refine take_ (i := 26) (N := some 108) (v := ?_) (a' := ?_) (fl 27 18) rfl rfl (take_ofW HT_.out HW_.out kr) (fun _ _ _ h => h) (Or.inl ⟨by rfl, ?_⟩) hHeld ?_ ?_;rotate_left;(rintro w' ⟨s0, s1, s2, s3, s4, s5, s6, s7, s8, s9⟩;go_simp;with_reducible rfl);rotate_left;(simp only [Act.put,z0,z1,z2,i64_w,i32_w];rfl);refine pure_ (i := 27) (N := some 109) (v := ?_) (a' := ?_) (fl 28 17) rfl rfl (any_of HT_.out kr) (fun _ _ _ h => h) (Or.inl ⟨by rfl, ?_⟩) ?_ ?_;rotate_left;(intro w';go_simp;with_reducible rfl);rotate_left;(simp only [Act.put,z0,z1,z2,i64_w,i32_w];rfl);refine pure_ (i := 28) (N := some 110) (v := ?_) (a' := ?_) (fl 29 16) rfl rfl (any_of HT_.out kr) (fun _ _ _ h => h) (Or.inl ⟨by rfl, ?_⟩) ?_ ?_;rotate_left;(intro w';go_simp;with_reducible rfl);rotate_left;(simp only [Act.put,z0,z1,z2,i64_w,i32_w];rfl);refine pure_ (i := 29) (N := some 111) (v := ?_) (a' := ?_) (fl 30 15) rfl rfl (any_of HT_.out kr) (fun _ _ _ h => h) (Or.inl ⟨by rfl, ?_⟩) ?_ ?_;rotate_left;(intro w';go_simp;with_reducible rfl);rotate_left;(simp only [Act.put,z0,z1,z2,i64_w,i32_w];rfl);refine pure_ (i := 30) (N := some 112) (v := ?_) (a' := ?_) (fl 31 14) rfl rfl (any_of HT_.out kr) (fun _ _ _ h => h) (Or.inl ⟨by rfl, ?_⟩) ?_ ?_;rotate_left;(intro w';go_simp;with_reducible rfl);rotate_left;(simp only [Act.put,z0,z1,z2,i64_w,i32_w];rfl);refine pure_ (i := 31) (N := some 113) (v := ?_) (a' := ?_) (fl 32 13) rfl rfl (any_of HT_.out kr) (fun _ _ _ h => h) (Or.inl ⟨by rfl, ?_⟩) ?_ ?_;rotate_left;(intro w';go_simp;with_reducible rfl);rotate_left;(simp only [Act.put,z0,z1,z2,i64_w,i32_w];rfl);refine take_ (i := 32) (N := some 114) (v := ?_) (a' := ?_) (fl 33 12) rfl rfl (take_ofW HT_.out HW_.out kr) (fun _ _ _ h => h) (Or.inl ⟨by rfl, ?_⟩) hHeld ?_ ?_;rotate_left;(rintro w' ⟨s0, s1, s2, s3, s4, s5, s6, s7, s8, s9⟩;go_simp;with_reducible rfl);rotate_left;(simp only [Act.put,z0,z1,z2,i64_w,i32_w];rfl);refine pure_ (i := 33) (N := some 115) (v := ?_) (a' := ?_) (fl 34 11) rfl rfl (any_of HT_.out kr) (fun _ _ _ h => h) (Or.inl ⟨by rfl, ?_⟩) ?_ ?_;rotate_left;(intro w';go_simp;with_reducible rfl);rotate_left;(simp only [Act.put,z0,z1,z2,i64_w,i32_w];rfl);refine pure_ (i := 34) (N := some 116) (v := ?_) (a' := ?_) (fl 35 10) rfl rfl (any_of HT_.out kr) (fun _ _ _ h => h) (Or.inl ⟨by rfl, ?_⟩) ?_ ?_;rotate_left;(intro w';go_simp;with_reducible rfl);rotate_left;(simp only [Act.put,z0,z1,z2,i64_w,i32_w];rfl);refine pure_ (i := 35) (N := some 117) (v := ?_) (a' := ?_) (fl 36 9) rfl rfl (any_of HT_.out kr) (fun _ _ _ h => h) (Or.inl ⟨by rfl, ?_⟩) ?_ ?_;rotate_left;(intro w';go_simp;with_reducible rfl);rotate_left;(simp only [Act.put,z0,z1,z2,i64_w,i32_w];rfl);refine pure_ (i := 36) (N := some 118) (v := undef) (a' := ?_) (fl 37 8) rfl rfl (any_of HT_.out kr) (fun _ _ _ h => h) (Or.inr ⟨by rfl, rfl⟩) ?_ ?_;rotate_left
        ·simp only [Act.put, z0,z1,z2,i64_w,i32_w];rfl
        refine pure_ (i := 37) (N := some 119) (v := undef) (a' := ?_) (fl 38 7) rfl rfl (any_of HT_.out kr) (fun _ _ _ h => h) (Or.inr ⟨by rfl, rfl⟩) ?_ ?_;rotate_left
        ·simp only [Act.put, z0,z1,z2,i64_w,i32_w];rfl
        refine pure_ (i := 38) (N := some 120) (v := undef) (a' := ?_) (fl 39 6) rfl rfl (any_of HT_.out kr) (fun _ _ _ h => h) (Or.inr ⟨by rfl, rfl⟩) ?_ ?_;rotate_left
        ·simp only [Act.put, z0,z1,z2,i64_w,i32_w];rfl
        refine pure_ (i := 39) (N := some 121) (v := undef) (a' := ?_) (fl 40 5) rfl rfl (any_of HT_.out kr) (fun _ _ _ h => h) (Or.inr ⟨by rfl, rfl⟩) ?_ ?_;rotate_left
        ·simp only [Act.put, z0,z1,z2,i64_w,i32_w];rfl
        refine pure_ (i := 40) (N := some 122) (v := undef) (a' := ?_) (fl 41 4) rfl rfl (any_of HT_.out kr) (fun _ _ _ h => h) (Or.inr ⟨by rfl, rfl⟩) ?_ ?_;rotate_left
        ·simp only [Act.put, z0,z1,z2,i64_w,i32_w];rfl
        refine pure_ (i := 41) (N := some 123) (v := undef) (a' := ?_) (fl 42 3) rfl rfl (any_of HT_.out kr) (fun _ _ _ h => h) (Or.inr ⟨by rfl, rfl⟩) ?_ ?_;rotate_left
        ·simp only [Act.put, z0,z1,z2,i64_w,i32_w];rfl
        refine pure_ (i := 42) (N := some 124) (v := undef) (a' := ?_) (fl 43 2) rfl rfl (any_of HT_.out kr) (fun _ _ _ h => h) (Or.inr ⟨by rfl, rfl⟩) ?_ ?_;rotate_left
        ·simp only [Act.put, z0,z1,z2,i64_w,i32_w];rfl
        refine pure_ (i := 43) (N := some 125) (v := ?_) (a' := ?_) (fl 44 1) rfl rfl (any_of HT_.out kr) (fun _ _ _ h => h) (Or.inl ⟨by rfl, ?_⟩) ?_ ?_;rotate_left;(intro w';go_simp;with_reducible rfl);rotate_left;(simp only [Act.put,z0,z1,z2,i64_w,i32_w];rfl);refine pure_ (i := 44) (N := some 2) (v := ?_) (a' := ?_) (fl 45 0) rfl rfl (any_of HT_.out kr) (fun _ _ _ h => h) (Or.inl ⟨by rfl, ?_⟩) ?_ ?_;rotate_left;(intro w';go_simp;with_reducible rfl);rotate_left;(simp only [Act.put,z0,z1,z2,i64_w,i32_w];rfl);refine done_ (done_of HT_.out kr) ?_
        try go_wp2
        go_ret
        exact ⟨by first | rfl | (simp [errW_none, errW_some] <;> rfl) | (simp [*, errW_none, errW_some] <;> rfl), by repeat (first | (with_reducible first | exact HB.out | apply XA | apply XN | apply XD | refine XS ?_ GE119.out) | exact HB.out)⟩
       ·refine pure_ (i := 22) (N := some 104) (v := ?_) (a' := ?_) (fl 23 22) rfl rfl (any_of HT_.out kr) (fun _ _ _ h => h) (Or.inl ⟨by rfl, ?_⟩) ?_ ?_;rotate_left;(intro w';go_simp;with_reducible rfl);rotate_left;(simp only [Act.put,z0,z1,z2,i64_w,i32_w];rfl);refine pure_ (i := 23) (N := some 105) (v := ?_) (a' := ?_) (fl 24 21) rfl rfl (any_of HT_.out kr) (fun _ _ _ h => h) (Or.inl ⟨by rfl, ?_⟩) ?_ ?_;rotate_left;(intro w';go_simp;with_reducible rfl);rotate_left;(simp only [Act.put,z0,z1,z2,i64_w,i32_w];rfl);refine pure_ (i := 24) (N := some 106) (v := ?_) (a' := ?_) (fl 25 20) rfl rfl (any_of HT_.out kr) (fun _ _ _ h => h) (Or.inl ⟨by rfl, ?_⟩) ?_ ?_;rotate_left;(intro w';go_simp;with_reducible rfl);rotate_left;(simp only [Act.put,z0,z1,z2,i64_w,i32_w];rfl);refine pure_ (i := 25) (N := some 107) (v := ?_) (a' := ?_) (fl 26 19) rfl rfl (any_of HT_.out kr) (fun _ _ _ h => h) (Or.inl ⟨by rfl, ?_⟩) ?_ ?_;rotate_left;(intro w';go_simp;with_reducible rfl);rotate_left;(simp only [Act.put,z0,z1,z2,i64_w,i32_w];rfl);refine take_ (i := 26) (N := some 108) (v := ?_) (a' := ?_) (fl 27 18) rfl rfl (take_ofW HT_.out HW_.out kr) (fun _ _ _ h => h) (Or.inl ⟨by rfl, ?_⟩) hHeld ?_ ?_;rotate_left;(rintro w' ⟨s0, s1, s2, s3, s4, s5, s6, s7, s8, s9⟩;go_simp;with_reducible rfl);rotate_left;(simp only [Act.put,z0,z1,z2,i64_w,i32_w];rfl);refine pure_ (i := 27) (N := some 109) (v := ?_) (a' := ?_) (fl 28 17) rfl rfl (any_of HT_.out kr) (fun _ _ _ h => h) (Or.inl ⟨by rfl, ?_⟩) ?_ ?_;rotate_left;(intro w';go_simp;with_reducible rfl);rotate_left;(simp only [Act.put,z0,z1,z2,i64_w,i32_w];rfl);refine pure_ (i := 28) (N := some 110) (v := ?_) (a' := ?_) (fl 29 16) rfl rfl (any_of HT_.out kr) (fun _ _ _ h => h) (Or.inl ⟨by rfl, ?_⟩) ?_ ?_;rotate_left;(intro w';go_simp;with_reducible rfl);rotate_left;(simp only [Act.put,z0,z1,z2,i64_w,i32_w];rfl);refine pure_ (i := 29) (N := some 111) (v := ?_) (a' := ?_) (fl 30 15) rfl rfl (any_of HT_.out kr) (fun _ _ _ h => h) (Or.inl ⟨by rfl, ?_⟩) ?_ ?_;rotate_left;(intro w';go_simp;with_reducible rfl);rotate_left;(simp only [Act.put,z0,z1,z2,i64_w,i32_w];rfl);refine pure_ (i := 30) (N := some 112) (v := ?_) (a' := ?_) (fl 31 14) rfl rfl (any_of HT_.out kr) (fun _ _ _ h => h) (Or.inl ⟨by rfl, ?_⟩) ?_ ?_;rotate_left;(intro w';go_simp;with_reducible rfl);rotate_left;(simp only [Act.put,z0,z1,z2,i64_w,i32_w];rfl);refine pure_ (i := 31) (N := some 113) (v := ?_) (a' := ?_) (fl 32 13) rfl rfl (any_of HT_.out kr) (fun _ _ _ h => h) (Or.inl ⟨by rfl, ?_⟩) ?_ ?_;rotate_left;(intro w';go_simp;with_reducible rfl);rotate_left;(simp only [Act.put,z0,z1,z2,i64_w,i32_w];rfl);refine take_ (i := 32) (N := some 114) (v := ?_) (a' := ?_) (fl 33 12) rfl rfl (take_ofW HT_.out HW_.out kr) (fun _ _ _ h => h) (Or.inl ⟨by rfl, ?_⟩) hHeld ?_ ?_;rotate_left;(rintro w' ⟨s0, s1, s2, s3, s4, s5, s6, s7, s8, s9⟩;go_simp;with_reducible rfl);rotate_left;(simp only [Act.put,z0,z1,z2,i64_w,i32_w];rfl);refine pure_ (i := 33) (N := some 115) (v := ?_) (a' := ?_) (fl 34 11) rfl rfl (any_of HT_.out kr) (fun _ _ _ h => h) (Or.inl ⟨by rfl, ?_⟩) ?_ ?_;rotate_left;(intro w';go_simp;with_reducible rfl);rotate_left;(simp only [Act.put,z0,z1,z2,i64_w,i32_w];rfl);refine pure_ (i := 34) (N := some 116) (v := ?_) (a' := ?_) (fl 35 10) rfl rfl (any_of HT_.out kr) (fun _ _ _ h => h) (Or.inl ⟨by rfl, ?_⟩) ?_ ?_;rotate_left;(intro w';go_simp;with_reducible rfl);rotate_left;(simp only [Act.put,z0,z1,z2,i64_w,i32_w];rfl);refine pure_ (i := 35) (N := some 117) (v := ?_) (a' := ?_) (fl 36 9) rfl rfl (any_of HT_.out kr) (fun _ _ _ h => h) (Or.inl ⟨by rfl, ?_⟩) ?_ ?_;rotate_left;(intro w';go_simp;with_reducible rfl);rotate_left;(simp only [Act.put,z0,z1,z2,i64_w,i32_w];rfl);refine pure_ (i := 36) (N := some 118) (v := ?_) (a' := ?_) (fl 37 8) rfl rfl (any_of HT_.out kr) (fun _ _ _ h => h) (Or.inl ⟨by rfl, ?_⟩) ?_ ?_;rotate_left;(intro w';go_simp;with_reducible rfl);rotate_left;(simp only [Act.put,z0,z1,z2,i64_w,i32_w];rfl);refine pure_ (i := 39) (N := some 121) (v := ?_) (a' := ?_) #[Y,Y,Y,Y,Y,Y,Y,Y,Y,Y,Y,Y,Y,Y,Y,Y,Y,Y,Y,Y,Y,Y,Y,Y,Y,Y,Y,Y,Y,Y,Y,Y,Y,Y,Y,Y,Y,O,O,Y,O,O,O,O,O] rfl rfl (any_of HT_.out kr) (fun _ _ _ h => h) (Or.inl ⟨by rfl, ?_⟩) ?_ ?_;rotate_left;(intro w';go_simp;with_reducible rfl);rotate_left;(simp only [Act.put,z0,z1,z2,i64_w,i32_w];rfl);refine take_ (i := 37) (N := some 119) (v := ?_) (a' := ?_) #[Y,Y,Y,Y,Y,Y,Y,Y,Y,Y,Y,Y,Y,Y,Y,Y,Y,Y,Y,Y,Y,Y,Y,Y,Y,Y,Y,Y,Y,Y,Y,Y,Y,Y,Y,Y,Y,Y,O,Y,O,O,O,O,O] rfl rfl (take_ofW HT_.out HW_.out kr) (fun _ _ _ h => h) (Or.inl ⟨by rfl, ?_⟩) hHeld ?_ ?_;rotate_left;(rintro w' ⟨s0, s1, s2, s3, s4, s5, s6, s7, s8, s9⟩;go_simp;with_reducible rfl);rotate_left;(simp only [Act.put,z0,z1,z2,i64_w,i32_w];rfl);refine take_ (i := 40) (N := some 122) (v := ?_) (a' := ?_) #[Y,Y,Y,Y,Y,Y,Y,Y,Y,Y,Y,Y,Y,Y,Y,Y,Y,Y,Y,Y,Y,Y,Y,Y,Y,Y,Y,Y,Y,Y,Y,Y,Y,Y,Y,Y,Y,Y,O,Y,Y,O,O,O,O] rfl rfl (take_ofW HT_.out HW_.out kr) (fun _ _ _ h => h) (Or.inl ⟨by rfl, ?_⟩) hHeld ?_ ?_;rotate_left;(rintro w' ⟨s0, s1, s2, s3, s4, s5, s6, s7, s8, s9⟩;go_simp;with_reducible rfl);rotate_left;(simp only [Act.put,z0,z1,z2,i64_w,i32_w];rfl);refine one_ (i := 38) (N := some 120) (fl 41 4) rfl rfl (one_of HT_.out kr) (by decide) (fun K hK => ?_);refine goes_ Tryz.func24 kr rfl #[.agg #[.int .i64 a0_4, .int .i64 a0_5, .int .i64 a0_6]] (by rfl) rfl rfl sa ?_
        with_reducible refine (r4_Days.calls kj10 a0_4 a0_5 a0_6 _ _ A51.out).mono ?_
        rintro e w57 ⟨rfl, hb⟩;refine ⟨_, rfl, ?_⟩;replace BK119 := As (YB (g := gb119) (o := .cells #[.int .i64 a0_0, .int .i64 a0_1, .int .i64 a0_2, .int .i64 a0_3, .int .i64 a0_4, .int .i64 a0_5, .int .i64 a0_6, .int .i64 a0_7, .int .i64 a0_8, .int .i64 a0_9] 25 (0, 0)) (bk BK119.out) hb);replace HB := As (XT (be HB.out) hb)
        (try clear hb)
        (try clear hb2)
        (try clear hk)
        (try clear hi)
        refine hK.out _ _ (cy10 BK119.out) (fun hHeld => ?_);clear hK K;refine norm_ (a' := ?_) ?_ ?_;rotate_left
        ·show Act.put _ (some 120) _ = _
         simp only [Act.put, z0,z1,z2,i64_w,i32_w];rfl
        refine one_ (i := 41) (N := some 123) (fl 42 3) rfl rfl (one_of HT_.out kr) (by decide) (fun K hK => ?_);refine goes_ Tryz.func24 kr rfl #[.agg #[.int .i64 a0_7, .int .i64 a0_8, .int .i64 a0_9]] (by rfl) rfl rfl sa ?_
        with_reducible refine (r4_Days.calls kj10 a0_7 a0_8 a0_9 _ _ A52.out).mono ?_
        rintro e w58 ⟨rfl, hb⟩;refine ⟨_, rfl, ?_⟩;replace BK119 := As (YB (g := gb119) (o := .cells #[.int .i64 a0_0, .int .i64 a0_1, .int .i64 a0_2, .int .i64 a0_3, .int .i64 a0_4, .int .i64 a0_5, .int .i64 a0_6, .int .i64 a0_7, .int .i64 a0_8, .int .i64 a0_9] 25 (0, 0)) (bk BK119.out) hb);replace HB := As (XT (be HB.out) hb)
        (try clear hb)
        (try clear hb2)
        (try clear hk)
        (try clear hi)
        refine hK.out _ _ (cy10 BK119.out) (fun hHeld => ?_);clear hK K;refine norm_ (a' := ?_) ?_ ?_;rotate_left
        ·show Act.put _ (some 123) _ = _
         simp only [Act.put, z0,z1,z2,i64_w,i32_w];rfl
        refine pure_ (i := 42) (N := some 124) (v := ?_) (a' := ?_) (fl 43 2) rfl rfl (any_of HT_.out kr) (fun _ _ _ h => h) (Or.inl ⟨by rfl, ?_⟩) ?_ ?_;rotate_left;(intro w';go_simp;with_reducible rfl);rotate_left;(simp only [Act.put,z0,z1,z2,i64_w,i32_w];rfl);refine pure_ (i := 43) (N := some 125) (v := ?_) (a' := ?_) (fl 44 1) rfl rfl (any_of HT_.out kr) (fun _ _ _ h => h) (Or.inl ⟨by rfl, ?_⟩) ?_ ?_;rotate_left;(intro w';go_simp;with_reducible rfl);rotate_left;(simp only [Act.put,z0,z1,z2,i64_w,i32_w];rfl);refine pure_ (i := 44) (N := some 2) (v := ?_) (a' := ?_) (fl 45 0) rfl rfl (any_of HT_.out kr) (fun _ _ _ h => h) (Or.inl ⟨by rfl, ?_⟩) ?_ ?_;rotate_left;(intro w';go_simp;with_reducible rfl);rotate_left;(simp only [Act.put,z0,z1,z2,i64_w,i32_w];rfl);refine done_ (done_of HT_.out kr) ?_
        try go_wp2
        go_ret
        exact ⟨by first | rfl | (simp [errW_none, errW_some] <;> rfl) | (simp [*, errW_none, errW_some] <;> rfl), by repeat (first | (with_reducible first | exact HB.out | apply XA | apply XN | apply XD | refine XS ?_ GE119.out) | exact HB.out)⟩

end Go.Proofs.YtpagbmkdphdjoaaGreatDoor.P
-- SHRUNK
-- PACKED
-- PACKED2
