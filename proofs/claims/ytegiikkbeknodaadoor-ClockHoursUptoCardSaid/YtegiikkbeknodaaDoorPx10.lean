-- written by myprint.py (this claim's own program, after the kit's print)
import Derived.Test.YtegiikkbeknodaaDoorPx0
import Derived.Test.YtegiikkbeknodaaDoorPack
namespace Go.Proofs.YtegiikkbeknodaaDoor.P
open Go.RowKit Go.Proofs.YtegiikkbeknodaaDoorW.PrintWords Go.Proofs.YtegiikkbeknodaaDoorW.PrintLast Go.Proofs.YtegiikkbeknodaaDoorW.PrintMore
attribute [local go_sem] max2_int min2_int max_two min_two max_three min_three max_four min_four   -- for this text's walks alone
set_option linter.unusedVariables false
set_option linter.unusedSimpArgs false

theorem wq (x y : Int) : wrap64 (wrap64 (10 * wrap64 (x % 256)) + wrap64 (y % 256)) = 10 * (x % 256) + y % 256 := by unfold wrap64; omega
/-! ### r5_Parse: function 22 -/
mutual
def r5_Parse.j0 : Nat → ByteArray → Bool → Option (Int × Int)
 | 0, _, _ => none
 | k + 1, x0, x15 => if x15 = true then (some (0, 3)) else (r5_Parse.l0 k x0 0)
def r5_Parse.l0 : Nat → ByteArray → Int → Option (Int × Int)
 | 0, _, _ => none
 | k + 1, x0, x4 => if x4 < (x0.size : Int) then (if (Int.tmod x4 3) = 2 then (if 0 ≤ x4 then (if (bt x0 x4) = 58 then (r5_Parse.l0 k x0 (wrap64 (x4 + 1))) else (some (0, 3))) else (none)) else (if 0 ≤ x4 then (if (bt x0 x4) < 48 then (some (0, 3)) else (if (bt x0 x4) > 57 then (some (0, 3)) else (r5_Parse.l0 k x0 (wrap64 (x4 + 1))))) else (none))) else (r5_Parse.l1 k x0 0 0 0 0)
def r5_Parse.l1 : Nat → ByteArray → Int → Int → Int → Int → Option (Int × Int)
 | 0, _, _, _, _, _ => none
 | k + 1, x0, x6, x146000, x146001, x146002 => if (wrap64 (3 * x6)) < (x0.size : Int) then (if 0 ≤ (wrap64 (3 * x6)) then (if 0 ≤ (wrap64 ((wrap64 (3 * x6)) + 1)) then (if (wrap64 ((wrap64 (3 * x6)) + 1)) < (x0.size : Int) then (if x6 = (0 : Int) then (r5_Parse.l1 k x0 (wrap64 (x6 + 1)) ((10 * (((bt x0 (wrap64 (3 * x6))) - 48) % 256)) + (((bt x0 (wrap64 ((wrap64 (3 * x6)) + 1))) - 48) % 256)) x146001 x146002) else (if x6 = (1 : Int) then (r5_Parse.l1 k x0 (wrap64 (x6 + 1)) x146000 ((10 * (((bt x0 (wrap64 (3 * x6))) - 48) % 256)) + (((bt x0 (wrap64 ((wrap64 (3 * x6)) + 1))) - 48) % 256)) x146002) else (if x6 = (2 : Int) then (r5_Parse.l1 k x0 (wrap64 (x6 + 1)) x146000 x146001 ((10 * (((bt x0 (wrap64 (3 * x6))) - 48) % 256)) + (((bt x0 (wrap64 ((wrap64 (3 * x6)) + 1))) - 48) % 256))) else (none)))) else (none)) else (none)) else (none)) else (if x146001 > 59 then (some (0, 3)) else (if x146002 > 59 then (some (0, 3)) else (if (wrap64 ((wrap64 ((wrap64 (3600 * x146000)) + (wrap64 (60 * x146001)))) + x146002)) > 86400 then (some (0, 3)) else (some (wrap64 ((wrap64 ((wrap64 (3600 * x146000)) + (wrap64 (60 * x146001)))) + x146002), 0)))))
end
def r5_Parse.f (k : Nat) (a0 : ByteArray) : Option (Int × Int) := if (a0.size : Int) = 5 then (r5_Parse.j0 k a0 false) else (r5_Parse.j0 k a0 ((a0.size : Int) != 8))
theorem r5_Parse.mono_l : ∀ k, (∀ y0 y1, LeO (r5_Parse.j0 k y0 y1) (r5_Parse.j0 (k + 1) y0 y1)) ∧ (∀ y0 y1, LeO (r5_Parse.l0 k y0 y1) (r5_Parse.l0 (k + 1) y0 y1)) ∧ (∀ y0 y1 y2 y3 y4, LeO (r5_Parse.l1 k y0 y1 y2 y3 y4) (r5_Parse.l1 (k + 1) y0 y1 y2 y3 y4))
 | 0 => ⟨fun _ _ r h => by simp [r5_Parse.j0] at h, fun _ _ r h => by simp [r5_Parse.l0] at h, fun _ _ _ _ _ r h => by simp [r5_Parse.l1] at h⟩
 | k + 1 => by
  obtain ⟨ih0, ih1, ih2⟩ := r5_Parse.mono_l k;refine ⟨?_, ?_, ?_⟩
  ·intro y0 y1;unfold r5_Parse.j0
   repeat' first
   | (with_reducible exact ih0 _ _)
   | (with_reducible exact ih1 _ _)
   | (with_reducible exact ih2 _ _ _ _ _)
   | (with_reducible exact LeO.refl _)
   | (with_reducible exact LeO.none _)
   | (with_reducible refine LeO.ite ?_ ?_)
   | (with_reducible refine LeO.bind ?_ (fun _ => ?_))
   | exact ih0 _ _
   | exact ih1 _ _
   | exact ih2 _ _ _ _ _
   | exact LeO.none _
   | refine LeO.ite ?_ ?_
   | refine LeO.bind ?_ (fun _ => ?_)
  ·intro y0 y1;unfold r5_Parse.l0
   repeat' first
   | (with_reducible exact ih0 _ _)
   | (with_reducible exact ih1 _ _)
   | (with_reducible exact ih2 _ _ _ _ _)
   | (with_reducible exact LeO.refl _)
   | (with_reducible exact LeO.none _)
   | (with_reducible refine LeO.ite ?_ ?_)
   | (with_reducible refine LeO.bind ?_ (fun _ => ?_))
   | exact ih0 _ _
   | exact ih1 _ _
   | exact ih2 _ _ _ _ _
   | exact LeO.none _
   | refine LeO.ite ?_ ?_
   | refine LeO.bind ?_ (fun _ => ?_)
  ·intro y0 y1 y2 y3 y4;unfold r5_Parse.l1
   repeat' first
   | (with_reducible exact ih0 _ _)
   | (with_reducible exact ih1 _ _)
   | (with_reducible exact ih2 _ _ _ _ _)
   | (with_reducible exact LeO.refl _)
   | (with_reducible exact LeO.none _)
   | (with_reducible refine LeO.ite ?_ ?_)
   | (with_reducible refine LeO.bind ?_ (fun _ => ?_))
   | exact ih0 _ _
   | exact ih1 _ _
   | exact ih2 _ _ _ _ _
   | exact LeO.none _
   | refine LeO.ite ?_ ?_
   | refine LeO.bind ?_ (fun _ => ?_)
theorem r5_Parse.mono : ∀ a0 k, LeO (r5_Parse.f k a0) (r5_Parse.f (k + 1) a0) := by
 intro a0 k;obtain ⟨ih0, ih1, ih2⟩ := r5_Parse.mono_l k;unfold r5_Parse.f
 repeat' first
   | (with_reducible exact ih0 _ _)
   | (with_reducible exact ih1 _ _)
   | (with_reducible exact ih2 _ _ _ _ _)
   | (with_reducible exact LeO.refl _)
   | (with_reducible exact LeO.none _)
   | (with_reducible refine LeO.ite ?_ ?_)
   | (with_reducible refine LeO.bind ?_ (fun _ => ?_))
   | exact ih0 _ _
   | exact ih1 _ _
   | exact ih2 _ _ _ _ _
   | exact LeO.none _
   | refine LeO.ite ?_ ?_
   | refine LeO.bind ?_ (fun _ => ?_)
def r5_Parse.T12 : Bool × List (List Nat × List Nat) := (true, [([], []), ([], []), ([], []), ([2], [2]), ([1, 3], [1, 3]), ([4], [4]), ([5], [5]), ([6], [6]), ([], []), ([], []), ([9], [9]), ([10], [10]), ([8, 11], [8, 11]), ([12], [12]), ([13], [13]), ([7, 14], [7, 14]), ([0, 0, 1, 2, 3, 4, 5, 6, 7, 8, 9, 10, 11, 12, 13, 14, 15], [0]), ([16, 15, 0, 1, 2, 3, 4, 5, 6, 7, 8, 9, 10, 11, 12, 13, 14, 15], [15, 16])])
def r5_Parse.B12 : List Nat := [0, 0, 0, 4, 14, 30, 62, 126, 0, 0, 512, 1536, 3840, 7936, 16128, 32766, 65535, 131071]
theorem r5_Parse.tab12 : rtab .any (opsOf Tryd.f22 12) = r5_Parse.T12 := by kernel_rfl
theorem r5_Parse.bits12 : waitsOk r5_Parse.T12.2 r5_Parse.B12 = true := by kernel_rfl
set_option maxHeartbeats 8000000 in
set_option maxRecDepth 100000 in
theorem r5_Parse.calls (k : Nat) (a0 : ByteArray) (r1 : Int) (r2 : Int) (w : World) (h : r5_Parse.f k a0 = some (r1, r2)) :
  Calls Tryd.prog 22 #[.string a0] w fun e w' => e = .returned (.tuple #[.int .i64 r1, .int .i64 r2]) ∧ Below w.heap.size w w' := by
 have hu67 := Tryd.underlying67;have HB := As (Below.refl w.heap.size w);have H : (if (a0.size : Int) = 5 then (r5_Parse.j0 k a0 false) else (r5_Parse.j0 k a0 ((a0.size : Int) != 8))) = some (r1, r2) := h;clear h;have HC2 := As H;clear H
 go_enter Tryd.func22, Tryd.ntmps22
 go_upto_region 1 with (fail)
 go_cut [15] (fun v15 wc => ∃ (kq : Nat) (x15_1 : Bool), v15 = .bool x15_1 ∧ Aside0 (r5_Parse.j0 kq a0 x15_1 = some (r1, r2)) ∧ Aside0 (kq ≤ k) ∧ Aside0 (Below w.heap.size w wc))
 case first =>
  have H := HC2.out;clear HC2
  by_cases c3 : (a0.size : Int) = 5
  ·rw [if_pos c3] at H;have c3b0 : ((a0.size : Int) == 5) = true := beq_iff_eq.mpr c3;have c3b1 : ((a0.size : Int) != 5) = false := bne_eq_false_iff_eq.mpr c3;clear c3
   (first | rw [c3b0] | (simp only [i64_w, i32_w]; rw [c3b0]) | skip)
   have H' := As H;clear H
   go_wp2
   go_meet
   case rel => exact ⟨_, (false), sw, H', ⟨by first | omega | exact Nat.le_refl _⟩, ⟨by repeat (first | (with_reducible first | exact HB.out | apply XA | apply XN | apply XD) | exact HB.out)⟩⟩
  ·rw [if_neg c3] at H;have c3b0 : ((a0.size : Int) == 5) = false := beq_eq_false_iff_ne.mpr c3;have c3b1 : ((a0.size : Int) != 5) = true := bne_iff_ne.mpr c3
   (first | rw [c3b0] | (simp only [i64_w, i32_w]; rw [c3b0]) | skip)
   have H' := As H;clear H
   go_wp2
   go_meet
   case rel => exact ⟨_, (((a0.size : Int) != 8)), sw, H', ⟨by first | omega | exact Nat.le_refl _⟩, ⟨by repeat (first | (with_reducible first | exact HB.out | apply XA | apply XN | apply XD) | exact HB.out)⟩⟩
 case rest =>
  clear HC2
  try clear c2
  try clear p2
  try clear c3
  try clear c3b0
  try clear c3b1
  obtain ⟨kq, x15_1, rfl, HA, HJ1, HB⟩ := hcut
  cases kq with
  | zero => exact absurd HA.out (by simp [r5_Parse.j0])
  | succ kj1 =>
   have H := HA.out;clear HA;simp only [r5_Parse.j0] at H
   by_cases c4 : x15_1 = true
   ·subst c4
    have H1 : (some (0, 3)) = some (r1, r2) := by rw [if_pos rfl] at H; exact H
    clear H;have H := H1;clear H1;simp only [Option.some.injEq, Prod.mk.injEq] at H;obtain ⟨rfl, rfl⟩ := H
    go_wp2
    go_ret2
    exact ⟨by first | rfl | (simp [errW_none, errW_some] <;> rfl) | (simp [*, errW_none, errW_some] <;> rfl), by repeat (first | (with_reducible first | exact HB.out | apply XA | apply XN | apply XD) | exact HB.out)⟩
   ·replace c4 := Bool.eq_false_iff.mpr c4;subst c4
    have H1 : (r5_Parse.l0 kj1 a0 0) = some (r1, r2) := by rw [if_neg (show ¬ (false = true) by decide)] at H; exact H
    clear H;have H := H1;clear H1;have H' := As H;clear H
    go_wp2
    go_loopg [4] kj1 (fun kq v4 w' => ∃ (x4_2 : Int), v4 = .int .i64 x4_2 ∧ Aside0 (r5_Parse.l0 kq a0 x4_2 = some (r1, r2)) ∧ Aside0 (kq ≤ kj1) ∧ Aside0 (Below w.heap.size w w'))
    case atStart => exact ⟨(0), sw, H', ⟨Nat.le_refl _⟩, ⟨by repeat (first | (with_reducible first | exact HB.out | apply XA | apply XN | apply XD) | exact HB.out)⟩⟩
    case round =>
     clear H'
     try clear c2
     try clear p2
     try clear c3
     try clear c3b0
     try clear c3b1
     try clear c4
     try clear p2
     obtain ⟨x4_2, rfl, HA, HK2, HB⟩ := hrel
     cases gk with
     | zero => exact absurd HA.out (by simp [r5_Parse.l0])
     | succ k2 =>
      have H := HA.out;clear HA;simp only [r5_Parse.l0] at H
      by_cases c5 : x4_2 < (a0.size : Int)
      focus
       rw [if_pos c5] at H;have c5b0 : decide (x4_2 < (a0.size : Int)) = true := dY c5;clear c5
       by_cases c6 : (Int.tmod x4_2 3) = 2
       focus
        rw [if_pos c6] at H;have c6b0 : ((Int.tmod x4_2 3) == 2) = true := beq_iff_eq.mpr c6;have c6b1 : ((Int.tmod x4_2 3) != 2) = false := bne_eq_false_iff_eq.mpr c6;clear c6
        by_cases c7 : 0 ≤ x4_2
        rotate_left
        ·rw [if_neg c7] at H;exact absurd H (by simp)
        rw [if_pos c7] at H;have c7b0 : decide (0 ≤ x4_2) = true := dY c7;clear c7
        by_cases c9 : (bt a0 x4_2) = 58
        rw [if_pos c9] at H;have c9b0 : ((bt a0 x4_2) == 58) = true := beq_iff_eq.mpr c9;have c9b1 : ((bt a0 x4_2) != 58) = false := bne_eq_false_iff_eq.mpr c9;clear c9;have H' := As H;clear H;have p8 : 0 ≤ (x4_2 : Int) := dT hy;have q8 : x4_2 < (a0.size : Int) := dT hy;have hx8 := bt_at a0 x4_2;replace p8 := eq_true p8;replace q8 := eq_true q8
        have m5_ := trivial
        rotate_left
        rw [if_neg c9] at H;have c9b0 : ((bt a0 x4_2) == 58) = false := beq_eq_false_iff_ne.mpr c9;have c9b1 : ((bt a0 x4_2) != 58) = true := bne_iff_ne.mpr c9;simp only [Option.some.injEq, Prod.mk.injEq] at H;obtain ⟨rfl, rfl⟩ := H;have p8 : 0 ≤ (x4_2 : Int) := dT hy;have q8 : x4_2 < (a0.size : Int) := dT hy;have hx8 := bt_at a0 x4_2;replace p8 := eq_true p8;replace q8 := eq_true q8
        have m4_ := trivial
       rotate_left 2
       focus
        rw [if_neg c6] at H;have c6b0 : ((Int.tmod x4_2 3) == 2) = false := beq_eq_false_iff_ne.mpr c6;have c6b1 : ((Int.tmod x4_2 3) != 2) = true := bne_iff_ne.mpr c6
        by_cases c10 : 0 ≤ x4_2
        rotate_left
        ·rw [if_neg c10] at H;exact absurd H (by simp)
        rw [if_pos c10] at H;have c10b0 : decide (0 ≤ x4_2) = true := dY c10;clear c10
        by_cases c12 : (bt a0 x4_2) < 48
        rw [if_pos c12] at H;have c12b0 : decide ((bt a0 x4_2) < 48) = true := dY c12;clear c12;simp only [Option.some.injEq, Prod.mk.injEq] at H;obtain ⟨rfl, rfl⟩ := H;have p11 : 0 ≤ (x4_2 : Int) := dT hy;have q11 : x4_2 < (a0.size : Int) := dT hy;have hx11 := bt_at a0 x4_2;replace p11 := eq_true p11;replace q11 := eq_true q11
        have m3_ := trivial
        rotate_left
        focus
         rw [if_neg c12] at H;have c12b0 : decide ((bt a0 x4_2) < 48) = false := dN c12;clear c12
         by_cases c14 : (bt a0 x4_2) > 57
         rw [if_pos c14] at H;have c14b0 : decide (57 < (bt a0 x4_2)) = true := dY c14;clear c14;simp only [Option.some.injEq, Prod.mk.injEq] at H;obtain ⟨rfl, rfl⟩ := H;have p11 : 0 ≤ (x4_2 : Int) := dT hy;have q11 : x4_2 < (a0.size : Int) := dT hy;have hx11 := bt_at a0 x4_2;replace p11 := eq_true p11;replace q11 := eq_true q11;have p13 : 0 ≤ (x4_2 : Int) := dT hy;have q13 : x4_2 < (a0.size : Int) := dT hy;have hx13 := bt_at a0 x4_2;replace p13 := eq_true p13;replace q13 := eq_true q13
         have m2_ := trivial
         rotate_left
         rw [if_neg c14] at H;have c14b0 : decide (57 < (bt a0 x4_2)) = false := dN c14;clear c14;have H' := As H;clear H;have p11 : 0 ≤ (x4_2 : Int) := dT hy;have q11 : x4_2 < (a0.size : Int) := dT hy;have hx11 := bt_at a0 x4_2;replace p11 := eq_true p11;replace q11 := eq_true q11;have p13 : 0 ≤ (x4_2 : Int) := dT hy;have q13 : x4_2 < (a0.size : Int) := dT hy;have hx13 := bt_at a0 x4_2;replace p13 := eq_true p13;replace q13 := eq_true q13
         have m1_ := trivial
      rotate_left 5
      rw [if_neg c5] at H;have c5b0 : decide (x4_2 < (a0.size : Int)) = false := dN c5;clear c5;have H' := As H;clear H
      all_goals try
       first | (clear m1_; have m1_ := trivial) | (clear m2_; have m2_ := trivial) | (clear m3_; have m3_ := trivial) | (clear m4_; have m4_ := trivial) | (clear m5_; have m5_ := trivial)
       go_wp2
      all_goals try
       first | (clear m1_; have m1_ := trivial) | (clear m5_; have m5_ := trivial)
       go_roundg k2
       case measure => have := HJ1.out; have := HK2.out; omega
       case rel => exact ⟨(wrap64 (x4_2 + 1)), sw, H', ⟨by have := HJ1.out; have := HK2.out; omega⟩, ⟨by repeat (first | (with_reducible first | exact HB.out | apply XA | apply XN | apply XD) | exact HB.out)⟩⟩
      all_goals try
       first | (clear m2_; have m2_ := trivial) | (clear m3_; have m3_ := trivial) | (clear m4_; have m4_ := trivial)
       go_ret2
       exact ⟨by first | rfl | (simp [errW_none, errW_some] <;> rfl) | (simp [*, errW_none, errW_some] <;> rfl), by repeat (first | (with_reducible first | exact HB.out | apply XA | apply XN | apply XD) | exact HB.out)⟩
      ·go_wp2_with (first | ((with_reducible refine gate_dst (N := 5) rfl ?_); (try (refine gate_guard (by rfl) ?_; dsimp only)); refine box_event ?hg (N := 5) ?hd (cs := #[.int .i64 0, .int .i64 0, .int .i64 0]) (t := 67) ?hr ?_; (case hd => rfl); (case hg => rfl); (case hr => first | (go_simp; done) | (go_simp; rfl)); intro gb145 hg w15 hbox hb; have n0_ := As (XT (be HB.out) hb); have n1_ := As (hbox); have n2_ := As ((gz hg (be HB.out) : w.heap.size ≤ gb145)); have n3_ := As ((gz hg (be HB.out) : w.heap.size ≤ gb145)); clear HB; have HB := n0_; have BK145 := n1_; have GW145 := n2_; have GE145 := n3_; clear n0_ n1_ n2_ n3_; clear hb hbox hg; obtain ⟨hcz16_0, hcz16_1, hcz16_2, hfz16_0, hfz16_1, hfz16_2⟩ := cz3 BK145.out))
       go_loopg [6] k2 (fun kq v6 w' => ∃ (x6_3 : Int) (x146000_3 : Int) (x146001_3 : Int) (x146002_3 : Int), v6 = .int .i64 x6_3 ∧ Aside0 (r5_Parse.l1 kq a0 x6_3 x146000_3 x146001_3 x146002_3 = some (r1, r2)) ∧ Aside0 (kq ≤ k2) ∧ Aside0 (w'.heap[gb145]? = some (.cells #[.int .i64 x146000_3, .int .i64 x146001_3, .int .i64 x146002_3] 67 (0, 0))) ∧ Aside0 (Below w.heap.size w w'))
       case atStart => exact ⟨(0), (0), (0), (0), sw, H', ⟨Nat.le_refl _⟩, ⟨by apply blk_to; (iterate 3 ((with_reducible repeat (first | refine YN ?_ _ | refine YD ?_ | refine YA ?_ _)); apply blk_set)); (with_reducible repeat (first | refine YN ?_ _ | refine YD ?_ | refine YA ?_ _)); exact BK145.out; simp only [z0,z1,z2]⟩, ⟨by repeat (first | (with_reducible first | exact HB.out | apply XA | apply XN | apply XD | refine XS ?_ GE145.out) | exact HB.out)⟩⟩
       case round =>
        clear H'
        try clear c1
        try clear p1
        try clear q1
        try clear hx1
        try clear c2
        try clear p2
        try clear c3
        try clear c3b0
        try clear c3b1
        try clear c4
        try clear c5
        try clear c5b0
        try clear c6
        try clear c6b0
        try clear c6b1
        try clear p6
        try clear c7
        try clear c7b0
        try clear p8
        try clear q8
        try clear hx8
        try clear c9
        try clear c9b0
        try clear c9b1
        try clear c10
        try clear c10b0
        try clear p11
        try clear q11
        try clear hx11
        try clear c12
        try clear c12b0
        try clear p13
        try clear q13
        try clear hx13
        try clear c14
        try clear c14b0
        try clear hcz16_0 hcz16_1 hcz16_2 hfz16_0 hfz16_1 hfz16_2
        try clear p11
        try clear p13
        try clear p2
        try clear p8
        try clear q11
        try clear q13
        try clear q8
        obtain ⟨x6_3, x146000_3, x146001_3, x146002_3, rfl, HA, HK3, BK145, HB⟩ := hrel
        cases gk with
        | zero => exact absurd HA.out (by simp [r5_Parse.l1])
        | succ k3 =>
         have H := HA.out;clear HA;simp only [r5_Parse.l1] at H
         by_cases c17 : (wrap64 (3 * x6_3)) < (a0.size : Int)
         focus
          rw [if_pos c17] at H;have c17b0 : decide ((wrap64 (3 * x6_3)) < (a0.size : Int)) = true := dY c17;clear c17
          obtain ⟨ji18, hji18⟩ : ∃ j_ : Int, (wrap64 (3 * x6_3)) = j_ := ⟨_, rfl⟩
          replace H : (if 0 ≤ (ji18) then (if 0 ≤ (wrap64 ((ji18) + 1)) then (if (wrap64 ((ji18) + 1)) < (a0.size : Int) then (if x6_3 = (0 : Int) then (r5_Parse.l1 k3 a0 (wrap64 (x6_3 + 1)) ((10 * (((bt a0 (ji18)) - 48) % 256)) + (((bt a0 (wrap64 ((ji18) + 1))) - 48) % 256)) x146001_3 x146002_3) else (if x6_3 = (1 : Int) then (r5_Parse.l1 k3 a0 (wrap64 (x6_3 + 1)) x146000_3 ((10 * (((bt a0 (ji18)) - 48) % 256)) + (((bt a0 (wrap64 ((ji18) + 1))) - 48) % 256)) x146002_3) else (if x6_3 = (2 : Int) then (r5_Parse.l1 k3 a0 (wrap64 (x6_3 + 1)) x146000_3 x146001_3 ((10 * (((bt a0 (ji18)) - 48) % 256)) + (((bt a0 (wrap64 ((ji18) + 1))) - 48) % 256))) else (none)))) else (none)) else (none)) else (none)) = some (r1, r2) := by first | (rw [hji18] at H; exact H) | (simp only [hji18] at H ⊢; exact H)
          (try rw [hji18] at c17b0)
          have hji18w : (IntKind.i64.wrap (3 * x6_3)) = ji18 := (i64_w _).trans hji18
          by_cases c19 : 0 ≤ (ji18)
          rotate_left
          ·rw [if_neg c19] at H;exact absurd H (by simp)
          rw [if_pos c19] at H;have c19b0 : decide (0 ≤ (ji18)) = true := dY c19;clear c19
          obtain ⟨ji21, hji21⟩ : ∃ j_ : Int, (wrap64 ((ji18) + 1)) = j_ := ⟨_, rfl⟩
          replace H : (if 0 ≤ (ji21) then (if (ji21) < (a0.size : Int) then (if x6_3 = (0 : Int) then (r5_Parse.l1 k3 a0 (wrap64 (x6_3 + 1)) ((10 * (((bt a0 (ji18)) - 48) % 256)) + (((bt a0 (ji21)) - 48) % 256)) x146001_3 x146002_3) else (if x6_3 = (1 : Int) then (r5_Parse.l1 k3 a0 (wrap64 (x6_3 + 1)) x146000_3 ((10 * (((bt a0 (ji18)) - 48) % 256)) + (((bt a0 (ji21)) - 48) % 256)) x146002_3) else (if x6_3 = (2 : Int) then (r5_Parse.l1 k3 a0 (wrap64 (x6_3 + 1)) x146000_3 x146001_3 ((10 * (((bt a0 (ji18)) - 48) % 256)) + (((bt a0 (ji21)) - 48) % 256))) else (none)))) else (none)) else (none)) = some (r1, r2) := by first | (rw [hji21] at H; exact H) | (simp only [hji21] at H ⊢; exact H)
          have hji21w : (IntKind.i64.wrap ((ji18) + 1)) = ji21 := (i64_w _).trans hji21
          by_cases c22 : 0 ≤ (ji21)
          rotate_left
          ·rw [if_neg c22] at H;exact absurd H (by simp)
          rw [if_pos c22] at H;have c22b0 : decide (0 ≤ (ji21)) = true := dY c22;clear c22
          by_cases c23 : (ji21) < (a0.size : Int)
          rotate_left
          ·rw [if_neg c23] at H;exact absurd H (by simp)
          rw [if_pos c23] at H;have c23b0 : decide ((ji21) < (a0.size : Int)) = true := dY c23;clear c23
          by_cases c25 : x6_3 = (0 : Int)
          rw [if_pos c25] at H;have c25b0 : (x6_3 == (0 : Int)) = true := beq_iff_eq.mpr c25;have c25b1 : (x6_3 != (0 : Int)) = false := bne_eq_false_iff_eq.mpr c25
          have c25b2 : 0 ≤ x6_3 := by omega
          have c25b3 : x6_3 < 1 := by omega
          have c25b4 : x6_3 < 2 := by omega
          have c25b5 : x6_3 < 3 := by omega
          have c25b6 : x6_3 < 4 := by omega
          have c25b7 : (x6_3 : Int).toNat = 0 := by omega
          clear c25;have H' := As H;clear H
          have m8_ := trivial
          rotate_left
          focus
           rw [if_neg c25] at H;have c25b0 : (x6_3 == (0 : Int)) = false := beq_eq_false_iff_ne.mpr c25;have c25b1 : (x6_3 != (0 : Int)) = true := bne_iff_ne.mpr c25
           by_cases c28 : x6_3 = (1 : Int)
           rw [if_pos c28] at H;have c28b0 : (x6_3 == (1 : Int)) = true := beq_iff_eq.mpr c28;have c28b1 : (x6_3 != (1 : Int)) = false := bne_eq_false_iff_eq.mpr c28
           have c28b2 : 0 ≤ x6_3 := by omega
           have c28b3 : x6_3 < 2 := by omega
           have c28b4 : x6_3 < 3 := by omega
           have c28b5 : x6_3 < 4 := by omega
           have c28b6 : (x6_3 : Int).toNat = 1 := by omega
           clear c28;have H' := As H;clear H
           have m7_ := trivial
           rotate_left
           focus
            rw [if_neg c28] at H;have c28b0 : (x6_3 == (1 : Int)) = false := beq_eq_false_iff_ne.mpr c28;have c28b1 : (x6_3 != (1 : Int)) = true := bne_iff_ne.mpr c28
            by_cases c31 : x6_3 = (2 : Int)
            rotate_left
            ·rw [if_neg c31] at H;exact absurd H (by simp)
            rw [if_pos c31] at H;have c31b0 : (x6_3 == (2 : Int)) = true := beq_iff_eq.mpr c31;have c31b1 : (x6_3 != (2 : Int)) = false := bne_eq_false_iff_eq.mpr c31
            have c31b2 : 0 ≤ x6_3 := by omega
            have c31b3 : x6_3 < 3 := by omega
            have c31b4 : x6_3 < 4 := by omega
            have c31b5 : (x6_3 : Int).toNat = 2 := by omega
            clear c31;have H' := As H;clear H
            have m6_ := trivial
         rotate_left 3
         focus
          rw [if_neg c17] at H;have c17b0 : decide ((wrap64 (3 * x6_3)) < (a0.size : Int)) = false := dN c17;clear c17
          by_cases c34 : x146001_3 > 59
          rw [if_pos c34] at H;have c34b0 : decide (59 < x146001_3) = true := dY c34;clear c34;simp only [Option.some.injEq, Prod.mk.injEq] at H;obtain ⟨rfl, rfl⟩ := H;obtain ⟨hcz35_0, hcz35_1, hcz35_2, hfz35_0, hfz35_1, hfz35_2⟩ := cz3 BK145.out
          have m12_ := trivial
          rotate_left
          focus
           rw [if_neg c34] at H;have c34b0 : decide (59 < x146001_3) = false := dN c34;clear c34
           by_cases c36 : x146002_3 > 59
           rw [if_pos c36] at H;have c36b0 : decide (59 < x146002_3) = true := dY c36;clear c36;simp only [Option.some.injEq, Prod.mk.injEq] at H;obtain ⟨rfl, rfl⟩ := H;obtain ⟨hcz37_0, hcz37_1, hcz37_2, hfz37_0, hfz37_1, hfz37_2⟩ := cz3 BK145.out
           have m11_ := trivial
           rotate_left
           focus
            rw [if_neg c36] at H;have c36b0 : decide (59 < x146002_3) = false := dN c36;clear c36
            by_cases c38 : (wrap64 ((wrap64 ((wrap64 (3600 * x146000_3)) + (wrap64 (60 * x146001_3)))) + x146002_3)) > 86400
            rw [if_pos c38] at H;have c38b0 : decide (86400 < (wrap64 ((wrap64 ((wrap64 (3600 * x146000_3)) + (wrap64 (60 * x146001_3)))) + x146002_3))) = true := dY c38;clear c38;simp only [Option.some.injEq, Prod.mk.injEq] at H;obtain ⟨rfl, rfl⟩ := H;obtain ⟨hcz39_0, hcz39_1, hcz39_2, hfz39_0, hfz39_1, hfz39_2⟩ := cz3 BK145.out
            have m10_ := trivial
            rotate_left
            rw [if_neg c38] at H;have c38b0 : decide (86400 < (wrap64 ((wrap64 ((wrap64 (3600 * x146000_3)) + (wrap64 (60 * x146001_3)))) + x146002_3))) = false := dN c38;clear c38;simp only [Option.some.injEq, Prod.mk.injEq] at H;obtain ⟨rfl, rfl⟩ := H;obtain ⟨hcz40_0, hcz40_1, hcz40_2, hfz40_0, hfz40_1, hfz40_2⟩ := cz3 BK145.out
            have m9_ := trivial
         all_goals try
          first | (clear m6_; have m6_ := trivial) | (clear m7_; have m7_ := trivial) | (clear m8_; have m8_ := trivial)
          try go_wp2
         all_goals try
          first | (clear m9_; have m9_ := trivial) | (clear m10_; have m10_ := trivial) | (clear m11_; have m11_ := trivial) | (clear m12_; have m12_ := trivial)
          go_wp2
          go_ret2
          exact ⟨by first | rfl | (simp [errW_none, errW_some] <;> rfl) | (simp [*, errW_none, errW_some] <;> rfl), by repeat (first | (with_reducible first | exact HB.out | apply XA | apply XN | apply XD | refine XS ?_ GE145.out) | exact HB.out)⟩
         ·have n0_ := As (YD BK145.out);have n1_ := As (XD HB.out);clear BK145;clear HB;have BK145 := n0_;have HB := n1_;clear n0_ n1_;have p20 : 0 ≤ ((ji18) : Int) := dT hy;have q20 : (ji18) < (a0.size : Int) := dT hy;have hx20 := bt_at a0 (ji18);replace p20 := eq_true p20;replace q20 := eq_true q20;have p24 : 0 ≤ ((ji21) : Int) := dT hy;have q24 : (ji21) < (a0.size : Int) := dT hy;have hx24 := bt_at a0 (ji21);replace p24 := eq_true p24;replace q24 := eq_true q24;refine start_ (n := 18) (S := fun w' => True) (ds := []) (fl 0 18) kr rfl rfl trivial (fun hHeld => ?_); refine with_tabW r5_Parse.tab12 r5_Parse.bits12 (fun HT_ HW_ => ?_);generalize wr.drew = w32 at BK145 HB hHeld ⊢;refine pure_ (i := 0) (N := some 56) (v := ?_) (a' := ?_) (fl 1 17) rfl rfl (any_of HT_.out kr) (fun _ _ _ h => h) (Or.inl ⟨by rfl, ?_⟩) ?_ ?_;rotate_left;(intro w';go_simp;with_reducible rfl);rotate_left;(simp only [Act.put,z0,z1,z2,i64_w,i32_w];rfl);refine pure_ (i := 1) (N := some 57) (v := ?_) (a' := ?_) (fl 2 16) rfl rfl (any_of HT_.out kr) (fun _ _ _ h => h) (Or.inl ⟨by rfl, ?_⟩) ?_ ?_;rotate_left;(intro w';go_simp;with_reducible rfl);rotate_left;(simp only [Act.put,z0,z1,z2,i64_w,i32_w];rfl);refine pure_ (i := 2) (N := some 58) (v := ?_) (a' := ?_) (fl 3 15) rfl rfl (any_of HT_.out kr) (fun _ _ _ h => h) (Or.inl ⟨by rfl, ?_⟩) ?_ ?_;rotate_left;(intro w';go_simp;with_reducible rfl);rotate_left;(simp only [Act.put,z0,z1,z2,i64_w,i32_w];rfl);refine pure_ (i := 3) (N := some 59) (v := ?_) (a' := ?_) (fl 4 14) rfl rfl (any_of HT_.out kr) (fun _ _ _ h => h) (Or.inl ⟨by rfl, ?_⟩) ?_ ?_;rotate_left;(intro w';go_simp;with_reducible rfl);rotate_left;(simp only [Act.put,z0,z1,z2,i64_w,i32_w];rfl);refine pure_ (i := 8) (N := some 64) (v := ?_) (a' := ?_) #[Y,Y,Y,Y,O,O,O,O,Y,O,O,O,O,O,O,O,O,O] rfl rfl (any_of HT_.out kr) (fun _ _ _ h => h) (Or.inl ⟨by rfl, ?_⟩) ?_ ?_;rotate_left;(intro w';go_simp;with_reducible rfl);rotate_left;(simp only [Act.put,z0,z1,z2,i64_w,i32_w];rfl);refine pure_ (i := 9) (N := some 65) (v := ?_) (a' := ?_) #[Y,Y,Y,Y,O,O,O,O,Y,Y,O,O,O,O,O,O,O,O] rfl rfl (any_of HT_.out kr) (fun _ _ _ h => h) (Or.inl ⟨by rfl, ?_⟩) ?_ ?_;rotate_left;(intro w';go_simp;with_reducible rfl);rotate_left;(simp only [Act.put,z0,z1,z2,i64_w,i32_w];rfl);refine pure_ (i := 10) (N := some 66) (v := ?_) (a' := ?_) #[Y,Y,Y,Y,O,O,O,O,Y,Y,Y,O,O,O,O,O,O,O] rfl rfl (any_of HT_.out kr) (fun _ _ _ h => h) (Or.inl ⟨by rfl, ?_⟩) ?_ ?_;rotate_left;(intro w';go_simp;with_reducible rfl);rotate_left;(simp only [Act.put,z0,z1,z2,i64_w,i32_w];rfl);refine pure_ (i := 11) (N := some 67) (v := ?_) (a' := ?_) #[Y,Y,Y,Y,O,O,O,O,Y,Y,Y,Y,O,O,O,O,O,O] rfl rfl (any_of HT_.out kr) (fun _ _ _ h => h) (Or.inl ⟨by rfl, ?_⟩) ?_ ?_;rotate_left;(intro w';go_simp;with_reducible rfl);rotate_left;(simp only [Act.put,z0,z1,z2,i64_w,i32_w];rfl);refine take_ (i := 4) (N := some 60) (v := ?_) (a' := ?_) #[Y,Y,Y,Y,Y,O,O,O,Y,Y,Y,Y,O,O,O,O,O,O] rfl rfl (take_ofW HT_.out HW_.out kr) (fun _ _ _ h => h) (Or.inl ⟨by rfl, ?_⟩) hHeld ?_ ?_;rotate_left;(intro w' _;go_simp;with_reducible rfl);rotate_left;(simp only [Act.put,z0,z1,z2,i64_w,i32_w];rfl);refine pure_ (i := 5) (N := some 61) (v := ?_) (a' := ?_) #[Y,Y,Y,Y,Y,Y,O,O,Y,Y,Y,Y,O,O,O,O,O,O] rfl rfl (any_of HT_.out kr) (fun _ _ _ h => h) (Or.inl ⟨by rfl, ?_⟩) ?_ ?_;rotate_left;(intro w';go_simp;with_reducible rfl);rotate_left;(simp only [Act.put,z0,z1,z2,i64_w,i32_w];rfl);refine pure_ (i := 6) (N := some 62) (v := ?_) (a' := ?_) #[Y,Y,Y,Y,Y,Y,Y,O,Y,Y,Y,Y,O,O,O,O,O,O] rfl rfl (any_of HT_.out kr) (fun _ _ _ h => h) (Or.inl ⟨by rfl, ?_⟩) ?_ ?_;rotate_left;(intro w';go_simp;with_reducible rfl);rotate_left;(simp only [Act.put,z0,z1,z2,i64_w,i32_w];rfl);refine pure_ (i := 7) (N := some 63) (v := ?_) (a' := ?_) (fl 12 6) rfl rfl (any_of HT_.out kr) (fun _ _ _ h => h) (Or.inl ⟨by rfl, ?_⟩) ?_ ?_;rotate_left;(intro w';go_simp;with_reducible rfl);rotate_left;(simp only [Act.put,z0,z1,z2,i64_w,i32_w];rfl);refine take_ (i := 12) (N := some 68) (v := ?_) (a' := ?_) (fl 13 5) rfl rfl (take_ofW HT_.out HW_.out kr) (fun _ _ _ h => h) (Or.inl ⟨by rfl, ?_⟩) hHeld ?_ ?_;rotate_left;(intro w' _;go_simp;with_reducible rfl);rotate_left;(simp only [Act.put,z0,z1,z2,i64_w,i32_w];rfl);refine pure_ (i := 13) (N := some 69) (v := ?_) (a' := ?_) (fl 14 4) rfl rfl (any_of HT_.out kr) (fun _ _ _ h => h) (Or.inl ⟨by rfl, ?_⟩) ?_ ?_;rotate_left;(intro w';go_simp;with_reducible rfl);rotate_left;(simp only [Act.put,z0,z1,z2,i64_w,i32_w];rfl);refine pure_ (i := 14) (N := some 70) (v := ?_) (a' := ?_) (fl 15 3) rfl rfl (any_of HT_.out kr) (fun _ _ _ h => h) (Or.inl ⟨by rfl, ?_⟩) ?_ ?_;rotate_left;(intro w';go_simp;with_reducible rfl);rotate_left;(simp only [Act.put,z0,z1,z2,i64_w,i32_w];rfl);refine pure_ (i := 15) (N := some 71) (v := ?_) (a' := ?_) (fl 16 2) rfl rfl (any_of HT_.out kr) (fun _ _ _ h => h) (Or.inl ⟨by rfl, ?_⟩) ?_ ?_;rotate_left;(intro w';go_simp;with_reducible rfl);rotate_left;(simp only [Act.put,z0,z1,z2,i64_w,i32_w];rfl);refine pure_ (i := 16) (N := some 72) (v := ?_) (a' := ?_) (fl 17 1) rfl rfl (any_of HT_.out kr) (fun _ _ _ h => h) (Or.inl ⟨by rfl, ?_⟩) ?_ ?_;rotate_left;(intro w';go_simp;with_reducible rfl);rotate_left;(simp only [Act.put,z0,z1,z2,i64_w,i32_w];rfl);refine one_ (i := 17) (N := none) (fl 18 0) rfl rfl (one_of HT_.out kr) (by decide) (fun K hK => ?_);have hs33 : w32.cell? ⟨gb145, 2, none⟩ = some (.int .i64 x146002_3) := bc BK145.out 2 rfl;have hfs33 := blk_frozen BK145.out 2;refine skip_ (w1 := ?_) (by rfl) rfl ?_ ?_;rotate_left
          ·go_simp;rfl
          refine hK.out _ _ trivial (fun hHeld => ?_);clear hK K;refine done_ (done_of HT_.out kr) ?_
          try go_wp2
          go_roundg k3
          case measure => have := HJ1.out; have := HK2.out; have := HK3.out; omega
          case rel => exact ⟨(wrap64 (x6_3 + 1)), (x146000_3), (x146001_3), ((10 * (((bt a0 (ji18)) - 48) % 256)) + (((bt a0 (ji21)) - 48) % 256)), sw, H', ⟨by have := HJ1.out; have := HK2.out; have := HK3.out; omega⟩, ⟨by (with_reducible repeat (first | refine YN ?_ _ | refine YD ?_ | refine YA ?_ _)); refine blk_put (cs := #[.int .i64 x146000_3, .int .i64 x146001_3, .int .i64 x146002_3]) ?_ 2 _ (by simp only [wq]; rfl); (with_reducible repeat (first | refine YN ?_ _ | refine YD ?_ | refine YA ?_ _)); exact BK145.out⟩, ⟨by repeat (first | (with_reducible first | exact HB.out | apply XA | apply XN | apply XD | refine XS ?_ GE145.out) | exact HB.out)⟩⟩
         ·have n0_ := As (YD BK145.out);have n1_ := As (XD HB.out);clear BK145;clear HB;have BK145 := n0_;have HB := n1_;clear n0_ n1_;have p20 : 0 ≤ ((ji18) : Int) := dT hy;have q20 : (ji18) < (a0.size : Int) := dT hy;have hx20 := bt_at a0 (ji18);replace p20 := eq_true p20;replace q20 := eq_true q20;have p24 : 0 ≤ ((ji21) : Int) := dT hy;have q24 : (ji21) < (a0.size : Int) := dT hy;have hx24 := bt_at a0 (ji21);replace p24 := eq_true p24;replace q24 := eq_true q24;refine start_ (n := 18) (S := fun w' => True) (ds := []) (fl 0 18) kr rfl rfl trivial (fun hHeld => ?_); refine with_tabW r5_Parse.tab12 r5_Parse.bits12 (fun HT_ HW_ => ?_);generalize wr.drew = w29 at BK145 HB hHeld ⊢;refine pure_ (i := 0) (N := some 56) (v := ?_) (a' := ?_) (fl 1 17) rfl rfl (any_of HT_.out kr) (fun _ _ _ h => h) (Or.inl ⟨by rfl, ?_⟩) ?_ ?_;rotate_left;(intro w';go_simp;with_reducible rfl);rotate_left;(simp only [Act.put,z0,z1,z2,i64_w,i32_w];rfl);refine pure_ (i := 1) (N := some 57) (v := ?_) (a' := ?_) (fl 2 16) rfl rfl (any_of HT_.out kr) (fun _ _ _ h => h) (Or.inl ⟨by rfl, ?_⟩) ?_ ?_;rotate_left;(intro w';go_simp;with_reducible rfl);rotate_left;(simp only [Act.put,z0,z1,z2,i64_w,i32_w];rfl);refine pure_ (i := 2) (N := some 58) (v := ?_) (a' := ?_) (fl 3 15) rfl rfl (any_of HT_.out kr) (fun _ _ _ h => h) (Or.inl ⟨by rfl, ?_⟩) ?_ ?_;rotate_left;(intro w';go_simp;with_reducible rfl);rotate_left;(simp only [Act.put,z0,z1,z2,i64_w,i32_w];rfl);refine pure_ (i := 3) (N := some 59) (v := ?_) (a' := ?_) (fl 4 14) rfl rfl (any_of HT_.out kr) (fun _ _ _ h => h) (Or.inl ⟨by rfl, ?_⟩) ?_ ?_;rotate_left;(intro w';go_simp;with_reducible rfl);rotate_left;(simp only [Act.put,z0,z1,z2,i64_w,i32_w];rfl);refine pure_ (i := 8) (N := some 64) (v := ?_) (a' := ?_) #[Y,Y,Y,Y,O,O,O,O,Y,O,O,O,O,O,O,O,O,O] rfl rfl (any_of HT_.out kr) (fun _ _ _ h => h) (Or.inl ⟨by rfl, ?_⟩) ?_ ?_;rotate_left;(intro w';go_simp;with_reducible rfl);rotate_left;(simp only [Act.put,z0,z1,z2,i64_w,i32_w];rfl);refine pure_ (i := 9) (N := some 65) (v := ?_) (a' := ?_) #[Y,Y,Y,Y,O,O,O,O,Y,Y,O,O,O,O,O,O,O,O] rfl rfl (any_of HT_.out kr) (fun _ _ _ h => h) (Or.inl ⟨by rfl, ?_⟩) ?_ ?_;rotate_left;(intro w';go_simp;with_reducible rfl);rotate_left;(simp only [Act.put,z0,z1,z2,i64_w,i32_w];rfl);refine pure_ (i := 10) (N := some 66) (v := ?_) (a' := ?_) #[Y,Y,Y,Y,O,O,O,O,Y,Y,Y,O,O,O,O,O,O,O] rfl rfl (any_of HT_.out kr) (fun _ _ _ h => h) (Or.inl ⟨by rfl, ?_⟩) ?_ ?_;rotate_left;(intro w';go_simp;with_reducible rfl);rotate_left;(simp only [Act.put,z0,z1,z2,i64_w,i32_w];rfl);refine pure_ (i := 11) (N := some 67) (v := ?_) (a' := ?_) #[Y,Y,Y,Y,O,O,O,O,Y,Y,Y,Y,O,O,O,O,O,O] rfl rfl (any_of HT_.out kr) (fun _ _ _ h => h) (Or.inl ⟨by rfl, ?_⟩) ?_ ?_;rotate_left;(intro w';go_simp;with_reducible rfl);rotate_left;(simp only [Act.put,z0,z1,z2,i64_w,i32_w];rfl);refine take_ (i := 4) (N := some 60) (v := ?_) (a' := ?_) #[Y,Y,Y,Y,Y,O,O,O,Y,Y,Y,Y,O,O,O,O,O,O] rfl rfl (take_ofW HT_.out HW_.out kr) (fun _ _ _ h => h) (Or.inl ⟨by rfl, ?_⟩) hHeld ?_ ?_;rotate_left;(intro w' _;go_simp;with_reducible rfl);rotate_left;(simp only [Act.put,z0,z1,z2,i64_w,i32_w];rfl);refine pure_ (i := 5) (N := some 61) (v := ?_) (a' := ?_) #[Y,Y,Y,Y,Y,Y,O,O,Y,Y,Y,Y,O,O,O,O,O,O] rfl rfl (any_of HT_.out kr) (fun _ _ _ h => h) (Or.inl ⟨by rfl, ?_⟩) ?_ ?_;rotate_left;(intro w';go_simp;with_reducible rfl);rotate_left;(simp only [Act.put,z0,z1,z2,i64_w,i32_w];rfl);refine pure_ (i := 6) (N := some 62) (v := ?_) (a' := ?_) #[Y,Y,Y,Y,Y,Y,Y,O,Y,Y,Y,Y,O,O,O,O,O,O] rfl rfl (any_of HT_.out kr) (fun _ _ _ h => h) (Or.inl ⟨by rfl, ?_⟩) ?_ ?_;rotate_left;(intro w';go_simp;with_reducible rfl);rotate_left;(simp only [Act.put,z0,z1,z2,i64_w,i32_w];rfl);refine pure_ (i := 7) (N := some 63) (v := ?_) (a' := ?_) (fl 12 6) rfl rfl (any_of HT_.out kr) (fun _ _ _ h => h) (Or.inl ⟨by rfl, ?_⟩) ?_ ?_;rotate_left;(intro w';go_simp;with_reducible rfl);rotate_left;(simp only [Act.put,z0,z1,z2,i64_w,i32_w];rfl);refine take_ (i := 12) (N := some 68) (v := ?_) (a' := ?_) (fl 13 5) rfl rfl (take_ofW HT_.out HW_.out kr) (fun _ _ _ h => h) (Or.inl ⟨by rfl, ?_⟩) hHeld ?_ ?_;rotate_left;(intro w' _;go_simp;with_reducible rfl);rotate_left;(simp only [Act.put,z0,z1,z2,i64_w,i32_w];rfl);refine pure_ (i := 13) (N := some 69) (v := ?_) (a' := ?_) (fl 14 4) rfl rfl (any_of HT_.out kr) (fun _ _ _ h => h) (Or.inl ⟨by rfl, ?_⟩) ?_ ?_;rotate_left;(intro w';go_simp;with_reducible rfl);rotate_left;(simp only [Act.put,z0,z1,z2,i64_w,i32_w];rfl);refine pure_ (i := 14) (N := some 70) (v := ?_) (a' := ?_) (fl 15 3) rfl rfl (any_of HT_.out kr) (fun _ _ _ h => h) (Or.inl ⟨by rfl, ?_⟩) ?_ ?_;rotate_left;(intro w';go_simp;with_reducible rfl);rotate_left;(simp only [Act.put,z0,z1,z2,i64_w,i32_w];rfl);refine pure_ (i := 15) (N := some 71) (v := ?_) (a' := ?_) (fl 16 2) rfl rfl (any_of HT_.out kr) (fun _ _ _ h => h) (Or.inl ⟨by rfl, ?_⟩) ?_ ?_;rotate_left;(intro w';go_simp;with_reducible rfl);rotate_left;(simp only [Act.put,z0,z1,z2,i64_w,i32_w];rfl);refine pure_ (i := 16) (N := some 72) (v := ?_) (a' := ?_) (fl 17 1) rfl rfl (any_of HT_.out kr) (fun _ _ _ h => h) (Or.inl ⟨by rfl, ?_⟩) ?_ ?_;rotate_left;(intro w';go_simp;with_reducible rfl);rotate_left;(simp only [Act.put,z0,z1,z2,i64_w,i32_w];rfl);refine one_ (i := 17) (N := none) (fl 18 0) rfl rfl (one_of HT_.out kr) (by decide) (fun K hK => ?_);have hs30 : w29.cell? ⟨gb145, 1, none⟩ = some (.int .i64 x146001_3) := bc BK145.out 1 rfl;have hfs30 := blk_frozen BK145.out 1;refine skip_ (w1 := ?_) (by rfl) rfl ?_ ?_;rotate_left
          ·go_simp;rfl
          refine hK.out _ _ trivial (fun hHeld => ?_);clear hK K;refine done_ (done_of HT_.out kr) ?_
          try go_wp2
          go_roundg k3
          case measure => have := HJ1.out; have := HK2.out; have := HK3.out; omega
          case rel => exact ⟨(wrap64 (x6_3 + 1)), (x146000_3), ((10 * (((bt a0 (ji18)) - 48) % 256)) + (((bt a0 (ji21)) - 48) % 256)), (x146002_3), sw, H', ⟨by have := HJ1.out; have := HK2.out; have := HK3.out; omega⟩, ⟨by (with_reducible repeat (first | refine YN ?_ _ | refine YD ?_ | refine YA ?_ _)); refine blk_put (cs := #[.int .i64 x146000_3, .int .i64 x146001_3, .int .i64 x146002_3]) ?_ 1 _ (by simp only [wq]; rfl); (with_reducible repeat (first | refine YN ?_ _ | refine YD ?_ | refine YA ?_ _)); exact BK145.out⟩, ⟨by repeat (first | (with_reducible first | exact HB.out | apply XA | apply XN | apply XD | refine XS ?_ GE145.out) | exact HB.out)⟩⟩
         ·have n0_ := As (YD BK145.out);have n1_ := As (XD HB.out);clear BK145;clear HB;have BK145 := n0_;have HB := n1_;clear n0_ n1_;have p20 : 0 ≤ ((ji18) : Int) := dT hy;have q20 : (ji18) < (a0.size : Int) := dT hy;have hx20 := bt_at a0 (ji18);replace p20 := eq_true p20;replace q20 := eq_true q20;have p24 : 0 ≤ ((ji21) : Int) := dT hy;have q24 : (ji21) < (a0.size : Int) := dT hy;have hx24 := bt_at a0 (ji21);replace p24 := eq_true p24;replace q24 := eq_true q24;refine start_ (n := 18) (S := fun w' => True) (ds := []) (fl 0 18) kr rfl rfl trivial (fun hHeld => ?_); refine with_tabW r5_Parse.tab12 r5_Parse.bits12 (fun HT_ HW_ => ?_);generalize wr.drew = w26 at BK145 HB hHeld ⊢;refine pure_ (i := 0) (N := some 56) (v := ?_) (a' := ?_) (fl 1 17) rfl rfl (any_of HT_.out kr) (fun _ _ _ h => h) (Or.inl ⟨by rfl, ?_⟩) ?_ ?_;rotate_left;(intro w';go_simp;with_reducible rfl);rotate_left;(simp only [Act.put,z0,z1,z2,i64_w,i32_w];rfl);refine pure_ (i := 1) (N := some 57) (v := ?_) (a' := ?_) (fl 2 16) rfl rfl (any_of HT_.out kr) (fun _ _ _ h => h) (Or.inl ⟨by rfl, ?_⟩) ?_ ?_;rotate_left;(intro w';go_simp;with_reducible rfl);rotate_left;(simp only [Act.put,z0,z1,z2,i64_w,i32_w];rfl);refine pure_ (i := 2) (N := some 58) (v := ?_) (a' := ?_) (fl 3 15) rfl rfl (any_of HT_.out kr) (fun _ _ _ h => h) (Or.inl ⟨by rfl, ?_⟩) ?_ ?_;rotate_left;(intro w';go_simp;with_reducible rfl);rotate_left;(simp only [Act.put,z0,z1,z2,i64_w,i32_w];rfl);refine pure_ (i := 3) (N := some 59) (v := ?_) (a' := ?_) (fl 4 14) rfl rfl (any_of HT_.out kr) (fun _ _ _ h => h) (Or.inl ⟨by rfl, ?_⟩) ?_ ?_;rotate_left;(intro w';go_simp;with_reducible rfl);rotate_left;(simp only [Act.put,z0,z1,z2,i64_w,i32_w];rfl);refine pure_ (i := 8) (N := some 64) (v := ?_) (a' := ?_) #[Y,Y,Y,Y,O,O,O,O,Y,O,O,O,O,O,O,O,O,O] rfl rfl (any_of HT_.out kr) (fun _ _ _ h => h) (Or.inl ⟨by rfl, ?_⟩) ?_ ?_;rotate_left;(intro w';go_simp;with_reducible rfl);rotate_left;(simp only [Act.put,z0,z1,z2,i64_w,i32_w];rfl);refine pure_ (i := 9) (N := some 65) (v := ?_) (a' := ?_) #[Y,Y,Y,Y,O,O,O,O,Y,Y,O,O,O,O,O,O,O,O] rfl rfl (any_of HT_.out kr) (fun _ _ _ h => h) (Or.inl ⟨by rfl, ?_⟩) ?_ ?_;rotate_left;(intro w';go_simp;with_reducible rfl);rotate_left;(simp only [Act.put,z0,z1,z2,i64_w,i32_w];rfl);refine pure_ (i := 10) (N := some 66) (v := ?_) (a' := ?_) #[Y,Y,Y,Y,O,O,O,O,Y,Y,Y,O,O,O,O,O,O,O] rfl rfl (any_of HT_.out kr) (fun _ _ _ h => h) (Or.inl ⟨by rfl, ?_⟩) ?_ ?_;rotate_left;(intro w';go_simp;with_reducible rfl);rotate_left;(simp only [Act.put,z0,z1,z2,i64_w,i32_w];rfl);refine pure_ (i := 11) (N := some 67) (v := ?_) (a' := ?_) #[Y,Y,Y,Y,O,O,O,O,Y,Y,Y,Y,O,O,O,O,O,O] rfl rfl (any_of HT_.out kr) (fun _ _ _ h => h) (Or.inl ⟨by rfl, ?_⟩) ?_ ?_;rotate_left;(intro w';go_simp;with_reducible rfl);rotate_left;(simp only [Act.put,z0,z1,z2,i64_w,i32_w];rfl);refine take_ (i := 4) (N := some 60) (v := ?_) (a' := ?_) #[Y,Y,Y,Y,Y,O,O,O,Y,Y,Y,Y,O,O,O,O,O,O] rfl rfl (take_ofW HT_.out HW_.out kr) (fun _ _ _ h => h) (Or.inl ⟨by rfl, ?_⟩) hHeld ?_ ?_;rotate_left;(intro w' _;go_simp;with_reducible rfl);rotate_left;(simp only [Act.put,z0,z1,z2,i64_w,i32_w];rfl);refine pure_ (i := 5) (N := some 61) (v := ?_) (a' := ?_) #[Y,Y,Y,Y,Y,Y,O,O,Y,Y,Y,Y,O,O,O,O,O,O] rfl rfl (any_of HT_.out kr) (fun _ _ _ h => h) (Or.inl ⟨by rfl, ?_⟩) ?_ ?_;rotate_left;(intro w';go_simp;with_reducible rfl);rotate_left;(simp only [Act.put,z0,z1,z2,i64_w,i32_w];rfl);refine pure_ (i := 6) (N := some 62) (v := ?_) (a' := ?_) #[Y,Y,Y,Y,Y,Y,Y,O,Y,Y,Y,Y,O,O,O,O,O,O] rfl rfl (any_of HT_.out kr) (fun _ _ _ h => h) (Or.inl ⟨by rfl, ?_⟩) ?_ ?_;rotate_left;(intro w';go_simp;with_reducible rfl);rotate_left;(simp only [Act.put,z0,z1,z2,i64_w,i32_w];rfl);refine pure_ (i := 7) (N := some 63) (v := ?_) (a' := ?_) (fl 12 6) rfl rfl (any_of HT_.out kr) (fun _ _ _ h => h) (Or.inl ⟨by rfl, ?_⟩) ?_ ?_;rotate_left;(intro w';go_simp;with_reducible rfl);rotate_left;(simp only [Act.put,z0,z1,z2,i64_w,i32_w];rfl);refine take_ (i := 12) (N := some 68) (v := ?_) (a' := ?_) (fl 13 5) rfl rfl (take_ofW HT_.out HW_.out kr) (fun _ _ _ h => h) (Or.inl ⟨by rfl, ?_⟩) hHeld ?_ ?_;rotate_left;(intro w' _;go_simp;with_reducible rfl);rotate_left;(simp only [Act.put,z0,z1,z2,i64_w,i32_w];rfl);refine pure_ (i := 13) (N := some 69) (v := ?_) (a' := ?_) (fl 14 4) rfl rfl (any_of HT_.out kr) (fun _ _ _ h => h) (Or.inl ⟨by rfl, ?_⟩) ?_ ?_;rotate_left;(intro w';go_simp;with_reducible rfl);rotate_left;(simp only [Act.put,z0,z1,z2,i64_w,i32_w];rfl);refine pure_ (i := 14) (N := some 70) (v := ?_) (a' := ?_) (fl 15 3) rfl rfl (any_of HT_.out kr) (fun _ _ _ h => h) (Or.inl ⟨by rfl, ?_⟩) ?_ ?_;rotate_left;(intro w';go_simp;with_reducible rfl);rotate_left;(simp only [Act.put,z0,z1,z2,i64_w,i32_w];rfl);refine pure_ (i := 15) (N := some 71) (v := ?_) (a' := ?_) (fl 16 2) rfl rfl (any_of HT_.out kr) (fun _ _ _ h => h) (Or.inl ⟨by rfl, ?_⟩) ?_ ?_;rotate_left;(intro w';go_simp;with_reducible rfl);rotate_left;(simp only [Act.put,z0,z1,z2,i64_w,i32_w];rfl);refine pure_ (i := 16) (N := some 72) (v := ?_) (a' := ?_) (fl 17 1) rfl rfl (any_of HT_.out kr) (fun _ _ _ h => h) (Or.inl ⟨by rfl, ?_⟩) ?_ ?_;rotate_left;(intro w';go_simp;with_reducible rfl);rotate_left;(simp only [Act.put,z0,z1,z2,i64_w,i32_w];rfl);refine one_ (i := 17) (N := none) (fl 18 0) rfl rfl (one_of HT_.out kr) (by decide) (fun K hK => ?_);have hs27 : w26.cell? ⟨gb145, 0, none⟩ = some (.int .i64 x146000_3) := bc BK145.out 0 rfl;have hfs27 := blk_frozen BK145.out 0;refine skip_ (w1 := ?_) (by rfl) rfl ?_ ?_;rotate_left
          ·go_simp;rfl
          refine hK.out _ _ trivial (fun hHeld => ?_);clear hK K;refine done_ (done_of HT_.out kr) ?_
          try go_wp2
          go_roundg k3
          case measure => have := HJ1.out; have := HK2.out; have := HK3.out; omega
          case rel => exact ⟨(wrap64 (x6_3 + 1)), ((10 * (((bt a0 (ji18)) - 48) % 256)) + (((bt a0 (ji21)) - 48) % 256)), (x146001_3), (x146002_3), sw, H', ⟨by have := HJ1.out; have := HK2.out; have := HK3.out; omega⟩, ⟨by (with_reducible repeat (first | refine YN ?_ _ | refine YD ?_ | refine YA ?_ _)); refine blk_put (cs := #[.int .i64 x146000_3, .int .i64 x146001_3, .int .i64 x146002_3]) ?_ 0 _ (by simp only [wq]; rfl); (with_reducible repeat (first | refine YN ?_ _ | refine YD ?_ | refine YA ?_ _)); exact BK145.out⟩, ⟨by repeat (first | (with_reducible first | exact HB.out | apply XA | apply XN | apply XD | refine XS ?_ GE145.out) | exact HB.out)⟩⟩

end Go.Proofs.YtegiikkbeknodaaDoor.P
-- SHRUNK
-- PACKED
-- PACKED2
