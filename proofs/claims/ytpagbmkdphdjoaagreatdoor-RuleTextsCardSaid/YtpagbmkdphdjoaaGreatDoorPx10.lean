-- written by myprint.py (this claim's own program, after the kit's print)
import Derived.Test.YtpagbmkdphdjoaaGreatDoorPx0
import Derived.Test.YtpagbmkdphdjoaaGreatDoorPx8
import Derived.Test.YtpagbmkdphdjoaaGreatDoorPx9
import Derived.Test.YtpagbmkdphdjoaaGreatDoorPClOf
import Derived.Test.YtpagbmkdphdjoaaGreatDoorPack
namespace Go.Proofs.YtpagbmkdphdjoaaGreatDoor.P
open Go.RowKit Go.Proofs.YtpagbmkdphdjoaaGreatDoorW.PrintWords Go.Proofs.YtpagbmkdphdjoaaGreatDoorW.PrintLast Go.Proofs.YtpagbmkdphdjoaaGreatDoorW.PrintMore
attribute [local go_sem] max2_int min2_int max_two min_two max_three min_three max_four min_four   -- for this text's walks alone
set_option linter.unusedVariables false
set_option linter.unusedSimpArgs false

/-! ### civil_Weekday: function 19 -/
def civil_Weekday.f (a0 : Int) : Option (Int) := (civil_mod.f a0 7).bind fun t146 => ((civil_mod.f (wrap64 (t146 + 4)) 7).bind fun t147 => (some t147))
set_option maxHeartbeats 2000000 in
set_option maxRecDepth 100000 in
theorem civil_Weekday.calls (a0 : Int) (r : Int) (w : World) (h : civil_Weekday.f a0 = some r) :
  Calls Tryz.prog 19 #[.int .i64 a0] w fun e w' => e = .returned (.int .i64 r) ∧ Drawn0 w w' := by
 have H : ((civil_mod.f a0 7).bind fun t146 => ((civil_mod.f (wrap64 (t146 + 4)) 7).bind fun t147 => (some t147))) = some r := h;clear h;replace H := bE H;obtain ⟨t146, A20, H⟩ := H;replace H : ((civil_mod.f (wrap64 (t146 + 4)) 7).bind fun t147 => (some t147)) = some r := H;have A2 := As A20;clear A20;replace H := bE H;obtain ⟨t147, A30, H⟩ := H;replace H : (some t147) = some r := H;have A3 := As A30;clear A30;obtain rfl := Option.some.inj H
 go_enter Tryz.func19, Tryz.ntmps19
 go_wp2_with (first | ((with_reducible refine gate_callee (f := 39) rfl ?_); refine goesL_ (some 4) rfl rfl Tryz.func39 kr rfl #[.int .i64 a0, .int .i64 7] rfl sa ?_; (with_reducible refine (civil_mod.calls a0 7 _ _ A2.out).mono ?_); rintro e w' ⟨rfl, ⟨nd, rfl⟩⟩; refine ⟨_, rfl, ?_⟩) | ((with_reducible refine gate_callee (f := 39) rfl ?_); refine goesL_ (some 6) rfl rfl Tryz.func39 kr rfl #[.int .i64 (wrap64 (t146 + 4)), .int .i64 7] rfl sa ?_; (with_reducible refine (civil_mod.calls (wrap64 (t146 + 4)) 7 _ _ A3.out).mono ?_); rintro e w' ⟨rfl, ⟨nd, rfl⟩⟩; refine ⟨_, rfl, ?_⟩))
 go_ret
 exact ⟨by first | rfl | (simp; done) | (simp [*]; done) | (simp; unfold wrap64; omega), by repeat (first | exact Drawn0.refl _ | apply Drawn0.step)⟩

/-! ### rule_ahead: function 20 -/
def rule_ahead.f (a0 : Int) : Option (Int) := some (wrap64 (Int.tdiv (wrap64 ((wrap64 (a0 + 7)) - 1)) 7))
set_option maxHeartbeats 2000000 in
set_option maxRecDepth 100000 in
theorem rule_ahead.calls (a0 : Int) (r : Int) (w : World) (h : rule_ahead.f a0 = some r) :
  Calls Tryz.prog 20 #[.int .i64 a0] w fun e w' => e = .returned (.int .i64 r) ∧ Drawn0 w w' := by
 have H : (some (wrap64 (Int.tdiv (wrap64 ((wrap64 (a0 + 7)) - 1)) 7))) = some r := h;clear h;obtain rfl := Option.some.inj H
 go_enter Tryz.func20, Tryz.ntmps20
 go_wp2
 go_ret
 exact ⟨by first | rfl | (simp; done) | (simp [*]; done) | (simp; unfold wrap64; omega), by repeat (first | exact Drawn0.refl _ | apply Drawn0.step)⟩

/-! ### rule_Match: function 6 -/
def rule_Match.j0 : Nat → Int → Bool → Int → Int → Int → Int → Int → Int → Int → Int → Int → Int → Option (Bool × Option Int)
 | 0, _, _, _, _, _, _, _, _, _, _, _, _ => none
 | k + 1, x1, x9, x149000, x149001, x149002, x149003, x149004, x149005, x149006, x149007, x149008, x149009 => if x149000 = 0 then (none) else (if x149000 = 1 then (none) else (if x149000 = 2 then (if x9 = true then ((civil_Weekday.f x1).bind fun t160 => (if t160 = x149003 then (none) else (some (false, none)))) else (none)) else (none)))
def rule_Match.f (k : Nat) (a0_0 : Int) (a0_1 : Int) (a0_2 : Int) (a0_3 : Int) (a0_4 : Int) (a0_5 : Int) (a0_6 : Int) (a0_7 : Int) (a0_8 : Int) (a0_9 : Int) (a1 : Int) : Option (Bool × Option Int) := (civil_Of.f a1).bind fun bt149 => (if bt149.2.2.2.isNone = true then ((rule_Check.f k a0_0 a0_1 a0_2 a0_3 a0_4 a0_5 a0_6 a0_7 a0_8 a0_9).bind fun t155 => (if t155.isNone = true then ((civil_Length.f k bt149.1 bt149.2.1).bind fun bt157 => (if bt157.2.isNone = true then (if a0_1 = 0 then (rule_Match.j0 k a1 true a0_0 a0_1 a0_2 a0_3 a0_4 a0_5 a0_6 a0_7 a0_8 a0_9) else (rule_Match.j0 k a1 (a0_1 == bt149.2.1) a0_0 a0_1 a0_2 a0_3 a0_4 a0_5 a0_6 a0_7 a0_8 a0_9)) else (none))) else (none))) else (none))
theorem rule_Match.mono_l : ∀ k, (∀ y0 y1 y2 y3 y4 y5 y6 y7 y8 y9 y10 y11, LeO (rule_Match.j0 k y0 y1 y2 y3 y4 y5 y6 y7 y8 y9 y10 y11) (rule_Match.j0 (k + 1) y0 y1 y2 y3 y4 y5 y6 y7 y8 y9 y10 y11))
 | 0 => fun _ _ _ _ _ _ _ _ _ _ _ _ r h => by simp [rule_Match.j0] at h
 | k + 1 => by
  have ih0 := rule_Match.mono_l k
  ·intro y0 y1 y2 y3 y4 y5 y6 y7 y8 y9 y10 y11;unfold rule_Match.j0
   repeat' first
   | (with_reducible exact ih0 _ _ _ _ _ _ _ _ _ _ _ _)
   | (with_reducible exact civil_Length.mono _ _ _)
   | (with_reducible exact rule_Check.mono _ _ _ _ _ _ _ _ _ _ _)
   | (with_reducible exact LeO.refl _)
   | (with_reducible exact LeO.none _)
   | (with_reducible refine LeO.ite ?_ ?_)
   | (with_reducible refine LeO.bind ?_ (fun _ => ?_))
   | exact ih0 _ _ _ _ _ _ _ _ _ _ _ _
   | exact civil_Length.mono _ _ _
   | exact rule_Check.mono _ _ _ _ _ _ _ _ _ _ _
   | exact LeO.none _
   | refine LeO.ite ?_ ?_
   | refine LeO.bind ?_ (fun _ => ?_)
theorem rule_Match.mono : ∀ a0 a1 a2 a3 a4 a5 a6 a7 a8 a9 a10 k, LeO (rule_Match.f k a0 a1 a2 a3 a4 a5 a6 a7 a8 a9 a10) (rule_Match.f (k + 1) a0 a1 a2 a3 a4 a5 a6 a7 a8 a9 a10) := by
 intro a0 a1 a2 a3 a4 a5 a6 a7 a8 a9 a10 k;have ih0 := rule_Match.mono_l k;unfold rule_Match.f
 repeat' first
   | (with_reducible exact ih0 _ _ _ _ _ _ _ _ _ _ _ _)
   | (with_reducible exact civil_Length.mono _ _ _)
   | (with_reducible exact rule_Check.mono _ _ _ _ _ _ _ _ _ _ _)
   | (with_reducible exact LeO.refl _)
   | (with_reducible exact LeO.none _)
   | (with_reducible refine LeO.ite ?_ ?_)
   | (with_reducible refine LeO.bind ?_ (fun _ => ?_))
   | exact ih0 _ _ _ _ _ _ _ _ _ _ _ _
   | exact civil_Length.mono _ _ _
   | exact rule_Check.mono _ _ _ _ _ _ _ _ _ _ _
   | exact LeO.none _
   | refine LeO.ite ?_ ?_
   | refine LeO.bind ?_ (fun _ => ?_)
def rule_Match.T14 : Bool × List (List Nat × List Nat) := (true, [([], []), ([0], [0]), ([1], [1]), ([2, 1, 1], [1, 2]), ([1], [1]), ([4, 1], [1, 4]), ([3, 5, 1], [1, 3, 5]), ([1, 6], [1, 6]), ([7, 3], [7]), ([8], [8]), ([9, 8], [8, 9]), ([10, 8, 8], [8, 10]), ([8], [8]), ([12, 8], [8, 12]), ([11, 13, 8], [8, 11, 13]), ([14, 11, 8], [8, 14]), ([15], [15]), ([15], [15]), ([17, 15], [15, 17]), ([16, 18, 15], [15, 16, 18]), ([19, 15], [15, 19]), ([20, 15, 15], [15, 20]), ([21, 15], [15, 21]), ([15], [15]), ([23, 15], [15, 23]), ([22, 24, 15], [15, 22, 24]), ([15, 25, 8], [8, 15, 25]), ([8, 26], [8, 26]), ([27, 21, 0, 1, 2, 3, 4, 5, 6, 7, 8, 9, 10, 11, 12, 13, 14, 15, 16, 17, 18, 19, 20, 21, 22, 23, 24, 25, 26, 27], [27]), ([28, 0, 1, 2, 3, 4, 5, 6, 7, 8, 9, 10, 11, 12, 13, 14, 15, 16, 17, 18, 19, 20, 21, 22, 23, 24, 25, 26, 27, 28], [])])
def rule_Match.B14 : List Nat := [0, 1, 3, 7, 3, 19, 63, 127, 255, 511, 1023, 2047, 511, 4607, 16383, 32767, 65535, 65535, 196607, 524287, 1048575, 2097151, 4194303, 65535, 8454143, 33554431, 67108863, 134217727, 268435455, 536870911]
theorem rule_Match.tab14 : rtab .any (opsOf Tryz.f6 14) = rule_Match.T14 := by kernel_rfl
theorem rule_Match.bits14 : waitsOk rule_Match.T14.2 rule_Match.B14 = true := by kernel_rfl
set_option maxHeartbeats 2000000 in
set_option maxRecDepth 100000 in
theorem rule_Match.calls (k : Nat) (a0_0 : Int) (a0_1 : Int) (a0_2 : Int) (a0_3 : Int) (a0_4 : Int) (a0_5 : Int) (a0_6 : Int) (a0_7 : Int) (a0_8 : Int) (a0_9 : Int) (a1 : Int) (r1 : Bool) (r2 : Option Int) (w : World) (h : rule_Match.f k a0_0 a0_1 a0_2 a0_3 a0_4 a0_5 a0_6 a0_7 a0_8 a0_9 a1 = some (r1, r2)) :
  Calls Tryz.prog 6 #[.agg #[.int .i64 a0_0, .int .i64 a0_1, .int .i64 a0_2, .int .i64 a0_3, .int .i64 a0_4, .int .i64 a0_5, .int .i64 a0_6, .int .i64 a0_7, .int .i64 a0_8, .int .i64 a0_9], .int .i64 a1] w fun e w' => e = .returned (.tuple #[.bool r1, errW r2]) ∧ Below w.heap.size w w' := by
 have hu32 := Tryz.underlying32;have hu30 := Tryz.underlying30;have hu27 := Tryz.underlying27;have hu49 := Tryz.underlying49;have HB := As (Below.refl w.heap.size w);have H : ((civil_Of.f a1).bind fun bt149 => (if bt149.2.2.2.isNone = true then ((rule_Check.f k a0_0 a0_1 a0_2 a0_3 a0_4 a0_5 a0_6 a0_7 a0_8 a0_9).bind fun t155 => (if t155.isNone = true then ((civil_Length.f k bt149.1 bt149.2.1).bind fun bt157 => (if bt157.2.isNone = true then (if a0_1 = 0 then (rule_Match.j0 k a1 true a0_0 a0_1 a0_2 a0_3 a0_4 a0_5 a0_6 a0_7 a0_8 a0_9) else (rule_Match.j0 k a1 (a0_1 == bt149.2.1) a0_0 a0_1 a0_2 a0_3 a0_4 a0_5 a0_6 a0_7 a0_8 a0_9)) else (none))) else (none))) else (none))) = some (r1, r2) := h;clear h;replace H := bE H;obtain ⟨⟨t149, t150, t151, t152⟩, A30, H⟩ := H;replace H : (if t152.isNone = true then ((rule_Check.f k a0_0 a0_1 a0_2 a0_3 a0_4 a0_5 a0_6 a0_7 a0_8 a0_9).bind fun t155 => (if t155.isNone = true then ((civil_Length.f k t149 t150).bind fun bt157 => (if bt157.2.isNone = true then (if a0_1 = 0 then (rule_Match.j0 k a1 true a0_0 a0_1 a0_2 a0_3 a0_4 a0_5 a0_6 a0_7 a0_8 a0_9) else (rule_Match.j0 k a1 (a0_1 == t150) a0_0 a0_1 a0_2 a0_3 a0_4 a0_5 a0_6 a0_7 a0_8 a0_9)) else (none))) else (none))) else (none)) = some (r1, r2) := H;have A3 := As A30;clear A30
 rcases t152 with _ | q154
 ·have H1 : ((rule_Check.f k a0_0 a0_1 a0_2 a0_3 a0_4 a0_5 a0_6 a0_7 a0_8 a0_9).bind fun t155 => (if t155.isNone = true then ((civil_Length.f k t149 t150).bind fun bt157 => (if bt157.2.isNone = true then (if a0_1 = 0 then (rule_Match.j0 k a1 true a0_0 a0_1 a0_2 a0_3 a0_4 a0_5 a0_6 a0_7 a0_8 a0_9) else (rule_Match.j0 k a1 (a0_1 == t150) a0_0 a0_1 a0_2 a0_3 a0_4 a0_5 a0_6 a0_7 a0_8 a0_9)) else (none))) else (none))) = some (r1, r2) := by rw [if_pos no0] at H; exact H
  clear H;have H := H1;clear H1
  try simp only [errW_none, errW_some]
  replace H := bE H;obtain ⟨t155, A40, H⟩ := H;replace H : (if t155.isNone = true then ((civil_Length.f k t149 t150).bind fun bt157 => (if bt157.2.isNone = true then (if a0_1 = 0 then (rule_Match.j0 k a1 true a0_0 a0_1 a0_2 a0_3 a0_4 a0_5 a0_6 a0_7 a0_8 a0_9) else (rule_Match.j0 k a1 (a0_1 == t150) a0_0 a0_1 a0_2 a0_3 a0_4 a0_5 a0_6 a0_7 a0_8 a0_9)) else (none))) else (none)) = some (r1, r2) := H;have A4 := As A40;clear A40
  rcases t155 with _ | q156
  ·have H1 : ((civil_Length.f k t149 t150).bind fun bt157 => (if bt157.2.isNone = true then (if a0_1 = 0 then (rule_Match.j0 k a1 true a0_0 a0_1 a0_2 a0_3 a0_4 a0_5 a0_6 a0_7 a0_8 a0_9) else (rule_Match.j0 k a1 (a0_1 == t150) a0_0 a0_1 a0_2 a0_3 a0_4 a0_5 a0_6 a0_7 a0_8 a0_9)) else (none))) = some (r1, r2) := by rw [if_pos no0] at H; exact H
   clear H;have H := H1;clear H1
   try simp only [errW_none, errW_some]
   replace H := bE H;obtain ⟨⟨t157, t158⟩, A50, H⟩ := H;replace H : (if t158.isNone = true then (if a0_1 = 0 then (rule_Match.j0 k a1 true a0_0 a0_1 a0_2 a0_3 a0_4 a0_5 a0_6 a0_7 a0_8 a0_9) else (rule_Match.j0 k a1 (a0_1 == t150) a0_0 a0_1 a0_2 a0_3 a0_4 a0_5 a0_6 a0_7 a0_8 a0_9)) else (none)) = some (r1, r2) := H;have A5 := As A50;clear A50
   rcases t158 with _ | q159
   ·have H1 : (if a0_1 = 0 then (rule_Match.j0 k a1 true a0_0 a0_1 a0_2 a0_3 a0_4 a0_5 a0_6 a0_7 a0_8 a0_9) else (rule_Match.j0 k a1 (a0_1 == t150) a0_0 a0_1 a0_2 a0_3 a0_4 a0_5 a0_6 a0_7 a0_8 a0_9)) = some (r1, r2) := by rw [if_pos no0] at H; exact H
    clear H;have H := H1;clear H1
    try simp only [errW_none, errW_some]
    have HC6 := As H;clear H
    go_enter Tryz.func6, Tryz.ntmps6
    go_upto_region 7 with (first | ((with_reducible refine gate_dst (N := 2) rfl ?_); refine box_event ?hg (N := 2) ?hd (cs := #[.int .i64 a0_0, .int .i64 a0_1, .int .i64 a0_2, .int .i64 a0_3, .int .i64 a0_4, .int .i64 a0_5, .int .i64 a0_6, .int .i64 a0_7, .int .i64 a0_8, .int .i64 a0_9]) (t := 32) ?hr ?_; (case hd => rfl); (case hg => rfl); (case hr => first | (go_simp; done) | (go_simp; rfl)); intro gb148 hg w7 hbox hb; have BK148 := As (hbox); have GW148 := As ((gz hg (be HB.out) : w.heap.size ≤ gb148)); have GE148 := As ((gz hg (be HB.out) : w.heap.size ≤ gb148)); replace HB := As (XT (be HB.out) hb); clear hb hbox hg) | ((with_reducible refine gate_callee (f := 17) rfl ?_); refine goesL_ (some 16) rfl rfl Tryz.func17 kr rfl #[.int .i64 a1] rfl sa ?_; (with_reducible refine (civil_Of.calls a1 _ _ _ _ _ A3.out).mono ?_); rintro e w8 ⟨rfl, hb⟩; refine ⟨_, rfl, ?_⟩; replace BK148 := As (YB (g := gb148) (o := .cells #[.int .i64 a0_0, .int .i64 a0_1, .int .i64 a0_2, .int .i64 a0_3, .int .i64 a0_4, .int .i64 a0_5, .int .i64 a0_6, .int .i64 a0_7, .int .i64 a0_8, .int .i64 a0_9] 32 (0, 0)) (bk BK148.out) hb); replace HB := As (XT (be HB.out) hb); (try clear hb); (try clear hb2); (try clear hk); (try clear hi); (try simp only [errW_none, errW_some])) | ((with_reducible refine gate_dst (N := 6) rfl ?_); refine box_event ?hg (N := 6) ?hd (cs := #[.int .i64 0, .int .i64 0, .int .i64 0]) (t := 30) ?hr ?_; (case hd => rfl); (case hg => rfl); (case hr => first | (go_simp; done) | (go_simp; rfl)); intro gb153 hg w9 hbox hb; have BK153 := As (hbox); have GW153 := As ((gz hg (be HB.out) : w.heap.size ≤ gb153)); have GE153 := As ((gz hg (be HB.out) : w.heap.size ≤ gb153)); replace HB := As (XT (be HB.out) hb); have NB148_153 := As ((nl hg (bk BK148.out) : gb148 ≠ gb153)); have NB153_148 := As ((ng hg (bk BK148.out) : gb153 ≠ gb148)); replace BK148 := As (YB (g := gb148) (o := .cells #[.int .i64 a0_0, .int .i64 a0_1, .int .i64 a0_2, .int .i64 a0_3, .int .i64 a0_4, .int .i64 a0_5, .int .i64 a0_6, .int .i64 a0_7, .int .i64 a0_8, .int .i64 a0_9] 32 (0, 0)) (bk BK148.out) hb); clear hb hbox hg; have hnb10 := NB153_148.out; have hnc10 := NB148_153.out; obtain ⟨hcz11_0, hcz11_1, hcz11_2, hfz11_0, hfz11_1, hfz11_2⟩ := cz3 BK153.out; obtain ⟨hcz12_0, hcz12_1, hcz12_2, hcz12_3, hcz12_4, hcz12_5, hcz12_6, hcz12_7, hcz12_8, hcz12_9, hfz12_0, hfz12_1, hfz12_2, hfz12_3, hfz12_4, hfz12_5, hfz12_6, hfz12_7, hfz12_8, hfz12_9⟩ := cz10 BK148.out) | (go_at_call 10; (with_reducible refine (rule_Check.calls k a0_0 a0_1 a0_2 a0_3 a0_4 a0_5 a0_6 a0_7 a0_8 a0_9 _ _ A4.out).mono ?_); rintro e w13 ⟨rfl, hb⟩; replace BK148 := As (YB (g := gb148) (o := .cells #[.int .i64 a0_0, .int .i64 a0_1, .int .i64 a0_2, .int .i64 a0_3, .int .i64 a0_4, .int .i64 a0_5, .int .i64 a0_6, .int .i64 a0_7, .int .i64 a0_8, .int .i64 a0_9] 32 (0, 0)) (by (iterate 3 ((with_reducible repeat (first | refine YN ?_ _ | refine YD ?_ | refine YA ?_ _)); refine blk_far ?_ NB148_153.out _)); (with_reducible repeat (first | refine YN ?_ _ | refine YD ?_ | refine YA ?_ _)); exact BK148.out) hb); replace BK153 := As (YB (g := gb153) (o := .cells #[.int .i64 t149, .int .i64 t150, .int .i64 t151] 30 (0, 0)) (by apply blk_to; (iterate 3 ((with_reducible repeat (first | refine YN ?_ _ | refine YD ?_ | refine YA ?_ _)); apply blk_set)); (with_reducible repeat (first | refine YN ?_ _ | refine YD ?_ | refine YA ?_ _)); exact BK153.out; simp only [z0,z1,z2]) hb); replace HB := As (XT (be HB.out) hb); (try clear hb); (try clear hb2); (try clear hk); (try clear hi); (try simp only [errW_none, errW_some]); obtain ⟨hcz14_0, hcz14_1, hcz14_2, hfz14_0, hfz14_1, hfz14_2⟩ := cz3 BK153.out) | ((with_reducible refine gate_callee (f := 18) rfl ?_); refine goesL_ (some 32) rfl rfl Tryz.func18 kr rfl #[.int .i64 t149, .int .i64 t150] rfl sa ?_; (with_reducible refine (civil_Length.calls k _ _ _ _ _ A5.out).mono ?_); rintro e w' ⟨rfl, ⟨nd, rfl⟩⟩; refine ⟨_, rfl, ?_⟩; (try simp only [errW_none, errW_some])))
    (try simp only [Act.put, List.setIfInBounds_toArray, List.set_cons_zero, List.set_cons_succ])
    go_cut [9] (fun v9 wc => ∃ (kq : Nat) (x9_5 : Bool), v9 = .bool x9_5 ∧ Aside0 (rule_Match.j0 kq a1 x9_5 a0_0 a0_1 a0_2 a0_3 a0_4 a0_5 a0_6 a0_7 a0_8 a0_9 = some (r1, r2)) ∧ Aside0 (kq ≤ k) ∧ Aside0 (wc.heap[gb148]? = some (.cells #[.int .i64 a0_0, .int .i64 a0_1, .int .i64 a0_2, .int .i64 a0_3, .int .i64 a0_4, .int .i64 a0_5, .int .i64 a0_6, .int .i64 a0_7, .int .i64 a0_8, .int .i64 a0_9] 32 (0, 0))) ∧ Aside0 (wc.heap[gb153]? = some (.cells #[.int .i64 t149, .int .i64 t150, .int .i64 t151] 30 (0, 0))) ∧ Aside0 (Below w.heap.size w wc))
    case first =>
     have H := HC6.out;clear HC6
     by_cases c15 : a0_1 = 0
     ·rw [if_pos c15] at H;have c15b0 : (a0_1 == 0) = true := beq_iff_eq.mpr c15;have c15b1 : (a0_1 != 0) = false := bne_eq_false_iff_eq.mpr c15;clear c15
      (first | rw [c15b0] | (simp only [i64_w, i32_w]; rw [c15b0]) | skip)
      have H' := As H;clear H;have hnb16 := NB148_153.out;have hnc16 := NB153_148.out;obtain ⟨hcz17_0, hcz17_1, hcz17_2, hcz17_3, hcz17_4, hcz17_5, hcz17_6, hcz17_7, hcz17_8, hcz17_9, hfz17_0, hfz17_1, hfz17_2, hfz17_3, hfz17_4, hfz17_5, hfz17_6, hfz17_7, hfz17_8, hfz17_9⟩ := cz10 BK148.out
      go_wp2
      go_meet
      case rel => exact ⟨_, (true), sw, H', ⟨by first | omega | exact Nat.le_refl _⟩, ⟨by (with_reducible repeat (first | refine YN ?_ _ | refine YD ?_ | refine YA ?_ _)); exact BK148.out⟩, ⟨by (with_reducible repeat (first | refine YN ?_ _ | refine YD ?_ | refine YA ?_ _)); exact BK153.out⟩, ⟨by repeat (first | (with_reducible first | exact HB.out | apply XA | apply XN | apply XD | refine XS ?_ GE148.out | refine XS ?_ GE153.out) | exact HB.out)⟩⟩
     ·rw [if_neg c15] at H;have c15b0 : (a0_1 == 0) = false := beq_eq_false_iff_ne.mpr c15;have c15b1 : (a0_1 != 0) = true := bne_iff_ne.mpr c15
      (first | rw [c15b0] | (simp only [i64_w, i32_w]; rw [c15b0]) | skip)
      have H' := As H;clear H;have hnb18 := NB148_153.out;have hnc18 := NB153_148.out;obtain ⟨hcz19_0, hcz19_1, hcz19_2, hcz19_3, hcz19_4, hcz19_5, hcz19_6, hcz19_7, hcz19_8, hcz19_9, hfz19_0, hfz19_1, hfz19_2, hfz19_3, hfz19_4, hfz19_5, hfz19_6, hfz19_7, hfz19_8, hfz19_9⟩ := cz10 BK148.out;obtain ⟨hcz20_0, hcz20_1, hcz20_2, hfz20_0, hfz20_1, hfz20_2⟩ := cz3 BK153.out
      go_wp2
      go_meet
      case rel => exact ⟨_, ((a0_1 == t150)), sw, H', ⟨by first | omega | exact Nat.le_refl _⟩, ⟨by (with_reducible repeat (first | refine YN ?_ _ | refine YD ?_ | refine YA ?_ _)); exact BK148.out⟩, ⟨by (with_reducible repeat (first | refine YN ?_ _ | refine YD ?_ | refine YA ?_ _)); exact BK153.out⟩, ⟨by repeat (first | (with_reducible first | exact HB.out | apply XA | apply XN | apply XD | refine XS ?_ GE148.out | refine XS ?_ GE153.out) | exact HB.out)⟩⟩
    case rest =>
     clear HC6
     try clear c1
     try clear q1
     try clear p2
     try clear c6
     try clear p6
     try clear c10
     try clear c15
     try clear c15b0
     try clear c15b1
     try clear q15
     try clear c16
     try clear c17
     try clear c18
     try clear hcz11_0 hcz11_1 hcz11_2
     try clear hcz12_0 hcz12_1 hcz12_2 hcz12_3 hcz12_4 hcz12_5 hcz12_6 hcz12_7 hcz12_8 hcz12_9
     try clear hcz14_0 hcz14_1 hcz14_2
     try clear hcz17_0 hcz17_1 hcz17_2 hcz17_3 hcz17_4 hcz17_5 hcz17_6 hcz17_7 hcz17_8 hcz17_9
     try clear hcz19_0 hcz19_1 hcz19_2 hcz19_3 hcz19_4 hcz19_5 hcz19_6 hcz19_7 hcz19_8 hcz19_9
     try clear hcz20_0 hcz20_1 hcz20_2
     try clear hfz11_0 hfz11_1 hfz11_2
     try clear hfz12_0 hfz12_1 hfz12_2 hfz12_3 hfz12_4 hfz12_5 hfz12_6 hfz12_7 hfz12_8 hfz12_9
     try clear hfz14_0 hfz14_1 hfz14_2
     try clear hfz17_0 hfz17_1 hfz17_2 hfz17_3 hfz17_4 hfz17_5 hfz17_6 hfz17_7 hfz17_8 hfz17_9
     try clear hfz19_0 hfz19_1 hfz19_2 hfz19_3 hfz19_4 hfz19_5 hfz19_6 hfz19_7 hfz19_8 hfz19_9
     try clear hfz20_0 hfz20_1 hfz20_2
     try clear q154
     try clear q156
     try clear q159
     obtain ⟨kq, x9_5, rfl, HA, HJ5, BK148, BK153, HB⟩ := hcut
     cases kq with
     | zero => exact absurd HA.out (by simp [rule_Match.j0])
     | succ kj5 =>
      have H := HA.out;clear HA;simp only [rule_Match.j0] at H
      by_cases c21 : a0_0 = 0
      ·rw [if_pos c21] at H;exact absurd H (by simp)
      ·rw [if_neg c21] at H;have c21b0 : (a0_0 == 0) = false := beq_eq_false_iff_ne.mpr c21;have c21b1 : (a0_0 != 0) = true := bne_iff_ne.mpr c21
       by_cases c22 : a0_0 = 1
       ·rw [if_pos c22] at H;exact absurd H (by simp)
       ·rw [if_neg c22] at H;have c22b0 : (a0_0 == 1) = false := beq_eq_false_iff_ne.mpr c22;have c22b1 : (a0_0 != 1) = true := bne_iff_ne.mpr c22
        by_cases c23 : a0_0 = 2
        ·rw [if_pos c23] at H;have c23b0 : (a0_0 == 2) = true := beq_iff_eq.mpr c23;have c23b1 : (a0_0 != 2) = false := bne_eq_false_iff_eq.mpr c23;clear c23
         by_cases c24 : x9_5 = true
         ·subst c24
          have H1 : ((civil_Weekday.f a1).bind fun t160 => (if t160 = a0_3 then (none) else (some (false, none)))) = some (r1, r2) := by rw [if_pos rfl] at H; exact H
          clear H;have H := H1;clear H1;replace H := bE H;obtain ⟨t160, A250, H⟩ := H;replace H : (if t160 = a0_3 then (none) else (some (false, none))) = some (r1, r2) := H;have A25 := As A250;clear A250
          by_cases c26 : t160 = a0_3
          ·rw [if_pos c26] at H;exact absurd H (by simp)
          ·rw [if_neg c26] at H;have c26b0 : (t160 == a0_3) = false := beq_eq_false_iff_ne.mpr c26;have c26b1 : (t160 != a0_3) = true := bne_iff_ne.mpr c26;simp only [Option.some.injEq, Prod.mk.injEq] at H;obtain ⟨rfl, rfl⟩ := H;have hnb27 := NB148_153.out;have hnc27 := NB153_148.out;obtain ⟨hcz28_0, hcz28_1, hcz28_2, hcz28_3, hcz28_4, hcz28_5, hcz28_6, hcz28_7, hcz28_8, hcz28_9, hfz28_0, hfz28_1, hfz28_2, hfz28_3, hfz28_4, hfz28_5, hfz28_6, hfz28_7, hfz28_8, hfz28_9⟩ := cz10 BK148.out
           try go_wp2
           replace BK148 := As (YD BK148.out);replace BK153 := As (YD BK153.out);replace HB := As (XD HB.out);refine start_ (n := 30) (S := fun w' => w'.cell? ⟨gb148, 0, none⟩ = some (.int .i64 a0_0) ∧ w'.cell? ⟨gb148, 1, none⟩ = some (.int .i64 a0_1) ∧ w'.cell? ⟨gb148, 2, none⟩ = some (.int .i64 a0_2) ∧ w'.cell? ⟨gb148, 3, none⟩ = some (.int .i64 a0_3) ∧ w'.cell? ⟨gb148, 4, none⟩ = some (.int .i64 a0_4) ∧ w'.cell? ⟨gb148, 5, none⟩ = some (.int .i64 a0_5) ∧ w'.cell? ⟨gb148, 6, none⟩ = some (.int .i64 a0_6) ∧ w'.cell? ⟨gb148, 7, none⟩ = some (.int .i64 a0_7) ∧ w'.cell? ⟨gb148, 8, none⟩ = some (.int .i64 a0_8) ∧ w'.cell? ⟨gb148, 9, none⟩ = some (.int .i64 a0_9)) (ds := []) (fl 0 30) kr rfl rfl (cy10 BK148.out) (fun hHeld => ?_); refine with_tabW rule_Match.tab14 rule_Match.bits14 (fun HT_ HW_ => ?_);generalize wc.drew = w29 at BK148 BK153 HB hHeld ⊢;refine pure_ (i := 0) (N := some 79) (v := ?_) (a' := ?_) (fl 1 29) rfl rfl (any_of HT_.out kr) (fun _ _ _ h => h) (Or.inl ⟨by rfl, ?_⟩) ?_ ?_;rotate_left;(intro w';go_simp;with_reducible rfl);rotate_left;(simp only [Act.put,z0,z1,z2,i64_w,i32_w];rfl);refine pure_ (i := 1) (N := some 80) (v := ?_) (a' := ?_) (fl 2 28) rfl rfl (any_of HT_.out kr) (fun _ _ _ h => h) (Or.inl ⟨by rfl, ?_⟩) ?_ ?_;rotate_left;(intro w';go_simp;with_reducible rfl);rotate_left;(simp only [Act.put,z0,z1,z2,i64_w,i32_w];rfl);refine pure_ (i := 2) (N := some 81) (v := ?_) (a' := ?_) (fl 3 27) rfl rfl (any_of HT_.out kr) (fun _ _ _ h => h) (Or.inl ⟨by rfl, ?_⟩) ?_ ?_;rotate_left;(intro w';go_simp;with_reducible rfl);rotate_left;(simp only [Act.put,z0,z1,z2,i64_w,i32_w];rfl);refine pure_ (i := 4) (N := some 83) (v := ?_) (a' := ?_) #[Y,Y,Y,O,Y,O,O,O,O,O,O,O,O,O,O,O,O,O,O,O,O,O,O,O,O,O,O,O,O,O] rfl rfl (any_of HT_.out kr) (fun _ _ _ h => h) (Or.inl ⟨by rfl, ?_⟩) ?_ ?_;rotate_left;(intro w';go_simp;with_reducible rfl);rotate_left;(simp only [Act.put,z0,z1,z2,i64_w,i32_w];rfl);refine take_ (i := 5) (N := some 84) (v := ?_) (a' := ?_) #[Y,Y,Y,O,Y,Y,O,O,O,O,O,O,O,O,O,O,O,O,O,O,O,O,O,O,O,O,O,O,O,O] rfl rfl (take_ofW HT_.out HW_.out kr) (fun _ _ _ h => h) (Or.inl ⟨by rfl, ?_⟩) hHeld ?_ ?_;rotate_left;(rintro w' ⟨s0, s1, s2, s3, s4, s5, s6, s7, s8, s9⟩;go_simp;with_reducible rfl);rotate_left;(simp only [Act.put,z0,z1,z2,i64_w,i32_w];rfl);refine one_ (i := 3) (N := some 82) (fl 6 24) rfl rfl (one_of HT_.out kr) (by decide) (fun K hK => ?_);refine goes_ Tryz.func19 kr rfl #[.int .i64 a1] (by rfl) rfl rfl sa ?_
           with_reducible refine (civil_Weekday.calls a1 _ _ A25.out).mono ?_
           rintro e w' ⟨rfl, ⟨nd, rfl⟩⟩;refine ⟨_, rfl, ?_⟩;refine hK.out _ _ (cy10 BK148.out) (fun hHeld => ?_);clear hK K;refine norm_ (a' := ?_) ?_ ?_;rotate_left
           ·show Act.put _ (some 82) _ = _
            simp only [Act.put, z0,z1,z2,i64_w,i32_w];rfl
           refine pure_ (i := 6) (N := some 85) (v := ?_) (a' := ?_) (fl 7 23) rfl rfl (any_of HT_.out kr) (fun _ _ _ h => h) (Or.inl ⟨by rfl, ?_⟩) ?_ ?_;rotate_left;(intro w';go_simp;with_reducible rfl);rotate_left;(simp only [Act.put,z0,z1,z2,i64_w,i32_w];rfl);refine pure_ (i := 7) (N := some 86) (v := ?_) (a' := ?_) (fl 8 22) rfl rfl (any_of HT_.out kr) (fun _ _ _ h => h) (Or.inl ⟨by rfl, ?_⟩) ?_ ?_;rotate_left;(intro w';go_simp;with_reducible rfl);rotate_left;(simp only [Act.put,z0,z1,z2,i64_w,i32_w];rfl);refine pure_ (i := 8) (N := some 87) (v := ?_) (a' := ?_) (fl 9 21) rfl rfl (any_of HT_.out kr) (fun _ _ _ h => h) (Or.inl ⟨by rfl, ?_⟩) ?_ ?_;rotate_left;(intro w';go_simp;with_reducible rfl);rotate_left;(simp only [Act.put,z0,z1,z2,i64_w,i32_w];rfl);refine pure_ (i := 9) (N := some 88) (v := undef) (a' := ?_) (fl 10 20) rfl rfl (any_of HT_.out kr) (fun _ _ _ h => h) (Or.inr ⟨by rfl, rfl⟩) ?_ ?_;rotate_left
           ·simp only [Act.put, z0,z1,z2,i64_w,i32_w];rfl
           refine pure_ (i := 10) (N := some 89) (v := undef) (a' := ?_) (fl 11 19) rfl rfl (any_of HT_.out kr) (fun _ _ _ h => h) (Or.inr ⟨by rfl, rfl⟩) ?_ ?_;rotate_left
           ·simp only [Act.put, z0,z1,z2,i64_w,i32_w];rfl
           refine pure_ (i := 11) (N := some 90) (v := undef) (a' := ?_) (fl 12 18) rfl rfl (any_of HT_.out kr) (fun _ _ _ h => h) (Or.inr ⟨by rfl, rfl⟩) ?_ ?_;rotate_left
           ·simp only [Act.put, z0,z1,z2,i64_w,i32_w];rfl
           refine pure_ (i := 12) (N := some 91) (v := undef) (a' := ?_) (fl 13 17) rfl rfl (any_of HT_.out kr) (fun _ _ _ h => h) (Or.inr ⟨by rfl, rfl⟩) ?_ ?_;rotate_left
           ·simp only [Act.put, z0,z1,z2,i64_w,i32_w];rfl
           refine pure_ (i := 13) (N := some 92) (v := undef) (a' := ?_) (fl 14 16) rfl rfl (any_of HT_.out kr) (fun _ _ _ h => h) (Or.inr ⟨by rfl, rfl⟩) ?_ ?_;rotate_left
           ·simp only [Act.put, z0,z1,z2,i64_w,i32_w];rfl
           refine pure_ (i := 14) (N := some 93) (v := undef) (a' := ?_) (fl 15 15) rfl rfl (any_of HT_.out kr) (fun _ _ _ h => h) (Or.inr ⟨by rfl, rfl⟩) ?_ ?_;rotate_left
           ·simp only [Act.put, z0,z1,z2,i64_w,i32_w];rfl
           refine pure_ (i := 15) (N := some 94) (v := undef) (a' := ?_) (fl 16 14) rfl rfl (any_of HT_.out kr) (fun _ _ _ h => h) (Or.inr ⟨by rfl, rfl⟩) ?_ ?_;rotate_left
           ·simp only [Act.put, z0,z1,z2,i64_w,i32_w];rfl
           refine pure_ (i := 16) (N := some 95) (v := undef) (a' := ?_) (fl 17 13) rfl rfl (any_of HT_.out kr) (fun _ _ _ h => h) (Or.inr ⟨by rfl, rfl⟩) ?_ ?_;rotate_left
           ·simp only [Act.put, z0,z1,z2,i64_w,i32_w];rfl
           refine pure_ (i := 17) (N := some 96) (v := undef) (a' := ?_) (fl 18 12) rfl rfl (any_of HT_.out kr) (fun _ _ _ h => h) (Or.inr ⟨by rfl, rfl⟩) ?_ ?_;rotate_left
           ·simp only [Act.put, z0,z1,z2,i64_w,i32_w];rfl
           refine pure_ (i := 18) (N := some 97) (v := undef) (a' := ?_) (fl 19 11) rfl rfl (any_of HT_.out kr) (fun _ _ _ h => h) (Or.inr ⟨by rfl, rfl⟩) ?_ ?_;rotate_left
           ·simp only [Act.put, z0,z1,z2,i64_w,i32_w];rfl
           refine pure_ (i := 19) (N := some 98) (v := undef) (a' := ?_) (fl 20 10) rfl rfl (any_of HT_.out kr) (fun _ _ _ h => h) (Or.inr ⟨by rfl, rfl⟩) ?_ ?_;rotate_left
           ·simp only [Act.put, z0,z1,z2,i64_w,i32_w];rfl
           refine pure_ (i := 20) (N := some 99) (v := undef) (a' := ?_) (fl 21 9) rfl rfl (any_of HT_.out kr) (fun _ _ _ h => h) (Or.inr ⟨by rfl, rfl⟩) ?_ ?_;rotate_left
           ·simp only [Act.put, z0,z1,z2,i64_w,i32_w];rfl
           refine pure_ (i := 21) (N := some 100) (v := undef) (a' := ?_) (fl 22 8) rfl rfl (any_of HT_.out kr) (fun _ _ _ h => h) (Or.inr ⟨by rfl, rfl⟩) ?_ ?_;rotate_left
           ·simp only [Act.put, z0,z1,z2,i64_w,i32_w];rfl
           refine pure_ (i := 22) (N := some 101) (v := undef) (a' := ?_) (fl 23 7) rfl rfl (any_of HT_.out kr) (fun _ _ _ h => h) (Or.inr ⟨by rfl, rfl⟩) ?_ ?_;rotate_left
           ·simp only [Act.put, z0,z1,z2,i64_w,i32_w];rfl
           refine pure_ (i := 23) (N := some 102) (v := undef) (a' := ?_) (fl 24 6) rfl rfl (any_of HT_.out kr) (fun _ _ _ h => h) (Or.inr ⟨by rfl, rfl⟩) ?_ ?_;rotate_left
           ·simp only [Act.put, z0,z1,z2,i64_w,i32_w];rfl
           refine pure_ (i := 24) (N := some 103) (v := undef) (a' := ?_) (fl 25 5) rfl rfl (any_of HT_.out kr) (fun _ _ _ h => h) (Or.inr ⟨by rfl, rfl⟩) ?_ ?_;rotate_left
           ·simp only [Act.put, z0,z1,z2,i64_w,i32_w];rfl
           refine pure_ (i := 25) (N := some 104) (v := undef) (a' := ?_) (fl 26 4) rfl rfl (any_of HT_.out kr) (fun _ _ _ h => h) (Or.inr ⟨by rfl, rfl⟩) ?_ ?_;rotate_left
           ·simp only [Act.put, z0,z1,z2,i64_w,i32_w];rfl
           refine pure_ (i := 26) (N := some 105) (v := undef) (a' := ?_) (fl 27 3) rfl rfl (any_of HT_.out kr) (fun _ _ _ h => h) (Or.inr ⟨by rfl, rfl⟩) ?_ ?_;rotate_left
           ·simp only [Act.put, z0,z1,z2,i64_w,i32_w];rfl
           refine pure_ (i := 27) (N := some 106) (v := ?_) (a' := ?_) (fl 28 2) rfl rfl (any_of HT_.out kr) (fun _ _ _ h => h) (Or.inl ⟨by rfl, ?_⟩) ?_ ?_;rotate_left;(intro w';go_simp;with_reducible rfl);rotate_left;(simp only [Act.put,z0,z1,z2,i64_w,i32_w];rfl);refine pure_ (i := 28) (N := some 4) (v := ?_) (a' := ?_) (fl 29 1) rfl rfl (any_of HT_.out kr) (fun _ _ _ h => h) (Or.inl ⟨by rfl, ?_⟩) ?_ ?_;rotate_left;(intro w';go_simp;with_reducible rfl);rotate_left;(simp only [Act.put,z0,z1,z2,i64_w,i32_w];rfl);refine pure_ (i := 29) (N := some 5) (v := ?_) (a' := ?_) (fl 30 0) rfl rfl (any_of HT_.out kr) (fun _ _ _ h => h) (Or.inl ⟨by rfl, ?_⟩) ?_ ?_;rotate_left;(intro w';go_simp;with_reducible rfl);rotate_left;(simp only [Act.put,z0,z1,z2,i64_w,i32_w];rfl);refine done_ (done_of HT_.out kr) ?_
           try go_wp2
           go_ret2
           exact ⟨by first | rfl | (simp [errW_none, errW_some] <;> rfl) | (simp [*, errW_none, errW_some] <;> rfl), by repeat (first | (with_reducible first | exact HB.out | apply XA | apply XN | apply XD | refine XS ?_ GE148.out | refine XS ?_ GE153.out) | exact HB.out)⟩
         ·replace c24 := Bool.eq_false_iff.mpr c24;subst c24
          have H1 : (none) = some (r1, r2) := by rw [if_neg (show ¬ (false = true) by decide)] at H; exact H
          clear H;have H := H1;clear H1;exact absurd H (by simp)
        ·rw [if_neg c23] at H;exact absurd H (by simp)
   ·have H1 : (none) = some (r1, r2) := by rw [if_neg (show ¬ (some q159).isNone = true by simp)] at H; exact H
    clear H;have H := H1;clear H1
    try simp only [errW_none, errW_some]
    exact absurd H (by simp)
  ·have H1 : (none) = some (r1, r2) := by rw [if_neg (show ¬ (some q156).isNone = true by simp)] at H; exact H
   clear H;have H := H1;clear H1
   try simp only [errW_none, errW_some]
   exact absurd H (by simp)
 ·have H1 : (none) = some (r1, r2) := by rw [if_neg (show ¬ (some q154).isNone = true by simp)] at H; exact H
  clear H;have H := H1;clear H1
  try simp only [errW_none, errW_some]
  exact absurd H (by simp)

end Go.Proofs.YtpagbmkdphdjoaaGreatDoor.P
-- SHRUNK
-- PACKED
-- PACKED2
