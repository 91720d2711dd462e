-- written by myprint.py (this claim's own program, after the kit's print)
import Derived.Test.YtpagbmkdphdjoaaGreatDoorPx0
import Derived.Test.YtpagbmkdphdjoaaGreatDoorPx9
import Derived.Test.YtpagbmkdphdjoaaGreatDoorRuCut
import Derived.Test.YtpagbmkdphdjoaaGreatDoorRuItoa
import Derived.Test.YtpagbmkdphdjoaaGreatDoorPack
namespace Go.Proofs.YtpagbmkdphdjoaaGreatDoor.P
open Go.RowKit Go.Proofs.YtpagbmkdphdjoaaGreatDoorW.PrintWords Go.Proofs.YtpagbmkdphdjoaaGreatDoorW.PrintLast Go.Proofs.YtpagbmkdphdjoaaGreatDoorW.PrintMore
attribute [local go_sem] max2_int min2_int max_two min_two max_three min_three max_four min_four   -- for this text's walks alone
set_option linter.unusedVariables false
set_option linter.unusedSimpArgs false

/-! ### rule_digits: function 31 -/
def rule_digits.l0 : Nat → ByteArray → List ByteArray → List Int → Int → Int → Option (ByteArray)
 | 0, _, _, _, _, _ => none
 | k + 1, x0, x5, x8, x9, x10 => if x10 < x9 then (if 0 ≤ x10 then (if x10 < (x8.length : Int) then ((strconv_Itoa_47.f (rd x8 x10)).bind fun t180 => (if x5.length < 8796093022208 then (rule_digits.l0 k x0 (x5 ++ [t180]) x8 x9 (wrap64 (x10 + 1))) else (none))) else (none)) else (none)) else ((strings_Join.f x5 x0).bind fun t184 => (some t184))
def rule_digits.f (k : Nat) (a0 : ByteArray) (l1 : List Int) : Option (ByteArray) := rule_digits.l0 k a0 ([] : List ByteArray) l1 (l1.length : Int) 0
theorem rule_digits.mono_l : ∀ k, (∀ y0 y1 y2 y3 y4, LeO (rule_digits.l0 k y0 y1 y2 y3 y4) (rule_digits.l0 (k + 1) y0 y1 y2 y3 y4))
 | 0 => fun _ _ _ _ _ r h => by simp [rule_digits.l0] at h
 | k + 1 => by
  have ih0 := rule_digits.mono_l k
  ·intro y0 y1 y2 y3 y4;unfold rule_digits.l0
   repeat' first
   | (with_reducible exact ih0 _ _ _ _ _)
   | (with_reducible exact LeO.refl _)
   | (with_reducible exact LeO.none _)
   | (with_reducible refine LeO.ite ?_ ?_)
   | (with_reducible refine LeO.bind ?_ (fun _ => ?_))
   | exact ih0 _ _ _ _ _
   | exact LeO.none _
   | refine LeO.ite ?_ ?_
   | refine LeO.bind ?_ (fun _ => ?_)
theorem rule_digits.mono : ∀ a0 a1 k, LeO (rule_digits.f k a0 a1) (rule_digits.f (k + 1) a0 a1) := by
 intro a0 a1 k;have ih0 := rule_digits.mono_l k;unfold rule_digits.f
 repeat' first
   | (with_reducible exact ih0 _ _ _ _ _)
   | (with_reducible exact LeO.refl _)
   | (with_reducible exact LeO.none _)
   | (with_reducible refine LeO.ite ?_ ?_)
   | (with_reducible refine LeO.bind ?_ (fun _ => ?_))
   | exact ih0 _ _ _ _ _
   | exact LeO.none _
   | refine LeO.ite ?_ ?_
   | refine LeO.bind ?_ (fun _ => ?_)
set_option maxHeartbeats 2000000 in
set_option maxRecDepth 100000 in
theorem rule_digits.calls (k : Nat) (a0 : ByteArray) (A1 : Option Addr) (c1 : Nat) (l1 : List Int) (r : ByteArray) (w : World) (hr1 : Kd.C (Kd.int .i64) w A1 l1.length l1) (hc1 : l1.length ≤ c1) (h : rule_digits.f k a0 l1 = some r) (hG : GL w) :
  Calls Tryz.prog 31 #[.string a0, .slice A1 l1.length c1] w fun e w' => e = .returned (.string r) ∧ Below w.heap.size w w' := by
 have HR1 := As hr1;have HC1 := As hc1;clear hr1 hc1;have HB := As (Below.refl w.heap.size w);have H : (rule_digits.l0 k a0 ([] : List ByteArray) l1 (l1.length : Int) 0) = some r := h;clear h;have H' := As H;clear H
 go_enter Tryz.func31, Tryz.ntmps31
 go_wp2
 go_loopg [5, 10] k (fun kq v5 v10 w' => ∃ (x5_1 : List ByteArray) (x10_1 : Int), v10 = .int .i64 x10_1 ∧ Aside0 (rule_digits.l0 kq a0 x5_1 l1 (l1.length : Int) x10_1 = some r) ∧ Aside0 (kq ≤ k) ∧ Aside0 (Kd.R Kd.string 9 w' w.heap.size (fun _ => True) v5 x5_1) ∧ Aside0 (Below w.heap.size w w'))
 case atStart => exact ⟨(([] : List ByteArray)), (0), sw, H', ⟨Nat.le_refl _⟩, ⟨by first | exact Kd.R_nil _ _ _ _ _ | exact Kd.N_nil _ _ _ _ _ | exact Kd.V_nil _ _ _ _ _ | exact Kd.Q_nil _ _ _ _ _ | exact Kd.S_nil _ _ _ _ _⟩, ⟨by repeat (first | (with_reducible first | exact HB.out | apply XA | apply XN | apply XD) | exact HB.out)⟩⟩
 case round =>
  clear H'
  try clear c1
  try clear p2
  obtain ⟨x5_1, x10_1, rfl, HA, HK1, HO_5, HB⟩ := hrel
  cases gk with
  | zero => exact absurd HA.out (by simp [rule_digits.l0])
  | succ k1 =>
   have H := HA.out;clear HA;simp only [rule_digits.l0] at H
   by_cases c3 : x10_1 < (l1.length : Int)
   ·rw [if_pos c3] at H;have c3b0 : decide (x10_1 < (l1.length : Int)) = true := dY c3;clear c3
    by_cases c4 : 0 ≤ x10_1
    ·rw [if_pos c4] at H;have c4b0 : decide (0 ≤ x10_1) = true := dY c4;clear c4
     by_cases c5 : x10_1 < (l1.length : Int)
     ·rw [if_pos c5] at H;have c5b0 : decide (x10_1 < (l1.length : Int)) = true := dY c5;clear c5;replace H := bE H;obtain ⟨t180, A60, H⟩ := H;replace H : (if x5_1.length < 8796093022208 then (rule_digits.l0 k1 a0 (x5_1 ++ [t180]) l1 (l1.length : Int) (wrap64 (x10_1 + 1))) else (none)) = some r := H;have A6 := As A60;clear A60
      by_cases c7 : x5_1.length < 8796093022208
      ·rw [if_pos c7] at H;have LMc7 := As c7;clear c7
       obtain ⟨y181, hy181⟩ : ∃ y_ : List ByteArray, y_ = (x5_1 ++ [t180]) := ⟨_, rfl⟩
       replace H : (rule_digits.l0 k1 a0 y181 l1 (l1.length : Int) (wrap64 (x10_1 + 1))) = some r := by first | (rw [hy181]; with_reducible exact H) | (have H2_ := (Option.bind_some _ _).symm.trans H; rw [hy181]; with_reducible exact H2_) | (have H2_ := (Option.bind_some _ _).symm.trans H; with_reducible exact H2_) | with_reducible exact H | (rw [hy181]; exact H) | exact H
       have Ny181 := As hy181;clear hy181;have H' := As H;clear H;have p179 : 0 ≤ (x10_1 : Int) := dT hy;have q179 : x10_1 < (l1.length : Int) := dT hy;obtain ⟨ad179, e179, hx179_0⟩ := Kd.at_int HR1.out x10_1 p179 q179
       cases e179
       replace hx179_0 := (HB.out.cell (BL w _ hx179_0)).trans hx179_0;replace p179 := eq_true p179;replace q179 := eq_true q179
       go_wp2_with (first | ((with_reducible refine gate_callee (f := 47) rfl ?_); refine goesL_ (some 16) rfl rfl Tryz.func47 kr rfl #[.int .i64 (rd l1 x10_1)] rfl sa ?_; (with_reducible refine (strconv_Itoa_47.calls (rd l1 x10_1) t180 _ A6.out ?side1).mono ?_); (case side1 => first | (with_reducible exact hG) | exact GL.below hG (be HB.out) | (repeat (first | exact hG | apply GL.drewN | apply GL.drew | apply GL.alloc))); rintro e w8 ⟨rfl, hb⟩; refine ⟨_, rfl, ?_⟩; replace HO_5 := As (RB (ro HO_5.out) hb); replace HB := As (XT (be HB.out) hb); (try clear hb); (try clear hb2); (try clear hk); (try clear hi)) | ((with_reducible refine gate_builtin (b := .append) (xs := #[.tmp 14, .tmp 17]) rfl ?_); at_builtin; refine Kd.R_append Kd.string (w0 := w) w.heap.size rfl (.tmp 14) (.tmp 17) 66 9 (.string ⟨#[]⟩) 16 rfl Tryz.underlying66 info9 rfl (by decide) (by omega) u5 x5_1 t180 [.string t180] (fun _ => True) (fun _ => False) rfl rfl ?aP (fun _ hk => hk.elim) ?aF ?aO ?aB ?aS ?aL ?_; (case aP => exact rfl); (case aB => exact (be HB.out)); (case aF => exact (fun _ _ => trivial)); (case aO => exact (ro HO_5.out)); (case aS => exact (XZ (be HB.out))); (case aL => have := LMc7.out; omega); intro v182 w9 ho hb hg hat; rw [← Ny181.out] at ho; have n0_ := As (hb); have n1_ := As (ho); clear HB; clear HO_5; have HB := n0_; have HO183 := n1_; clear n0_ n1_; clear ho hb hg hat))
       go_roundg k1
       case measure => have := HK1.out; omega
       case rel => exact ⟨(y181), (wrap64 (x10_1 + 1)), sw, H', ⟨by have := HK1.out; omega⟩, ⟨by (with_reducible repeat (first | apply RA | apply RN | apply RD)); exact HO183.out⟩, ⟨by repeat (first | (with_reducible first | exact HB.out | apply XA | apply XN | apply XD) | exact HB.out)⟩⟩
      ·rw [if_neg c7] at H;exact absurd H (by simp)
     ·rw [if_neg c5] at H;exact absurd H (by simp)
    ·rw [if_neg c4] at H;exact absurd H (by simp)
   ·rw [if_neg c3] at H;have c3b0 : decide (x10_1 < (l1.length : Int)) = false := dN c3;clear c3;replace H := bE H;obtain ⟨t184, A100, H⟩ := H;replace H : (some t184) = some r := H;have A10 := As A100;clear A100;obtain rfl := Option.some.inj H;obtain ⟨Ao11, co11, eo11⟩ := Kd.R_slice HO_5.out;subst eo11
    go_wp2_with (first | ((with_reducible refine gate_callee (f := 48) rfl ?_); refine goesL_ (some 22) rfl rfl Tryz.func48 kr rfl #[.slice Ao11 x5_1.length co11, .string a0] rfl sa ?_; (with_reducible refine (strings_Join.calls _ _ x5_1 a0 _ _ ?side1 ?side2 A10.out).mono ?_); (case side1 => repeat (first | exact (RR HO_5.out).2.2 | (with_reducible refine Kd.C_alloc ?_ _) | (with_reducible refine Kd.C_drewN ?_ _) | (with_reducible refine Kd.C_drew ?_))); (case side2 => exact (RR HO_5.out).2.1); rintro e w12 ⟨rfl, hb⟩; refine ⟨_, rfl, ?_⟩; replace HO_5 := As (RB (ro HO_5.out) hb); replace HB := As (XT (be HB.out) hb); (try clear hb); (try clear hb2); (try clear hk); (try clear hi)))
    go_ret
    exact ⟨by first | rfl | (simp [errW_none, errW_some] <;> rfl) | (simp [*, errW_none, errW_some] <;> rfl), by repeat (first | (with_reducible first | exact HB.out | apply XA | apply XN | apply XD) | exact HB.out)⟩

/-! ### rule_date: function 32 -/
def rule_date.f (k : Nat) (a0_0 : Int) (a0_1 : Int) (a0_2 : Int) : Option (ByteArray) := (rule_digits.f k (⟨#[45]⟩ : ByteArray) (([a0_0, a0_1, a0_2] : List Int))).bind fun t189 => (some t189)
theorem rule_date.mono : ∀ a0 a1 a2 k, LeO (rule_date.f k a0 a1 a2) (rule_date.f (k + 1) a0 a1 a2) := by
 intro a0 a1 a2 k;unfold rule_date.f
 repeat' first
   | (with_reducible exact rule_digits.mono _ _ _)
   | (with_reducible exact LeO.refl _)
   | (with_reducible exact LeO.none _)
   | (with_reducible refine LeO.ite ?_ ?_)
   | (with_reducible refine LeO.bind ?_ (fun _ => ?_))
   | exact rule_digits.mono _ _ _
   | exact LeO.none _
   | refine LeO.ite ?_ ?_
   | refine LeO.bind ?_ (fun _ => ?_)
set_option maxHeartbeats 2000000 in
set_option maxRecDepth 100000 in
theorem rule_date.calls (k : Nat) (a0_0 : Int) (a0_1 : Int) (a0_2 : Int) (r : ByteArray) (w : World) (h : rule_date.f k a0_0 a0_1 a0_2 = some r) (hG : GL w) :
  Calls Tryz.prog 32 #[.agg #[.int .i64 a0_0, .int .i64 a0_1, .int .i64 a0_2]] w fun e w' => e = .returned (.string r) ∧ Below w.heap.size w w' := by
 have hu30 := Tryz.underlying30;have HB := As (Below.refl w.heap.size w);have H : ((rule_digits.f k (⟨#[45]⟩ : ByteArray) (([a0_0, a0_1, a0_2] : List Int))).bind fun t189 => (some t189)) = some r := h;clear h
 obtain ⟨y186, hy186⟩ : ∃ y_ : List Int, y_ = (([a0_0, a0_1, a0_2] : List Int)) := ⟨_, rfl⟩
 replace H : ((rule_digits.f k (⟨#[45]⟩ : ByteArray) y186).bind fun t189 => (some t189)) = some r := by first | (rw [hy186]; with_reducible exact H) | (have H2_ := (Option.bind_some _ _).symm.trans H; rw [hy186]; with_reducible exact H2_) | (have H2_ := (Option.bind_some _ _).symm.trans H; with_reducible exact H2_) | with_reducible exact H | (rw [hy186]; exact H) | exact H
 have Ny186 := As hy186;clear hy186;replace H := bE H;obtain ⟨t189, A20, H⟩ := H;replace H : (some t189) = some r := H;have A2 := As A20;clear A20;obtain rfl := Option.some.inj H
 go_enter Tryz.func32, Tryz.ntmps32
 go_wp2_with (first | ((with_reducible refine gate_dst (N := 1) rfl ?_); refine box_event ?hg (N := 1) ?hd (cs := #[.int .i64 a0_0, .int .i64 a0_1, .int .i64 a0_2]) (t := 30) ?hr ?_; (case hd => rfl); (case hg => rfl); (case hr => first | (go_simp; done) | (go_simp; rfl)); intro gb185 hg w3 hbox hb; have BK185 := As (hbox); have GW185 := As ((gz hg (be HB.out) : w.heap.size ≤ gb185)); have GE185 := As ((gz hg (be HB.out) : w.heap.size ≤ gb185)); replace HB := As (XT (be HB.out) hb); clear hb hbox hg; obtain ⟨hcz4_0, hcz4_1, hcz4_2, hfz4_0, hfz4_1, hfz4_2⟩ := cz3 BK185.out) | ((with_reducible refine gate_dst (N := 9) rfl ?_); refine Kd.R_lit (Kd.int .i64) _ 3 ?hg (N := 9) ?hd (xs := ([a0_0, a0_1, a0_2] : List Int)) (inner := [.int .i64 a0_0, .int .i64 a0_1, .int .i64 a0_2]) (ok := fun _ => True) (okp := fun _ => True) ?hr ?hp (fun _ hk => hk) trivial (Below.refl _ _) (Nat.le_refl _) (by simp) ?_; (case hd => rfl); (case hg => rfl); (case hr => first | (go_simp; done) | (go_simp; rfl)); (case hp => exact (Reps.one (show Kd.M (Kd.int .i64) _ _ _ a0_0 [.int .i64 a0_0] from rfl) (Reps.one (show Kd.M (Kd.int .i64) _ _ _ a0_1 [.int .i64 a0_1] from rfl) (Reps.one (show Kd.M (Kd.int .i64) _ _ _ a0_2 [.int .i64 a0_2] from rfl) (Reps.none _ _))))); intro v187 w5 ho6 hb hg_ hnew_; clear hg_ hnew_; (first | rw [← Ny186.out] at ho6 | (simp only [Int.reduceToNat] at ho6; rw [← Ny186.out] at ho6)); have HO188 := As (Kd.R_lower ho6 (XZ (be HB.out))); replace BK185 := As (YB (g := gb185) (o := .cells #[.int .i64 a0_0, .int .i64 a0_1, .int .i64 a0_2] 30 (0, 0)) (bk BK185.out) hb); replace HB := As (XT (be HB.out) hb); clear hb ho6; obtain ⟨Ao7, co7, eo7⟩ := Kd.R_slice HO188.out; subst eo7) | ((with_reducible refine gate_callee (f := 31) rfl ?_); refine goesL_ (some 10) rfl rfl Tryz.func31 kr rfl #[.string (⟨#[45]⟩ : ByteArray), .slice Ao7 y186.length co7] rfl sa ?_; (with_reducible refine (rule_digits.calls k (⟨#[45]⟩ : ByteArray) _ _ y186 t189 _ ?side1 ?side2 A2.out ?side3).mono ?_); (case side1 => repeat (first | exact (RR HO188.out).2.2 | (with_reducible refine Kd.C_alloc ?_ _) | (with_reducible refine Kd.C_drewN ?_ _) | (with_reducible refine Kd.C_drew ?_))); (case side2 => exact (RR HO188.out).2.1); (case side3 => first | (with_reducible exact hG) | exact GL.below hG (be HB.out) | (repeat (first | exact hG | apply GL.drewN | apply GL.drew | apply GL.alloc))); rintro e w8 ⟨rfl, hb⟩; refine ⟨_, rfl, ?_⟩; replace HO188 := As (RB (ro HO188.out) hb); replace BK185 := As (YB (g := gb185) (o := .cells #[.int .i64 a0_0, .int .i64 a0_1, .int .i64 a0_2] 30 (0, 0)) (bk BK185.out) hb); replace HB := As (XT (be HB.out) hb); (try clear hb); (try clear hb2); (try clear hk); (try clear hi)))
 go_ret
 exact ⟨by first | rfl | (simp [errW_none, errW_some] <;> rfl) | (simp [*, errW_none, errW_some] <;> rfl), by repeat (first | (with_reducible first | exact HB.out | apply XA | apply XN | apply XD | refine XS ?_ GE185.out) | exact HB.out)⟩

/-! ### rule_Text: function 13 -/
def rule_Text.f (k : Nat) (a0_0 : Int) (a0_1 : Int) (a0_2 : Int) (a0_3 : Int) (a0_4 : Int) (a0_5 : Int) (a0_6 : Int) (a0_7 : Int) (a0_8 : Int) (a0_9 : Int) : Option (ByteArray × Option Int) := (rule_Check.f k a0_0 a0_1 a0_2 a0_3 a0_4 a0_5 a0_6 a0_7 a0_8 a0_9).bind fun t191 => (if t191.isNone = true then (if a0_0 = 0 then ((rule_digits.f k (⟨#[32]⟩ : ByteArray) (([a0_3] : List Int))).bind fun t196 => (if 8 + t196.size ≤ 9223372036854775807 then (some ((⟨#[119, 101, 101, 107, 100, 97, 121, 32]⟩ : ByteArray) ++ t196, none)) else (none))) else (if a0_0 = 1 then ((rule_digits.f k (⟨#[32]⟩ : ByteArray) (([a0_1, a0_2] : List Int))).bind fun t200 => (if 4 + t200.size ≤ 9223372036854775807 then (some ((⟨#[100, 97, 121, 32]⟩ : ByteArray) ++ t200, none)) else (none))) else (if a0_0 = 2 then ((rule_digits.f k (⟨#[32]⟩ : ByteArray) (([a0_1, a0_2, a0_3] : List Int))).bind fun t204 => (if 4 + t204.size ≤ 9223372036854775807 then (some ((⟨#[110, 116, 104, 32]⟩ : ByteArray) ++ t204, none)) else (none))) else ((rule_date.f k a0_4 a0_5 a0_6).bind fun t205 => (if 6 + t205.size ≤ 9223372036854775807 then (if ((⟨#[100, 97, 116, 101, 115, 32]⟩ : ByteArray) ++ t205).size + 1 ≤ 9223372036854775807 then ((rule_date.f k a0_7 a0_8 a0_9).bind fun t206 => (if (((⟨#[100, 97, 116, 101, 115, 32]⟩ : ByteArray) ++ t205) ++ (⟨#[32]⟩ : ByteArray)).size + t206.size ≤ 9223372036854775807 then (some ((((⟨#[100, 97, 116, 101, 115, 32]⟩ : ByteArray) ++ t205) ++ (⟨#[32]⟩ : ByteArray)) ++ t206, none)) else (none))) else (none)) else (none)))))) else (some ((⟨#[]⟩ : ByteArray), some (t191.getD 0))))
theorem rule_Text.mono : ∀ a0 a1 a2 a3 a4 a5 a6 a7 a8 a9 k, LeO (rule_Text.f k a0 a1 a2 a3 a4 a5 a6 a7 a8 a9) (rule_Text.f (k + 1) a0 a1 a2 a3 a4 a5 a6 a7 a8 a9) := by
 intro a0 a1 a2 a3 a4 a5 a6 a7 a8 a9 k;unfold rule_Text.f
 repeat' first
   | (with_reducible exact rule_Check.mono _ _ _ _ _ _ _ _ _ _ _)
   | (with_reducible exact rule_date.mono _ _ _ _)
   | (with_reducible exact rule_digits.mono _ _ _)
   | (with_reducible exact LeO.refl _)
   | (with_reducible exact LeO.none _)
   | (with_reducible refine LeO.ite ?_ ?_)
   | (with_reducible refine LeO.bind ?_ (fun _ => ?_))
   | exact rule_Check.mono _ _ _ _ _ _ _ _ _ _ _
   | exact rule_date.mono _ _ _ _
   | exact rule_digits.mono _ _ _
   | exact LeO.none _
   | refine LeO.ite ?_ ?_
   | refine LeO.bind ?_ (fun _ => ?_)
def rule_Text.T11 : Bool × List (List Nat × List Nat) := (true, [([], []), ([0], [0]), ([1], [1]), ([2], [2]), ([3], [3]), ([], []), ([5], [5]), ([6, 2], [6]), ([4, 7], [4, 7]), ([8, 7, 0, 1, 2, 3, 4, 5, 6, 7, 8], [8]), ([9, 0, 1, 2, 3, 4, 5, 6, 7, 8, 9], [])])
def rule_Text.B11 : List Nat := [0, 1, 3, 7, 15, 0, 32, 103, 255, 511, 1023]
theorem rule_Text.tab11 : rtab .any (opsOf Tryz.f13 11) = rule_Text.T11 := by kernel_rfl
theorem rule_Text.bits11 : waitsOk rule_Text.T11.2 rule_Text.B11 = true := by kernel_rfl
set_option maxHeartbeats 2000000 in
set_option maxRecDepth 100000 in
theorem rule_Text.calls (k : Nat) (a0_0 : Int) (a0_1 : Int) (a0_2 : Int) (a0_3 : Int) (a0_4 : Int) (a0_5 : Int) (a0_6 : Int) (a0_7 : Int) (a0_8 : Int) (a0_9 : Int) (r1 : ByteArray) (r2 : Option Int) (w : World) (h : rule_Text.f k a0_0 a0_1 a0_2 a0_3 a0_4 a0_5 a0_6 a0_7 a0_8 a0_9 = some (r1, r2)) (hG : GL w) :
  Calls Tryz.prog 13 #[.agg #[.int .i64 a0_0, .int .i64 a0_1, .int .i64 a0_2, .int .i64 a0_3, .int .i64 a0_4, .int .i64 a0_5, .int .i64 a0_6, .int .i64 a0_7, .int .i64 a0_8, .int .i64 a0_9]] w fun e w' => e = .returned (.tuple #[.string r1, errW r2]) ∧ Below w.heap.size w w' := by
 have hu32 := Tryz.underlying32;have hu30 := Tryz.underlying30;have hu27 := Tryz.underlying27;have hu49 := Tryz.underlying49;have HB := As (Below.refl w.heap.size w);have H : ((rule_Check.f k a0_0 a0_1 a0_2 a0_3 a0_4 a0_5 a0_6 a0_7 a0_8 a0_9).bind fun t191 => (if t191.isNone = true then (if a0_0 = 0 then ((rule_digits.f k (⟨#[32]⟩ : ByteArray) (([a0_3] : List Int))).bind fun t196 => (if 8 + t196.size ≤ 9223372036854775807 then (some ((⟨#[119, 101, 101, 107, 100, 97, 121, 32]⟩ : ByteArray) ++ t196, none)) else (none))) else (if a0_0 = 1 then ((rule_digits.f k (⟨#[32]⟩ : ByteArray) (([a0_1, a0_2] : List Int))).bind fun t200 => (if 4 + t200.size ≤ 9223372036854775807 then (some ((⟨#[100, 97, 121, 32]⟩ : ByteArray) ++ t200, none)) else (none))) else (if a0_0 = 2 then ((rule_digits.f k (⟨#[32]⟩ : ByteArray) (([a0_1, a0_2, a0_3] : List Int))).bind fun t204 => (if 4 + t204.size ≤ 9223372036854775807 then (some ((⟨#[110, 116, 104, 32]⟩ : ByteArray) ++ t204, none)) else (none))) else ((rule_date.f k a0_4 a0_5 a0_6).bind fun t205 => (if 6 + t205.size ≤ 9223372036854775807 then (if ((⟨#[100, 97, 116, 101, 115, 32]⟩ : ByteArray) ++ t205).size + 1 ≤ 9223372036854775807 then ((rule_date.f k a0_7 a0_8 a0_9).bind fun t206 => (if (((⟨#[100, 97, 116, 101, 115, 32]⟩ : ByteArray) ++ t205) ++ (⟨#[32]⟩ : ByteArray)).size + t206.size ≤ 9223372036854775807 then (some ((((⟨#[100, 97, 116, 101, 115, 32]⟩ : ByteArray) ++ t205) ++ (⟨#[32]⟩ : ByteArray)) ++ t206, none)) else (none))) else (none)) else (none)))))) else (some ((⟨#[]⟩ : ByteArray), some (t191.getD 0))))) = some (r1, r2) := h;clear h;replace H := bE H;obtain ⟨t191, A20, H⟩ := H;replace H : (if t191.isNone = true then (if a0_0 = 0 then ((rule_digits.f k (⟨#[32]⟩ : ByteArray) (([a0_3] : List Int))).bind fun t196 => (if 8 + t196.size ≤ 9223372036854775807 then (some ((⟨#[119, 101, 101, 107, 100, 97, 121, 32]⟩ : ByteArray) ++ t196, none)) else (none))) else (if a0_0 = 1 then ((rule_digits.f k (⟨#[32]⟩ : ByteArray) (([a0_1, a0_2] : List Int))).bind fun t200 => (if 4 + t200.size ≤ 9223372036854775807 then (some ((⟨#[100, 97, 121, 32]⟩ : ByteArray) ++ t200, none)) else (none))) else (if a0_0 = 2 then ((rule_digits.f k (⟨#[32]⟩ : ByteArray) (([a0_1, a0_2, a0_3] : List Int))).bind fun t204 => (if 4 + t204.size ≤ 9223372036854775807 then (some ((⟨#[110, 116, 104, 32]⟩ : ByteArray) ++ t204, none)) else (none))) else ((rule_date.f k a0_4 a0_5 a0_6).bind fun t205 => (if 6 + t205.size ≤ 9223372036854775807 then (if ((⟨#[100, 97, 116, 101, 115, 32]⟩ : ByteArray) ++ t205).size + 1 ≤ 9223372036854775807 then ((rule_date.f k a0_7 a0_8 a0_9).bind fun t206 => (if (((⟨#[100, 97, 116, 101, 115, 32]⟩ : ByteArray) ++ t205) ++ (⟨#[32]⟩ : ByteArray)).size + t206.size ≤ 9223372036854775807 then (some ((((⟨#[100, 97, 116, 101, 115, 32]⟩ : ByteArray) ++ t205) ++ (⟨#[32]⟩ : ByteArray)) ++ t206, none)) else (none))) else (none)) else (none)))))) else (some ((⟨#[]⟩ : ByteArray), some (t191.getD 0)))) = some (r1, r2) := H;have A2 := As A20;clear A20
 rcases t191 with _ | q192
 focus
  have H1 : (if a0_0 = 0 then ((rule_digits.f k (⟨#[32]⟩ : ByteArray) (([a0_3] : List Int))).bind fun t196 => (if 8 + t196.size ≤ 9223372036854775807 then (some ((⟨#[119, 101, 101, 107, 100, 97, 121, 32]⟩ : ByteArray) ++ t196, none)) else (none))) else (if a0_0 = 1 then ((rule_digits.f k (⟨#[32]⟩ : ByteArray) (([a0_1, a0_2] : List Int))).bind fun t200 => (if 4 + t200.size ≤ 9223372036854775807 then (some ((⟨#[100, 97, 121, 32]⟩ : ByteArray) ++ t200, none)) else (none))) else (if a0_0 = 2 then ((rule_digits.f k (⟨#[32]⟩ : ByteArray) (([a0_1, a0_2, a0_3] : List Int))).bind fun t204 => (if 4 + t204.size ≤ 9223372036854775807 then (some ((⟨#[110, 116, 104, 32]⟩ : ByteArray) ++ t204, none)) else (none))) else ((rule_date.f k a0_4 a0_5 a0_6).bind fun t205 => (if 6 + t205.size ≤ 9223372036854775807 then (if ((⟨#[100, 97, 116, 101, 115, 32]⟩ : ByteArray) ++ t205).size + 1 ≤ 9223372036854775807 then ((rule_date.f k a0_7 a0_8 a0_9).bind fun t206 => (if (((⟨#[100, 97, 116, 101, 115, 32]⟩ : ByteArray) ++ t205) ++ (⟨#[32]⟩ : ByteArray)).size + t206.size ≤ 9223372036854775807 then (some ((((⟨#[100, 97, 116, 101, 115, 32]⟩ : ByteArray) ++ t205) ++ (⟨#[32]⟩ : ByteArray)) ++ t206, none)) else (none))) else (none)) else (none)))))) = some (r1, r2) := by rw [if_pos no0] at H; exact H
  clear H;have H := H1;clear H1
  try simp only [errW_none, errW_some]
  by_cases c3 : a0_0 = 0
  focus
   rw [if_pos c3] at H;have c3b0 : (a0_0 == 0) = true := beq_iff_eq.mpr c3;have c3b1 : (a0_0 != 0) = false := bne_eq_false_iff_eq.mpr c3;clear c3
   obtain ⟨y193, hy193⟩ : ∃ y_ : List Int, y_ = (([a0_3] : List Int)) := ⟨_, rfl⟩
   replace H : ((rule_digits.f k (⟨#[32]⟩ : ByteArray) y193).bind fun t196 => (if 8 + t196.size ≤ 9223372036854775807 then (some ((⟨#[119, 101, 101, 107, 100, 97, 121, 32]⟩ : ByteArray) ++ t196, none)) else (none))) = some (r1, r2) := by first | (rw [hy193]; with_reducible exact H) | (have H2_ := (Option.bind_some _ _).symm.trans H; rw [hy193]; with_reducible exact H2_) | (have H2_ := (Option.bind_some _ _).symm.trans H; with_reducible exact H2_) | with_reducible exact H | (rw [hy193]; exact H) | exact H
   have Ny193 := As hy193;clear hy193;replace H := bE H;obtain ⟨t196, A40, H⟩ := H;replace H : (if 8 + t196.size ≤ 9223372036854775807 then (some ((⟨#[119, 101, 101, 107, 100, 97, 121, 32]⟩ : ByteArray) ++ t196, none)) else (none)) = some (r1, r2) := H;have A4 := As A40;clear A40
   by_cases c5 : 8 + t196.size ≤ 9223372036854775807
   rotate_left
   ·rw [if_neg c5] at H;exact absurd H (by simp)
   rw [if_pos c5] at H;have c5b0 := eq_true c5;have c5b1 : decide (8 + t196.size ≤ 9223372036854775807) = true := dY c5
   try have c5b2 : (9223372036854775807 < 8 + t196.size) = False := eq_false (Nat.not_lt.2 c5)
   simp only [Option.some.injEq, Prod.mk.injEq] at H;obtain ⟨rfl, rfl⟩ := H
  rotate_left
  focus
   rw [if_neg c3] at H;have c3b0 : (a0_0 == 0) = false := beq_eq_false_iff_ne.mpr c3;have c3b1 : (a0_0 != 0) = true := bne_iff_ne.mpr c3
   by_cases c14 : a0_0 = 1
   focus
    rw [if_pos c14] at H;have c14b0 : (a0_0 == 1) = true := beq_iff_eq.mpr c14;have c14b1 : (a0_0 != 1) = false := bne_eq_false_iff_eq.mpr c14;clear c14
    obtain ⟨y197, hy197⟩ : ∃ y_ : List Int, y_ = (([a0_1, a0_2] : List Int)) := ⟨_, rfl⟩
    replace H : ((rule_digits.f k (⟨#[32]⟩ : ByteArray) y197).bind fun t200 => (if 4 + t200.size ≤ 9223372036854775807 then (some ((⟨#[100, 97, 121, 32]⟩ : ByteArray) ++ t200, none)) else (none))) = some (r1, r2) := by first | (rw [hy197]; with_reducible exact H) | (have H2_ := (Option.bind_some _ _).symm.trans H; rw [hy197]; with_reducible exact H2_) | (have H2_ := (Option.bind_some _ _).symm.trans H; with_reducible exact H2_) | with_reducible exact H | (rw [hy197]; exact H) | exact H
    have Ny197 := As hy197;clear hy197;replace H := bE H;obtain ⟨t200, A150, H⟩ := H;replace H : (if 4 + t200.size ≤ 9223372036854775807 then (some ((⟨#[100, 97, 121, 32]⟩ : ByteArray) ++ t200, none)) else (none)) = some (r1, r2) := H;have A15 := As A150;clear A150
    by_cases c16 : 4 + t200.size ≤ 9223372036854775807
    rotate_left
    ·rw [if_neg c16] at H;exact absurd H (by simp)
    rw [if_pos c16] at H;have c16b0 := eq_true c16;have c16b1 : decide (4 + t200.size ≤ 9223372036854775807) = true := dY c16
    try have c16b2 : (9223372036854775807 < 4 + t200.size) = False := eq_false (Nat.not_lt.2 c16)
    simp only [Option.some.injEq, Prod.mk.injEq] at H;obtain ⟨rfl, rfl⟩ := H
   rotate_left
   focus
    rw [if_neg c14] at H;have c14b0 : (a0_0 == 1) = false := beq_eq_false_iff_ne.mpr c14;have c14b1 : (a0_0 != 1) = true := bne_iff_ne.mpr c14
    by_cases c25 : a0_0 = 2
    focus
     rw [if_pos c25] at H;have c25b0 : (a0_0 == 2) = true := beq_iff_eq.mpr c25;have c25b1 : (a0_0 != 2) = false := bne_eq_false_iff_eq.mpr c25;clear c25
     obtain ⟨y201, hy201⟩ : ∃ y_ : List Int, y_ = (([a0_1, a0_2, a0_3] : List Int)) := ⟨_, rfl⟩
     replace H : ((rule_digits.f k (⟨#[32]⟩ : ByteArray) y201).bind fun t204 => (if 4 + t204.size ≤ 9223372036854775807 then (some ((⟨#[110, 116, 104, 32]⟩ : ByteArray) ++ t204, none)) else (none))) = some (r1, r2) := by first | (rw [hy201]; with_reducible exact H) | (have H2_ := (Option.bind_some _ _).symm.trans H; rw [hy201]; with_reducible exact H2_) | (have H2_ := (Option.bind_some _ _).symm.trans H; with_reducible exact H2_) | with_reducible exact H | (rw [hy201]; exact H) | exact H
     have Ny201 := As hy201;clear hy201;replace H := bE H;obtain ⟨t204, A260, H⟩ := H;replace H : (if 4 + t204.size ≤ 9223372036854775807 then (some ((⟨#[110, 116, 104, 32]⟩ : ByteArray) ++ t204, none)) else (none)) = some (r1, r2) := H;have A26 := As A260;clear A260
     by_cases c27 : 4 + t204.size ≤ 9223372036854775807
     rotate_left
     ·rw [if_neg c27] at H;exact absurd H (by simp)
     rw [if_pos c27] at H;have c27b0 := eq_true c27;have c27b1 : decide (4 + t204.size ≤ 9223372036854775807) = true := dY c27
     try have c27b2 : (9223372036854775807 < 4 + t204.size) = False := eq_false (Nat.not_lt.2 c27)
     simp only [Option.some.injEq, Prod.mk.injEq] at H;obtain ⟨rfl, rfl⟩ := H
     have m1_ := trivial
    rotate_left
    focus
     rw [if_neg c25] at H;have c25b0 : (a0_0 == 2) = false := beq_eq_false_iff_ne.mpr c25;have c25b1 : (a0_0 != 2) = true := bne_iff_ne.mpr c25;replace H := bE H;obtain ⟨t205, A360, H⟩ := H;replace H : (if 6 + t205.size ≤ 9223372036854775807 then (if ((⟨#[100, 97, 116, 101, 115, 32]⟩ : ByteArray) ++ t205).size + 1 ≤ 9223372036854775807 then ((rule_date.f k a0_7 a0_8 a0_9).bind fun t206 => (if (((⟨#[100, 97, 116, 101, 115, 32]⟩ : ByteArray) ++ t205) ++ (⟨#[32]⟩ : ByteArray)).size + t206.size ≤ 9223372036854775807 then (some ((((⟨#[100, 97, 116, 101, 115, 32]⟩ : ByteArray) ++ t205) ++ (⟨#[32]⟩ : ByteArray)) ++ t206, none)) else (none))) else (none)) else (none)) = some (r1, r2) := H;have A36 := As A360;clear A360
     by_cases c37 : 6 + t205.size ≤ 9223372036854775807
     rotate_left
     ·rw [if_neg c37] at H;exact absurd H (by simp)
     rw [if_pos c37] at H;have c37b0 := eq_true c37;have c37b1 : decide (6 + t205.size ≤ 9223372036854775807) = true := dY c37
     try have c37b2 : (9223372036854775807 < 6 + t205.size) = False := eq_false (Nat.not_lt.2 c37)
     by_cases c38 : ((⟨#[100, 97, 116, 101, 115, 32]⟩ : ByteArray) ++ t205).size + 1 ≤ 9223372036854775807
     rotate_left
     ·rw [if_neg c38] at H;exact absurd H (by simp)
     rw [if_pos c38] at H;have c38b0 := eq_true c38;have c38b1 : decide (((⟨#[100, 97, 116, 101, 115, 32]⟩ : ByteArray) ++ t205).size + 1 ≤ 9223372036854775807) = true := dY c38
     try have c38b2 : (9223372036854775807 < ((⟨#[100, 97, 116, 101, 115, 32]⟩ : ByteArray) ++ t205).size + 1) = False := eq_false (Nat.not_lt.2 c38)
     replace H := bE H;obtain ⟨t206, A390, H⟩ := H;replace H : (if (((⟨#[100, 97, 116, 101, 115, 32]⟩ : ByteArray) ++ t205) ++ (⟨#[32]⟩ : ByteArray)).size + t206.size ≤ 9223372036854775807 then (some ((((⟨#[100, 97, 116, 101, 115, 32]⟩ : ByteArray) ++ t205) ++ (⟨#[32]⟩ : ByteArray)) ++ t206, none)) else (none)) = some (r1, r2) := H;have A39 := As A390;clear A390
     by_cases c40 : (((⟨#[100, 97, 116, 101, 115, 32]⟩ : ByteArray) ++ t205) ++ (⟨#[32]⟩ : ByteArray)).size + t206.size ≤ 9223372036854775807
     rotate_left
     ·rw [if_neg c40] at H;exact absurd H (by simp)
     rw [if_pos c40] at H;have c40b0 := eq_true c40;have c40b1 : decide ((((⟨#[100, 97, 116, 101, 115, 32]⟩ : ByteArray) ++ t205) ++ (⟨#[32]⟩ : ByteArray)).size + t206.size ≤ 9223372036854775807) = true := dY c40
     try have c40b2 : (9223372036854775807 < (((⟨#[100, 97, 116, 101, 115, 32]⟩ : ByteArray) ++ t205) ++ (⟨#[32]⟩ : ByteArray)).size + t206.size) = False := eq_false (Nat.not_lt.2 c40)
     simp only [Option.some.injEq, Prod.mk.injEq] at H;obtain ⟨rfl, rfl⟩ := H
     have m2_ := trivial
 rotate_left 4
 have H1 : (some ((⟨#[]⟩ : ByteArray), some q192)) = some (r1, r2) := by rw [if_neg (show ¬ (some q192).isNone = true by simp)] at H; exact H
 clear H;have H := H1;clear H1
 try simp only [errW_none, errW_some]
 simp only [Option.some.injEq, Prod.mk.injEq] at H;obtain ⟨rfl, rfl⟩ := H
 all_goals go_enter Tryz.func13, Tryz.ntmps13
 all_goals try
  first | (clear m1_; have m1_ := trivial) | (clear m2_; have m2_ := trivial)
  try go_wp2_with (first | ((with_reducible refine gate_dst (N := 1) rfl ?_); refine box_event ?hg (N := 1) ?hd (cs := #[.int .i64 a0_0, .int .i64 a0_1, .int .i64 a0_2, .int .i64 a0_3, .int .i64 a0_4, .int .i64 a0_5, .int .i64 a0_6, .int .i64 a0_7, .int .i64 a0_8, .int .i64 a0_9]) (t := 32) ?hr ?_; (case hd => rfl); (case hg => rfl); (case hr => first | (go_simp; done) | (go_simp; rfl)); intro gb190 hg w28 hbox hb; have BK190 := As (hbox); have GW190 := As ((gz hg (be HB.out) : w.heap.size ≤ gb190)); have GE190 := As ((gz hg (be HB.out) : w.heap.size ≤ gb190)); replace HB := As (XT (be HB.out) hb); clear hb hbox hg; obtain ⟨hcz29_0, hcz29_1, hcz29_2, hcz29_3, hcz29_4, hcz29_5, hcz29_6, hcz29_7, hcz29_8, hcz29_9, hfz29_0, hfz29_1, hfz29_2, hfz29_3, hfz29_4, hfz29_5, hfz29_6, hfz29_7, hfz29_8, hfz29_9⟩ := cz10 BK190.out) | ((with_reducible refine gate_callee (f := 10) rfl ?_); refine goesL_ (some 6) rfl rfl Tryz.func10 kr rfl #[.agg #[.int .i64 a0_0, .int .i64 a0_1, .int .i64 a0_2, .int .i64 a0_3, .int .i64 a0_4, .int .i64 a0_5, .int .i64 a0_6, .int .i64 a0_7, .int .i64 a0_8, .int .i64 a0_9]] rfl sa ?_; (with_reducible refine (rule_Check.calls k a0_0 a0_1 a0_2 a0_3 a0_4 a0_5 a0_6 a0_7 a0_8 a0_9 _ _ A2.out).mono ?_); rintro e w30 ⟨rfl, hb⟩; refine ⟨_, rfl, ?_⟩; replace BK190 := As (YB (g := gb190) (o := .cells #[.int .i64 a0_0, .int .i64 a0_1, .int .i64 a0_2, .int .i64 a0_3, .int .i64 a0_4, .int .i64 a0_5, .int .i64 a0_6, .int .i64 a0_7, .int .i64 a0_8, .int .i64 a0_9] 32 (0, 0)) (bk BK190.out) hb); replace HB := As (XT (be HB.out) hb); (try clear hb); (try clear hb2); (try clear hk); (try clear hi); (try simp only [errW_none, errW_some]); obtain ⟨hcz31_0, hcz31_1, hcz31_2, hcz31_3, hcz31_4, hcz31_5, hcz31_6, hcz31_7, hcz31_8, hcz31_9, hfz31_0, hfz31_1, hfz31_2, hfz31_3, hfz31_4, hfz31_5, hfz31_6, hfz31_7, hfz31_8, hfz31_9⟩ := cz10 BK190.out) | ((with_reducible refine gate_dst (N := 36) rfl ?_); refine Kd.R_lit (Kd.int .i64) _ 3 ?hg (N := 36) ?hd (xs := ([a0_1, a0_2, a0_3] : List Int)) (inner := [.int .i64 a0_1, .int .i64 a0_2, .int .i64 a0_3]) (ok := fun _ => True) (okp := fun _ => True) ?hr ?hp (fun _ hk => hk) trivial (Below.refl _ _) (Nat.le_refl _) (by simp) ?_; (case hd => rfl); (case hg => rfl); (case hr => first | (go_simp; done) | (go_simp; rfl)); (case hp => exact (Reps.one (show Kd.M (Kd.int .i64) _ _ _ a0_1 [.int .i64 a0_1] from rfl) (Reps.one (show Kd.M (Kd.int .i64) _ _ _ a0_2 [.int .i64 a0_2] from rfl) (Reps.one (show Kd.M (Kd.int .i64) _ _ _ a0_3 [.int .i64 a0_3] from rfl) (Reps.none _ _))))); intro v202 w32 ho33 hb hg_ hnew_; clear hg_ hnew_; (first | rw [← Ny201.out] at ho33 | (simp only [Int.reduceToNat] at ho33; rw [← Ny201.out] at ho33)); have HO203 := As (Kd.R_lower ho33 (XZ (be HB.out))); replace BK190 := As (YB (g := gb190) (o := .cells #[.int .i64 a0_0, .int .i64 a0_1, .int .i64 a0_2, .int .i64 a0_3, .int .i64 a0_4, .int .i64 a0_5, .int .i64 a0_6, .int .i64 a0_7, .int .i64 a0_8, .int .i64 a0_9] 32 (0, 0)) (bk BK190.out) hb); replace HB := As (XT (be HB.out) hb); clear hb ho33; obtain ⟨Ao34, co34, eo34⟩ := Kd.R_slice HO203.out; subst eo34) | ((with_reducible refine gate_callee (f := 31) rfl ?_); refine goesL_ (some 37) rfl rfl Tryz.func31 kr rfl #[.string (⟨#[32]⟩ : ByteArray), .slice Ao34 y201.length co34] rfl sa ?_; (with_reducible refine (rule_digits.calls k (⟨#[32]⟩ : ByteArray) _ _ y201 t204 _ ?side1 ?side2 A26.out ?side3).mono ?_); (case side1 => repeat (first | exact (RR HO203.out).2.2 | (with_reducible refine Kd.C_alloc ?_ _) | (with_reducible refine Kd.C_drewN ?_ _) | (with_reducible refine Kd.C_drew ?_))); (case side2 => exact (RR HO203.out).2.1); (case side3 => first | (with_reducible exact hG) | exact GL.below hG (be HB.out) | (repeat (first | exact hG | apply GL.drewN | apply GL.drew | apply GL.alloc))); rintro e w35 ⟨rfl, hb⟩; refine ⟨_, rfl, ?_⟩; replace HO203 := As (RB (ro HO203.out) hb); replace BK190 := As (YB (g := gb190) (o := .cells #[.int .i64 a0_0, .int .i64 a0_1, .int .i64 a0_2, .int .i64 a0_3, .int .i64 a0_4, .int .i64 a0_5, .int .i64 a0_6, .int .i64 a0_7, .int .i64 a0_8, .int .i64 a0_9] 32 (0, 0)) (bk BK190.out) hb); replace HB := As (XT (be HB.out) hb); (try clear hb); (try clear hb2); (try clear hk); (try clear hi)))
 ·go_wp2_with (first | ((with_reducible refine gate_dst (N := 1) rfl ?_); refine box_event ?hg (N := 1) ?hd (cs := #[.int .i64 a0_0, .int .i64 a0_1, .int .i64 a0_2, .int .i64 a0_3, .int .i64 a0_4, .int .i64 a0_5, .int .i64 a0_6, .int .i64 a0_7, .int .i64 a0_8, .int .i64 a0_9]) (t := 32) ?hr ?_; (case hd => rfl); (case hg => rfl); (case hr => first | (go_simp; done) | (go_simp; rfl)); intro gb190 hg w48 hbox hb; have BK190 := As (hbox); have GW190 := As ((gz hg (be HB.out) : w.heap.size ≤ gb190)); have GE190 := As ((gz hg (be HB.out) : w.heap.size ≤ gb190)); replace HB := As (XT (be HB.out) hb); clear hb hbox hg; obtain ⟨hcz49_0, hcz49_1, hcz49_2, hcz49_3, hcz49_4, hcz49_5, hcz49_6, hcz49_7, hcz49_8, hcz49_9, hfz49_0, hfz49_1, hfz49_2, hfz49_3, hfz49_4, hfz49_5, hfz49_6, hfz49_7, hfz49_8, hfz49_9⟩ := cz10 BK190.out) | ((with_reducible refine gate_callee (f := 10) rfl ?_); refine goesL_ (some 6) rfl rfl Tryz.func10 kr rfl #[.agg #[.int .i64 a0_0, .int .i64 a0_1, .int .i64 a0_2, .int .i64 a0_3, .int .i64 a0_4, .int .i64 a0_5, .int .i64 a0_6, .int .i64 a0_7, .int .i64 a0_8, .int .i64 a0_9]] rfl sa ?_; (with_reducible refine (rule_Check.calls k a0_0 a0_1 a0_2 a0_3 a0_4 a0_5 a0_6 a0_7 a0_8 a0_9 _ _ A2.out).mono ?_); rintro e w50 ⟨rfl, hb⟩; refine ⟨_, rfl, ?_⟩; replace BK190 := As (YB (g := gb190) (o := .cells #[.int .i64 a0_0, .int .i64 a0_1, .int .i64 a0_2, .int .i64 a0_3, .int .i64 a0_4, .int .i64 a0_5, .int .i64 a0_6, .int .i64 a0_7, .int .i64 a0_8, .int .i64 a0_9] 32 (0, 0)) (bk BK190.out) hb); replace HB := As (XT (be HB.out) hb); (try clear hb); (try clear hb2); (try clear hk); (try clear hi); (try simp only [errW_none, errW_some])))
  go_ret2
  exact ⟨by first | rfl | (simp [errW_none, errW_some] <;> rfl) | (simp [*, errW_none, errW_some] <;> rfl), by repeat (first | (with_reducible first | exact HB.out | apply XA | apply XN | apply XD | refine XS ?_ GE190.out) | exact HB.out)⟩
 ·replace BK190 := As (YD BK190.out);replace HB := As (XD HB.out);refine start_ (n := 11) (S := fun w' => w'.cell? ⟨gb190, 0, none⟩ = some (.int .i64 a0_0) ∧ w'.cell? ⟨gb190, 1, none⟩ = some (.int .i64 a0_1) ∧ w'.cell? ⟨gb190, 2, none⟩ = some (.int .i64 a0_2) ∧ w'.cell? ⟨gb190, 3, none⟩ = some (.int .i64 a0_3) ∧ w'.cell? ⟨gb190, 4, none⟩ = some (.int .i64 a0_4) ∧ w'.cell? ⟨gb190, 5, none⟩ = some (.int .i64 a0_5) ∧ w'.cell? ⟨gb190, 6, none⟩ = some (.int .i64 a0_6) ∧ w'.cell? ⟨gb190, 7, none⟩ = some (.int .i64 a0_7) ∧ w'.cell? ⟨gb190, 8, none⟩ = some (.int .i64 a0_8) ∧ w'.cell? ⟨gb190, 9, none⟩ = some (.int .i64 a0_9)) (ds := []) (fl 0 11) kr rfl rfl (cy10 BK190.out) (fun hHeld => ?_); refine with_tabW rule_Text.tab11 rule_Text.bits11 (fun HT_ HW_ => ?_);generalize w30.drew = w45 at BK190 HB hHeld ⊢;refine pure_ (i := 0) (N := some 39) (v := ?_) (a' := ?_) (fl 1 10) rfl rfl (any_of HT_.out kr) (fun _ _ _ h => h) (Or.inl ⟨by rfl, ?_⟩) ?_ ?_;rotate_left
  ·intro w';go_simp
   first | (with_reducible rfl) | (rw [if_neg (Nat.not_lt.mpr (by have z := c38; simp only [ByteArray.size_append] at z; exact z))]) | (rw [if_neg (Nat.not_lt.mpr (by have z := c40; simp only [ByteArray.size_append] at z; exact z))])
  rotate_left
  ·simp only [Act.put, z0,z1,z2,i64_w,i32_w];rfl
  refine pure_ (i := 5) (N := some 44) (v := ?_) (a' := ?_) #[Y,O,O,O,O,Y,O,O,O,O,O] rfl rfl (any_of HT_.out kr) (fun _ _ _ h => h) (Or.inl ⟨by rfl, ?_⟩) ?_ ?_;rotate_left
  ·intro w';go_simp
   first | (with_reducible rfl) | (rw [if_neg (Nat.not_lt.mpr (by have z := c38; simp only [ByteArray.size_append] at z; exact z))]) | (rw [if_neg (Nat.not_lt.mpr (by have z := c40; simp only [ByteArray.size_append] at z; exact z))])
  rotate_left
  ·simp only [Act.put, z0,z1,z2,i64_w,i32_w];rfl
  refine take_ (i := 1) (N := some 40) (v := ?_) (a' := ?_) #[Y,Y,O,O,O,Y,O,O,O,O,O] rfl rfl (take_ofW HT_.out HW_.out kr) (fun _ _ _ h => h) (Or.inl ⟨by rfl, ?_⟩) hHeld ?_ ?_;rotate_left
  ·rintro w' ⟨s0, s1, s2, s3, s4, s5, s6, s7, s8, s9⟩;go_simp
   first | (with_reducible rfl) | (rw [if_neg (Nat.not_lt.mpr (by have z := c38; simp only [ByteArray.size_append] at z; exact z))]) | (rw [if_neg (Nat.not_lt.mpr (by have z := c40; simp only [ByteArray.size_append] at z; exact z))])
  rotate_left
  ·simp only [Act.put, z0,z1,z2,i64_w,i32_w];rfl
  refine take_ (i := 6) (N := some 45) (v := ?_) (a' := ?_) #[Y,Y,O,O,O,Y,Y,O,O,O,O] rfl rfl (take_ofW HT_.out HW_.out kr) (fun _ _ _ h => h) (Or.inl ⟨by rfl, ?_⟩) hHeld ?_ ?_;rotate_left
  ·rintro w' ⟨s0, s1, s2, s3, s4, s5, s6, s7, s8, s9⟩;go_simp
   first | (with_reducible rfl) | (rw [if_neg (Nat.not_lt.mpr (by have z := c38; simp only [ByteArray.size_append] at z; exact z))]) | (rw [if_neg (Nat.not_lt.mpr (by have z := c40; simp only [ByteArray.size_append] at z; exact z))])
  rotate_left
  ·simp only [Act.put, z0,z1,z2,i64_w,i32_w];rfl
  refine one_ (i := 2) (N := some 41) #[Y,Y,Y,O,O,Y,Y,O,O,O,O] rfl rfl (one_of HT_.out kr) (by decide) (fun K hK => ?_);refine goes_ Tryz.func32 kr rfl #[.agg #[.int .i64 a0_4, .int .i64 a0_5, .int .i64 a0_6]] (by rfl) rfl rfl sa ?_
  with_reducible refine (rule_date.calls k a0_4 a0_5 a0_6 t205 _ A36.out ?side1).mono ?_
  (case side1 => first | (with_reducible exact hG) | exact GL.below hG (be HB.out) | (repeat (first | exact hG | apply GL.drewN | apply GL.drew | apply GL.alloc)))
  rintro e w46 ⟨rfl, hb⟩;refine ⟨_, rfl, ?_⟩;replace BK190 := As (YB (g := gb190) (o := .cells #[.int .i64 a0_0, .int .i64 a0_1, .int .i64 a0_2, .int .i64 a0_3, .int .i64 a0_4, .int .i64 a0_5, .int .i64 a0_6, .int .i64 a0_7, .int .i64 a0_8, .int .i64 a0_9] 32 (0, 0)) (bk BK190.out) hb);replace HB := As (XT (be HB.out) hb)
  (try clear hb)
  (try clear hb2)
  (try clear hk)
  (try clear hi)
  refine hK.out _ _ (cy10 BK190.out) (fun hHeld => ?_);clear hK K;refine norm_ (a' := ?_) ?_ ?_;rotate_left
  ·show Act.put _ (some 41) _ = _
   simp only [Act.put, z0,z1,z2,i64_w,i32_w];rfl
  refine pure_ (i := 3) (N := some 42) (v := ?_) (a' := ?_) #[Y,Y,Y,Y,O,Y,Y,O,O,O,O] rfl rfl (any_of HT_.out kr) (fun _ _ _ h => h) (Or.inl ⟨by rfl, ?_⟩) ?_ ?_;rotate_left
  ·intro w';go_simp
   first | (with_reducible rfl) | (rw [if_neg (Nat.not_lt.mpr (by have z := c38; simp only [ByteArray.size_append] at z; exact z))]) | (rw [if_neg (Nat.not_lt.mpr (by have z := c40; simp only [ByteArray.size_append] at z; exact z))])
  rotate_left
  ·simp only [Act.put, z0,z1,z2,i64_w,i32_w];rfl
  refine pure_ (i := 4) (N := some 43) (v := ?_) (a' := ?_) (fl 7 4) rfl rfl (any_of HT_.out kr) (fun _ _ _ h => h) (Or.inl ⟨by rfl, ?_⟩) ?_ ?_;rotate_left
  ·intro w';go_simp
   first | (with_reducible rfl) | (rw [if_neg (Nat.not_lt.mpr (by have z := c38; simp only [ByteArray.size_append] at z; exact z))]) | (rw [if_neg (Nat.not_lt.mpr (by have z := c40; simp only [ByteArray.size_append] at z; exact z))])
  rotate_left
  ·simp only [Act.put, z0,z1,z2,i64_w,i32_w];rfl
  refine one_ (i := 7) (N := some 46) (fl 8 3) rfl rfl (one_of HT_.out kr) (by decide) (fun K hK => ?_);refine goes_ Tryz.func32 kr rfl #[.agg #[.int .i64 a0_7, .int .i64 a0_8, .int .i64 a0_9]] (by rfl) rfl rfl sa ?_
  with_reducible refine (rule_date.calls k a0_7 a0_8 a0_9 t206 _ A39.out ?side1).mono ?_
  (case side1 => first | (with_reducible exact hG) | exact GL.below hG (be HB.out) | (repeat (first | exact hG | apply GL.drewN | apply GL.drew | apply GL.alloc)))
  rintro e w47 ⟨rfl, hb⟩;refine ⟨_, rfl, ?_⟩;replace BK190 := As (YB (g := gb190) (o := .cells #[.int .i64 a0_0, .int .i64 a0_1, .int .i64 a0_2, .int .i64 a0_3, .int .i64 a0_4, .int .i64 a0_5, .int .i64 a0_6, .int .i64 a0_7, .int .i64 a0_8, .int .i64 a0_9] 32 (0, 0)) (bk BK190.out) hb);replace HB := As (XT (be HB.out) hb)
  (try clear hb)
  (try clear hb2)
  (try clear hk)
  (try clear hi)
  refine hK.out _ _ (cy10 BK190.out) (fun hHeld => ?_);clear hK K;refine norm_ (a' := ?_) ?_ ?_;rotate_left
  ·show Act.put _ (some 46) _ = _
   simp only [Act.put, z0,z1,z2,i64_w,i32_w];rfl
  refine pure_ (i := 8) (N := some 47) (v := ?_) (a' := ?_) (fl 9 2) rfl rfl (any_of HT_.out kr) (fun _ _ _ h => h) (Or.inl ⟨by rfl, ?_⟩) ?_ ?_;rotate_left
  ·intro w';go_simp
   first | (with_reducible rfl) | (rw [if_neg (Nat.not_lt.mpr (by have z := c38; simp only [ByteArray.size_append] at z; exact z))]) | (rw [if_neg (Nat.not_lt.mpr (by have z := c40; simp only [ByteArray.size_append] at z; exact z))])
  rotate_left
  ·simp only [Act.put, z0,z1,z2,i64_w,i32_w];rfl
  refine pure_ (i := 9) (N := some 2) (v := ?_) (a' := ?_) (fl 10 1) rfl rfl (any_of HT_.out kr) (fun _ _ _ h => h) (Or.inl ⟨by rfl, ?_⟩) ?_ ?_;rotate_left
  ·intro w';go_simp
   first | (with_reducible rfl) | (rw [if_neg (Nat.not_lt.mpr (by have z := c38; simp only [ByteArray.size_append] at z; exact z))]) | (rw [if_neg (Nat.not_lt.mpr (by have z := c40; simp only [ByteArray.size_append] at z; exact z))])
  rotate_left
  ·simp only [Act.put, z0,z1,z2,i64_w,i32_w];rfl
  refine pure_ (i := 10) (N := some 3) (v := ?_) (a' := ?_) (fl 11 0) rfl rfl (any_of HT_.out kr) (fun _ _ _ h => h) (Or.inl ⟨by rfl, ?_⟩) ?_ ?_;rotate_left
  ·intro w';go_simp
   first | (with_reducible rfl) | (rw [if_neg (Nat.not_lt.mpr (by have z := c38; simp only [ByteArray.size_append] at z; exact z))]) | (rw [if_neg (Nat.not_lt.mpr (by have z := c40; simp only [ByteArray.size_append] at z; exact z))])
  rotate_left
  ·simp only [Act.put, z0,z1,z2,i64_w,i32_w];rfl
  refine done_ (done_of HT_.out kr) ?_
  try go_wp2
  go_ret2
  exact ⟨by first | rfl | (simp [errW_none, errW_some] <;> rfl) | (simp [*, errW_none, errW_some] <;> rfl), by repeat (first | (with_reducible first | exact HB.out | apply XA | apply XN | apply XD | refine XS ?_ GE190.out) | exact HB.out)⟩
 ·go_ret2
  exact ⟨by first | rfl | (simp [errW_none, errW_some] <;> rfl) | (simp [*, errW_none, errW_some] <;> rfl), by repeat (first | (with_reducible first | exact HB.out | apply XA | apply XN | apply XD | refine XS ?_ GE190.out) | exact HB.out)⟩
 ·go_wp2_with (first | ((with_reducible refine gate_dst (N := 1) rfl ?_); refine box_event ?hg (N := 1) ?hd (cs := #[.int .i64 a0_0, .int .i64 a0_1, .int .i64 a0_2, .int .i64 a0_3, .int .i64 a0_4, .int .i64 a0_5, .int .i64 a0_6, .int .i64 a0_7, .int .i64 a0_8, .int .i64 a0_9]) (t := 32) ?hr ?_; (case hd => rfl); (case hg => rfl); (case hr => first | (go_simp; done) | (go_simp; rfl)); intro gb190 hg w17 hbox hb; have BK190 := As (hbox); have GW190 := As ((gz hg (be HB.out) : w.heap.size ≤ gb190)); have GE190 := As ((gz hg (be HB.out) : w.heap.size ≤ gb190)); replace HB := As (XT (be HB.out) hb); clear hb hbox hg; obtain ⟨hcz18_0, hcz18_1, hcz18_2, hcz18_3, hcz18_4, hcz18_5, hcz18_6, hcz18_7, hcz18_8, hcz18_9, hfz18_0, hfz18_1, hfz18_2, hfz18_3, hfz18_4, hfz18_5, hfz18_6, hfz18_7, hfz18_8, hfz18_9⟩ := cz10 BK190.out) | ((with_reducible refine gate_callee (f := 10) rfl ?_); refine goesL_ (some 6) rfl rfl Tryz.func10 kr rfl #[.agg #[.int .i64 a0_0, .int .i64 a0_1, .int .i64 a0_2, .int .i64 a0_3, .int .i64 a0_4, .int .i64 a0_5, .int .i64 a0_6, .int .i64 a0_7, .int .i64 a0_8, .int .i64 a0_9]] rfl sa ?_; (with_reducible refine (rule_Check.calls k a0_0 a0_1 a0_2 a0_3 a0_4 a0_5 a0_6 a0_7 a0_8 a0_9 _ _ A2.out).mono ?_); rintro e w19 ⟨rfl, hb⟩; refine ⟨_, rfl, ?_⟩; replace BK190 := As (YB (g := gb190) (o := .cells #[.int .i64 a0_0, .int .i64 a0_1, .int .i64 a0_2, .int .i64 a0_3, .int .i64 a0_4, .int .i64 a0_5, .int .i64 a0_6, .int .i64 a0_7, .int .i64 a0_8, .int .i64 a0_9] 32 (0, 0)) (bk BK190.out) hb); replace HB := As (XT (be HB.out) hb); (try clear hb); (try clear hb2); (try clear hk); (try clear hi); (try simp only [errW_none, errW_some]); obtain ⟨hcz20_0, hcz20_1, hcz20_2, hcz20_3, hcz20_4, hcz20_5, hcz20_6, hcz20_7, hcz20_8, hcz20_9, hfz20_0, hfz20_1, hfz20_2, hfz20_3, hfz20_4, hfz20_5, hfz20_6, hfz20_7, hfz20_8, hfz20_9⟩ := cz10 BK190.out) | ((with_reducible refine gate_dst (N := 25) rfl ?_); refine Kd.R_lit (Kd.int .i64) _ 3 ?hg (N := 25) ?hd (xs := ([a0_1, a0_2] : List Int)) (inner := [.int .i64 a0_1, .int .i64 a0_2]) (ok := fun _ => True) (okp := fun _ => True) ?hr ?hp (fun _ hk => hk) trivial (Below.refl _ _) (Nat.le_refl _) (by simp) ?_; (case hd => rfl); (case hg => rfl); (case hr => first | (go_simp; done) | (go_simp; rfl)); (case hp => exact (Reps.one (show Kd.M (Kd.int .i64) _ _ _ a0_1 [.int .i64 a0_1] from rfl) (Reps.one (show Kd.M (Kd.int .i64) _ _ _ a0_2 [.int .i64 a0_2] from rfl) (Reps.none _ _)))); intro v198 w21 ho22 hb hg_ hnew_; clear hg_ hnew_; (first | rw [← Ny197.out] at ho22 | (simp only [Int.reduceToNat] at ho22; rw [← Ny197.out] at ho22)); have HO199 := As (Kd.R_lower ho22 (XZ (be HB.out))); replace BK190 := As (YB (g := gb190) (o := .cells #[.int .i64 a0_0, .int .i64 a0_1, .int .i64 a0_2, .int .i64 a0_3, .int .i64 a0_4, .int .i64 a0_5, .int .i64 a0_6, .int .i64 a0_7, .int .i64 a0_8, .int .i64 a0_9] 32 (0, 0)) (bk BK190.out) hb); replace HB := As (XT (be HB.out) hb); clear hb ho22; obtain ⟨Ao23, co23, eo23⟩ := Kd.R_slice HO199.out; subst eo23) | ((with_reducible refine gate_callee (f := 31) rfl ?_); refine goesL_ (some 26) rfl rfl Tryz.func31 kr rfl #[.string (⟨#[32]⟩ : ByteArray), .slice Ao23 y197.length co23] rfl sa ?_; (with_reducible refine (rule_digits.calls k (⟨#[32]⟩ : ByteArray) _ _ y197 t200 _ ?side1 ?side2 A15.out ?side3).mono ?_); (case side1 => repeat (first | exact (RR HO199.out).2.2 | (with_reducible refine Kd.C_alloc ?_ _) | (with_reducible refine Kd.C_drewN ?_ _) | (with_reducible refine Kd.C_drew ?_))); (case side2 => exact (RR HO199.out).2.1); (case side3 => first | (with_reducible exact hG) | exact GL.below hG (be HB.out) | (repeat (first | exact hG | apply GL.drewN | apply GL.drew | apply GL.alloc))); rintro e w24 ⟨rfl, hb⟩; refine ⟨_, rfl, ?_⟩; replace HO199 := As (RB (ro HO199.out) hb); replace BK190 := As (YB (g := gb190) (o := .cells #[.int .i64 a0_0, .int .i64 a0_1, .int .i64 a0_2, .int .i64 a0_3, .int .i64 a0_4, .int .i64 a0_5, .int .i64 a0_6, .int .i64 a0_7, .int .i64 a0_8, .int .i64 a0_9] 32 (0, 0)) (bk BK190.out) hb); replace HB := As (XT (be HB.out) hb); (try clear hb); (try clear hb2); (try clear hk); (try clear hi)))
  go_ret2
  exact ⟨by first | rfl | (simp [errW_none, errW_some] <;> rfl) | (simp [*, errW_none, errW_some] <;> rfl), by repeat (first | (with_reducible first | exact HB.out | apply XA | apply XN | apply XD | refine XS ?_ GE190.out) | exact HB.out)⟩
 ·go_wp2_with (first | ((with_reducible refine gate_dst (N := 1) rfl ?_); refine box_event ?hg (N := 1) ?hd (cs := #[.int .i64 a0_0, .int .i64 a0_1, .int .i64 a0_2, .int .i64 a0_3, .int .i64 a0_4, .int .i64 a0_5, .int .i64 a0_6, .int .i64 a0_7, .int .i64 a0_8, .int .i64 a0_9]) (t := 32) ?hr ?_; (case hd => rfl); (case hg => rfl); (case hr => first | (go_simp; done) | (go_simp; rfl)); intro gb190 hg w6 hbox hb; have BK190 := As (hbox); have GW190 := As ((gz hg (be HB.out) : w.heap.size ≤ gb190)); have GE190 := As ((gz hg (be HB.out) : w.heap.size ≤ gb190)); replace HB := As (XT (be HB.out) hb); clear hb hbox hg; obtain ⟨hcz7_0, hcz7_1, hcz7_2, hcz7_3, hcz7_4, hcz7_5, hcz7_6, hcz7_7, hcz7_8, hcz7_9, hfz7_0, hfz7_1, hfz7_2, hfz7_3, hfz7_4, hfz7_5, hfz7_6, hfz7_7, hfz7_8, hfz7_9⟩ := cz10 BK190.out) | ((with_reducible refine gate_callee (f := 10) rfl ?_); refine goesL_ (some 6) rfl rfl Tryz.func10 kr rfl #[.agg #[.int .i64 a0_0, .int .i64 a0_1, .int .i64 a0_2, .int .i64 a0_3, .int .i64 a0_4, .int .i64 a0_5, .int .i64 a0_6, .int .i64 a0_7, .int .i64 a0_8, .int .i64 a0_9]] rfl sa ?_; (with_reducible refine (rule_Check.calls k a0_0 a0_1 a0_2 a0_3 a0_4 a0_5 a0_6 a0_7 a0_8 a0_9 _ _ A2.out).mono ?_); rintro e w8 ⟨rfl, hb⟩; refine ⟨_, rfl, ?_⟩; replace BK190 := As (YB (g := gb190) (o := .cells #[.int .i64 a0_0, .int .i64 a0_1, .int .i64 a0_2, .int .i64 a0_3, .int .i64 a0_4, .int .i64 a0_5, .int .i64 a0_6, .int .i64 a0_7, .int .i64 a0_8, .int .i64 a0_9] 32 (0, 0)) (bk BK190.out) hb); replace HB := As (XT (be HB.out) hb); (try clear hb); (try clear hb2); (try clear hk); (try clear hi); (try simp only [errW_none, errW_some]); obtain ⟨hcz9_0, hcz9_1, hcz9_2, hcz9_3, hcz9_4, hcz9_5, hcz9_6, hcz9_7, hcz9_8, hcz9_9, hfz9_0, hfz9_1, hfz9_2, hfz9_3, hfz9_4, hfz9_5, hfz9_6, hfz9_7, hfz9_8, hfz9_9⟩ := cz10 BK190.out) | ((with_reducible refine gate_dst (N := 16) rfl ?_); refine Kd.R_lit (Kd.int .i64) _ 3 ?hg (N := 16) ?hd (xs := ([a0_3] : List Int)) (inner := [.int .i64 a0_3]) (ok := fun _ => True) (okp := fun _ => True) ?hr ?hp (fun _ hk => hk) trivial (Below.refl _ _) (Nat.le_refl _) (by simp) ?_; (case hd => rfl); (case hg => rfl); (case hr => first | (go_simp; done) | (go_simp; rfl)); (case hp => exact (Reps.one (show Kd.M (Kd.int .i64) _ _ _ a0_3 [.int .i64 a0_3] from rfl) (Reps.none _ _))); intro v194 w10 ho11 hb hg_ hnew_; clear hg_ hnew_; (first | rw [← Ny193.out] at ho11 | (simp only [Int.reduceToNat] at ho11; rw [← Ny193.out] at ho11)); have HO195 := As (Kd.R_lower ho11 (XZ (be HB.out))); replace BK190 := As (YB (g := gb190) (o := .cells #[.int .i64 a0_0, .int .i64 a0_1, .int .i64 a0_2, .int .i64 a0_3, .int .i64 a0_4, .int .i64 a0_5, .int .i64 a0_6, .int .i64 a0_7, .int .i64 a0_8, .int .i64 a0_9] 32 (0, 0)) (bk BK190.out) hb); replace HB := As (XT (be HB.out) hb); clear hb ho11; obtain ⟨Ao12, co12, eo12⟩ := Kd.R_slice HO195.out; subst eo12) | ((with_reducible refine gate_callee (f := 31) rfl ?_); refine goesL_ (some 17) rfl rfl Tryz.func31 kr rfl #[.string (⟨#[32]⟩ : ByteArray), .slice Ao12 y193.length co12] rfl sa ?_; (with_reducible refine (rule_digits.calls k (⟨#[32]⟩ : ByteArray) _ _ y193 t196 _ ?side1 ?side2 A4.out ?side3).mono ?_); (case side1 => repeat (first | exact (RR HO195.out).2.2 | (with_reducible refine Kd.C_alloc ?_ _) | (with_reducible refine Kd.C_drewN ?_ _) | (with_reducible refine Kd.C_drew ?_))); (case side2 => exact (RR HO195.out).2.1); (case side3 => first | (with_reducible exact hG) | exact GL.below hG (be HB.out) | (repeat (first | exact hG | apply GL.drewN | apply GL.drew | apply GL.alloc))); rintro e w13 ⟨rfl, hb⟩; refine ⟨_, rfl, ?_⟩; replace HO195 := As (RB (ro HO195.out) hb); replace BK190 := As (YB (g := gb190) (o := .cells #[.int .i64 a0_0, .int .i64 a0_1, .int .i64 a0_2, .int .i64 a0_3, .int .i64 a0_4, .int .i64 a0_5, .int .i64 a0_6, .int .i64 a0_7, .int .i64 a0_8, .int .i64 a0_9] 32 (0, 0)) (bk BK190.out) hb); replace HB := As (XT (be HB.out) hb); (try clear hb); (try clear hb2); (try clear hk); (try clear hi)))
  go_ret2
  exact ⟨by first | rfl | (simp [errW_none, errW_some] <;> rfl) | (simp [*, errW_none, errW_some] <;> rfl), by repeat (first | (with_reducible first | exact HB.out | apply XA | apply XN | apply XD | refine XS ?_ GE190.out) | exact HB.out)⟩

-- NOT PRINTED: function 91 (bytealg_IndexByteString)

-- NOT PRINTED: function 74 (stringslite_IndexByte)

-- NOT PRINTED: function 75 (bytealg_IndexString)

end Go.Proofs.YtpagbmkdphdjoaaGreatDoor.P
-- SHRUNK
-- PACKED
-- PACKED2
