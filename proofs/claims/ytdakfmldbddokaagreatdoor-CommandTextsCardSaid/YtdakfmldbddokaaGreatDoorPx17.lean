-- written by myprint.py (this claim's own program, after the kit's print)
import Derived.Test.YtdakfmldbddokaaGreatDoorPx0
import Derived.Test.YtdakfmldbddokaaGreatDoorPx12
import Derived.Test.YtdakfmldbddokaaGreatDoorPx16
import Derived.Test.YtdakfmldbddokaaGreatDoorPack
namespace Go.Proofs.YtdakfmldbddokaaGreatDoor.P
open Go.RowKit Go.Proofs.YtdakfmldbddokaaGreatDoorW.PrintWords Go.Proofs.YtdakfmldbddokaaGreatDoorW.PrintLast Go.Proofs.YtdakfmldbddokaaGreatDoorW.PrintMore
attribute [local go_sem] max2_int min2_int max_two min_two max_three min_three max_four min_four   -- for this text's walks alone
set_option linter.unusedVariables false
set_option linter.unusedSimpArgs false

abbrev zc17 : Array Value := #[.int .i64 0, .string (⟨#[]⟩ : ByteArray), .int .i64 0, .int .i64 0, .int .i64 0, .int .i64 0, .int .i64 0, .string (⟨#[]⟩ : ByteArray)]
theorem sn {a b c : ByteArray} (h : (a ++ b).size + c.size ≤ 9223372036854775807) : ¬ 9223372036854775807 < a.size + b.size + c.size := by rw [ByteArray.size_append] at h; omega
/-! ### qP: function 11 -/
mutual
def qP.l0 : Nat → ByteArray → List ByteArray → Int → Int → Option (Int × ByteArray × Int × Int × Int × Int × Int × ByteArray × Int)
 | 0, _, _, _, _ => none
 | k + 1, x0, x4, x5, x6 => if x6 ≤ (x0.size : Int) then (if x6 = (x0.size : Int) then (if 0 ≤ x5 then (if x5 ≤ x6 then (if x4.length < 8796093022208 then (qP.l0 k x0 (x4 ++ [x0.extract (x5 : Int).toNat (x6 : Int).toNat]) (wrap64 (x6 + 1)) (wrap64 (x6 + 1))) else (none)) else (none)) else (none)) else (if 0 ≤ x6 then (if x6 < (x0.size : Int) then (if (bt x0 x6) = 59 then (if 0 ≤ x5 then (if x5 ≤ x6 then (if x4.length < 8796093022208 then (qP.l0 k x0 (x4 ++ [x0.extract (x5 : Int).toNat (x6 : Int).toNat]) (wrap64 (x6 + 1)) (wrap64 (x6 + 1))) else (none)) else (none)) else (none)) else (qP.l0 k x0 x4 x5 (wrap64 (x6 + 1)))) else (none)) else (none))) else (if 0 < (x4.length : Int) then ((qS.f k (rdOf ByteArray.empty x4 0)).bind fun bt485 => (if bt485.1 = 0 then (some (0, (⟨#[]⟩ : ByteArray), 0, 0, 0, 0, 0, (⟨#[]⟩ : ByteArray), 12)) else (if (wrap64 ((x4.length : Int) - 1)) < (bt485.2.size : Int) then (some (0, (⟨#[]⟩ : ByteArray), 0, 0, 0, 0, 0, (⟨#[]⟩ : ByteArray), 13)) else (if 0 ≤ (wrap64 ((bt485.2.size : Int) - 1)) then (if (wrap64 ((bt485.2.size : Int) - 1)) < (bt485.2.size : Int) then (if (bt bt485.2 (wrap64 ((bt485.2.size : Int) - 1))) = 116 then (qP.j1 k x4 bt485.1 bt485.2 (bt485.2.size : Int) false) else (qP.j1 k x4 bt485.1 bt485.2 (bt485.2.size : Int) (decide ((wrap64 ((x4.length : Int) - 1)) > (bt485.2.size : Int))))) else (none)) else (none))))) else (none))
def qP.j1 : Nat → List ByteArray → Int → ByteArray → Int → Bool → Option (Int × ByteArray × Int × Int × Int × Int × Int × ByteArray × Int)
 | 0, _, _, _, _, _ => none
 | k + 1, x4, x7, x8, x9, x75 => if x75 = true then (some (0, (⟨#[]⟩ : ByteArray), 0, 0, 0, 0, 0, (⟨#[]⟩ : ByteArray), 3)) else (if 0 ≤ (wrap64 (x9 - 1)) then (if (wrap64 (x9 - 1)) < (x8.size : Int) then (if (bt x8 (wrap64 (x9 - 1))) = 116 then (qP.l1 k x4 x7 x8 x9 x9 x7 (⟨#[]⟩ : ByteArray) 0 0 0 0 0 (⟨#[]⟩ : ByteArray)) else (qP.j4 k x4 x7 x8 x9 x7 (⟨#[]⟩ : ByteArray) 0 0 0 0 0 (⟨#[]⟩ : ByteArray))) else (none)) else (none))
def qP.j4 : Nat → List ByteArray → Int → ByteArray → Int → Int → ByteArray → Int → Int → Int → Int → Int → ByteArray → Option (Int × ByteArray × Int × Int × Int × Int × Int × ByteArray × Int)
 | 0, _, _, _, _, _, _, _, _, _, _, _, _ => none
 | k + 1, x4, x7, x8, x9, xb0, xb1, xb2, xb3, xb4, xb5, xb6, xb7 => qP.l3 k x4 x7 x8 x9 0 0 xb0 xb1 xb2 xb3 xb4 xb5 xb6 xb7
def qP.l3 : Nat → List ByteArray → Int → ByteArray → Int → Int → Int → Int → ByteArray → Int → Int → Int → Int → Int → ByteArray → Option (Int × ByteArray × Int × Int × Int × Int × Int × ByteArray × Int)
 | 0, _, _, _, _, _, _, _, _, _, _, _, _, _, _ => none
 | k + 1, x4, x7, x8, x9, x13, x14, xb0, xb1, xb2, xb3, xb4, xb5, xb6, xb7 => if x14 < x9 then (if 0 ≤ x14 then (if x14 < (x8.size : Int) then (if (bt x8 x14) = 111 then (if 0 ≤ (wrap64 (x14 + 1)) then (if (wrap64 (x14 + 1)) < (x4.length : Int) then ((qN.f k (rdOf ByteArray.empty x4 (wrap64 (x14 + 1)))).bind fun t491 => (if t491 = true then (qP.l3 k x4 x7 x8 x9 x13 (wrap64 (x14 + 1)) xb0 (rdOf ByteArray.empty x4 (wrap64 (x14 + 1))) xb2 xb3 xb4 xb5 xb6 xb7) else (some (0, (⟨#[]⟩ : ByteArray), 0, 0, 0, 0, 0, (⟨#[]⟩ : ByteArray), 11)))) else (none)) else (none)) else (if (bt x8 x14) = 116 then (qP.l3 k x4 x7 x8 x9 x13 (wrap64 (x14 + 1)) xb0 xb1 xb2 xb3 xb4 xb5 xb6 xb7) else (if 0 ≤ (wrap64 (x14 + 1)) then (if (wrap64 (x14 + 1)) < (x4.length : Int) then ((qr.f k (bt x8 x14) (rdOf ByteArray.empty x4 (wrap64 (x14 + 1)))).bind fun bt494 => (if bt494.2 = 0 then (if x13 = (0 : Int) then (qP.l3 k x4 x7 x8 x9 (wrap64 (x13 + 1)) (wrap64 (x14 + 1)) xb0 xb1 bt494.1 xb3 xb4 xb5 xb6 xb7) else (if x13 = (1 : Int) then (qP.l3 k x4 x7 x8 x9 (wrap64 (x13 + 1)) (wrap64 (x14 + 1)) xb0 xb1 xb2 bt494.1 xb4 xb5 xb6 xb7) else (if x13 = (2 : Int) then (qP.l3 k x4 x7 x8 x9 (wrap64 (x13 + 1)) (wrap64 (x14 + 1)) xb0 xb1 xb2 xb3 bt494.1 xb5 xb6 xb7) else (if x13 = (3 : Int) then (qP.l3 k x4 x7 x8 x9 (wrap64 (x13 + 1)) (wrap64 (x14 + 1)) xb0 xb1 xb2 xb3 xb4 bt494.1 xb6 xb7) else (if x13 = (4 : Int) then (qP.l3 k x4 x7 x8 x9 (wrap64 (x13 + 1)) (wrap64 (x14 + 1)) xb0 xb1 xb2 xb3 xb4 xb5 bt494.1 xb7) else (none)))))) else (some (0, (⟨#[]⟩ : ByteArray), 0, 0, 0, 0, 0, (⟨#[]⟩ : ByteArray), bt494.2)))) else (none)) else (none)))) else (none)) else (none)) else (if x7 = 1 then (if xb2 ≥ xb3 then (some (0, (⟨#[]⟩ : ByteArray), 0, 0, 0, 0, 0, (⟨#[]⟩ : ByteArray), 5)) else (some (xb0, xb1, xb2, xb3, xb4, xb5, xb6, xb7, 0))) else (some (xb0, xb1, xb2, xb3, xb4, xb5, xb6, xb7, 0)))
def qP.l1 : Nat → List ByteArray → Int → ByteArray → Int → Int → Int → ByteArray → Int → Int → Int → Int → Int → ByteArray → Option (Int × ByteArray × Int × Int × Int × Int × Int × ByteArray × Int)
 | 0, _, _, _, _, _, _, _, _, _, _, _, _, _ => none
 | k + 1, x4, x7, x8, x9, x11, xb0, xb1, xb2, xb3, xb4, xb5, xb6, xb7 => if x11 < (x4.length : Int) then (if x11 > x9 then (if xb7.size + 1 ≤ 9223372036854775807 then (if 0 ≤ x11 then (if (xb7 ++ (⟨#[59]⟩ : ByteArray)).size + (rdOf ByteArray.empty x4 x11).size ≤ 9223372036854775807 then (qP.l1 k x4 x7 x8 x9 (wrap64 (x11 + 1)) xb0 xb1 xb2 xb3 xb4 xb5 xb6 ((xb7 ++ (⟨#[59]⟩ : ByteArray)) ++ (rdOf ByteArray.empty x4 x11))) else (none)) else (none)) else (none)) else (if 0 ≤ x11 then (if xb7.size + (rdOf ByteArray.empty x4 x11).size ≤ 9223372036854775807 then (qP.l1 k x4 x7 x8 x9 (wrap64 (x11 + 1)) xb0 xb1 xb2 xb3 xb4 xb5 xb6 (xb7 ++ (rdOf ByteArray.empty x4 x11))) else (none)) else (none))) else (qP.l2 k x4 x7 x8 x9 0 xb0 xb1 xb2 xb3 xb4 xb5 xb6 xb7)
def qP.l2 : Nat → List ByteArray → Int → ByteArray → Int → Int → Int → ByteArray → Int → Int → Int → Int → Int → ByteArray → Option (Int × ByteArray × Int × Int × Int × Int × Int × ByteArray × Int)
 | 0, _, _, _, _, _, _, _, _, _, _, _, _, _ => none
 | k + 1, x4, x7, x8, x9, x12, xb0, xb1, xb2, xb3, xb4, xb5, xb6, xb7 => if x12 < (xb7.size : Int) then (if 0 ≤ x12 then (if (bt xb7 x12) = 10 then (some (0, (⟨#[]⟩ : ByteArray), 0, 0, 0, 0, 0, (⟨#[]⟩ : ByteArray), 3)) else (qP.l2 k x4 x7 x8 x9 (wrap64 (x12 + 1)) xb0 xb1 xb2 xb3 xb4 xb5 xb6 xb7)) else (none)) else (qP.j4 k x4 x7 x8 x9 xb0 xb1 xb2 xb3 xb4 xb5 xb6 xb7)
end
def qP.f (k : Nat) (a0 : ByteArray) : Option (Int × ByteArray × Int × Int × Int × Int × Int × ByteArray × Int) := if (a0.size : Int) > 4096 then (some (0, (⟨#[]⟩ : ByteArray), 0, 0, 0, 0, 0, (⟨#[]⟩ : ByteArray), 2)) else (qP.l0 k a0 ([] : List ByteArray) 0 0)
theorem qP.mono_l : ∀ k, (∀ y0 y1 y2 y3, LeO (qP.l0 k y0 y1 y2 y3) (qP.l0 (k + 1) y0 y1 y2 y3)) ∧ (∀ y0 y1 y2 y3 y4, LeO (qP.j1 k y0 y1 y2 y3 y4) (qP.j1 (k + 1) y0 y1 y2 y3 y4)) ∧ (∀ y0 y1 y2 y3 y4 y5 y6 y7 y8 y9 y10 y11, LeO (qP.j4 k y0 y1 y2 y3 y4 y5 y6 y7 y8 y9 y10 y11) (qP.j4 (k + 1) y0 y1 y2 y3 y4 y5 y6 y7 y8 y9 y10 y11)) ∧ (∀ y0 y1 y2 y3 y4 y5 y6 y7 y8 y9 y10 y11 y12 y13, LeO (qP.l3 k y0 y1 y2 y3 y4 y5 y6 y7 y8 y9 y10 y11 y12 y13) (qP.l3 (k + 1) y0 y1 y2 y3 y4 y5 y6 y7 y8 y9 y10 y11 y12 y13)) ∧ (∀ y0 y1 y2 y3 y4 y5 y6 y7 y8 y9 y10 y11 y12, LeO (qP.l1 k y0 y1 y2 y3 y4 y5 y6 y7 y8 y9 y10 y11 y12) (qP.l1 (k + 1) y0 y1 y2 y3 y4 y5 y6 y7 y8 y9 y10 y11 y12)) ∧ (∀ y0 y1 y2 y3 y4 y5 y6 y7 y8 y9 y10 y11 y12, LeO (qP.l2 k y0 y1 y2 y3 y4 y5 y6 y7 y8 y9 y10 y11 y12) (qP.l2 (k + 1) y0 y1 y2 y3 y4 y5 y6 y7 y8 y9 y10 y11 y12))
 | 0 => ⟨fun _ _ _ _ r h => by simp [qP.l0] at h, fun _ _ _ _ _ r h => by simp [qP.j1] at h, fun _ _ _ _ _ _ _ _ _ _ _ _ r h => by simp [qP.j4] at h, fun _ _ _ _ _ _ _ _ _ _ _ _ _ _ r h => by simp [qP.l3] at h, fun _ _ _ _ _ _ _ _ _ _ _ _ _ r h => by simp [qP.l1] at h, fun _ _ _ _ _ _ _ _ _ _ _ _ _ r h => by simp [qP.l2] at h⟩
 | k + 1 => by
  obtain ⟨ih0, ih1, ih2, ih3, ih4, ih5⟩ := qP.mono_l k;refine ⟨?_, ?_, ?_, ?_, ?_, ?_⟩
  ·intro y0 y1 y2 y3;unfold qP.l0
   repeat' (with_reducible first|apply ih0|apply ih1|apply ih2|apply ih3|apply ih4|apply ih5|apply qN.mono|apply qr.mono|apply qS.mono|apply LeO.refl|apply LeO.none|refine LeO.ite ?_ ?_|refine LeO.bind ?_ (fun _=>?_))
  ·intro y0 y1 y2 y3 y4;unfold qP.j1
   repeat' (with_reducible first|apply ih0|apply ih1|apply ih2|apply ih3|apply ih4|apply ih5|apply qN.mono|apply qr.mono|apply qS.mono|apply LeO.refl|apply LeO.none|refine LeO.ite ?_ ?_|refine LeO.bind ?_ (fun _=>?_))
  ·intro y0 y1 y2 y3 y4 y5 y6 y7 y8 y9 y10 y11;unfold qP.j4
   repeat' (with_reducible first|apply ih0|apply ih1|apply ih2|apply ih3|apply ih4|apply ih5|apply qN.mono|apply qr.mono|apply qS.mono|apply LeO.refl|apply LeO.none|refine LeO.ite ?_ ?_|refine LeO.bind ?_ (fun _=>?_))
  ·intro y0 y1 y2 y3 y4 y5 y6 y7 y8 y9 y10 y11 y12 y13;unfold qP.l3
   repeat' (with_reducible first|apply ih0|apply ih1|apply ih2|apply ih3|apply ih4|apply ih5|apply qN.mono|apply qr.mono|apply qS.mono|apply LeO.refl|apply LeO.none|refine LeO.ite ?_ ?_|refine LeO.bind ?_ (fun _=>?_))
  ·intro y0 y1 y2 y3 y4 y5 y6 y7 y8 y9 y10 y11 y12;unfold qP.l1
   repeat' (with_reducible first|apply ih0|apply ih1|apply ih2|apply ih3|apply ih4|apply ih5|apply qN.mono|apply qr.mono|apply qS.mono|apply LeO.refl|apply LeO.none|refine LeO.ite ?_ ?_|refine LeO.bind ?_ (fun _=>?_))
  ·intro y0 y1 y2 y3 y4 y5 y6 y7 y8 y9 y10 y11 y12;unfold qP.l2
   repeat' (with_reducible first|apply ih0|apply ih1|apply ih2|apply ih3|apply ih4|apply ih5|apply qN.mono|apply qr.mono|apply qS.mono|apply LeO.refl|apply LeO.none|refine LeO.ite ?_ ?_|refine LeO.bind ?_ (fun _=>?_))
theorem qP.mono : ∀ a0 k, LeO (qP.f k a0) (qP.f (k + 1) a0) := by
 intro a0 k;obtain ⟨ih0, ih1, ih2, ih3, ih4, ih5⟩ := qP.mono_l k;unfold qP.f
 repeat' (with_reducible first|apply ih0|apply ih1|apply ih2|apply ih3|apply ih4|apply ih5|apply qN.mono|apply qr.mono|apply qS.mono|apply LeO.refl|apply LeO.none|refine LeO.ite ?_ ?_|refine LeO.bind ?_ (fun _=>?_))
def qP.T26 : Bool × List (List Nat × List Nat) := (true, [([], []), ([0], [0]), ([], []), ([], []), ([2, 3], [2, 3]), ([4], [4]), ([1, 5], [1, 5]), ([0, 1, 2, 3, 4, 5, 6], []), ([7, 6, 0, 1, 2, 3, 4, 5, 6], [6, 7])])
def qP.B26 : List Nat := [0, 1, 0, 0, 12, 28, 63, 127, 255]
theorem qP.tab26 : rtab .any (opsOf Tryz.f11 26) = qP.T26 := by kernel_rfl
theorem qP.bits26 : waitsOk qP.T26.2 qP.B26 = true := by kernel_rfl
def qP.T41 : Bool × List (List Nat × List Nat) := (true, [([], []), ([], []), ([0, 1], [0, 1]), ([], []), ([], []), ([4], [4]), ([3, 5], [3, 5]), ([6], [6]), ([2, 7], [2, 7]), ([8], [8]), ([9], [9]), ([9], [9]), ([10, 8, 0, 1, 2, 3, 4, 5, 6, 7, 8, 9, 10], [10]), ([11, 12, 0, 1, 2, 3, 4, 5, 6, 7, 8, 9, 10, 11, 12], [11])])
def qP.B41 : List Nat := [0, 0, 3, 0, 0, 16, 56, 120, 255, 511, 1023, 1023, 2047, 8191]
theorem qP.tab41 : rtab .any (opsOf Tryz.f11 41) = qP.T41 := by kernel_rfl
theorem qP.bits41 : waitsOk qP.T41.2 qP.B41 = true := by kernel_rfl
set_option maxHeartbeats 8000000 in
set_option maxRecDepth 100000 in
theorem qP.calls (k : Nat) (a0 : ByteArray) (r1 : Int) (r2 : ByteArray) (r3 : Int) (r4 : Int) (r5 : Int) (r6 : Int) (r7 : Int) (r8 : ByteArray) (r9 : Int) (w : World) (h : qP.f k a0 = some (r1, r2, r3, r4, r5, r6, r7, r8, r9)) :
  Calls Tryz.prog 11 #[.string a0] w fun e w' => e = .returned (.tuple #[.agg #[.int .i64 r1, .string r2, .int .i64 r3, .int .i64 r4, .int .i64 r5, .int .i64 r6, .int .i64 r7, .string r8], .int .i64 r9]) ∧ Below w.heap.size w w' := by
 have hu24 := Tryz.underlying24;have HB := As (Below.refl w.heap.size w);have H : (if (a0.size : Int) > 4096 then (some (0, (⟨#[]⟩ : ByteArray), 0, 0, 0, 0, 0, (⟨#[]⟩ : ByteArray), 2)) else (qP.l0 k a0 ([] : List ByteArray) 0 0)) = some (r1, r2, r3, r4, r5, r6, r7, r8, r9) := h;clear h
 by_cases c2 : (a0.size : Int) > 4096
 ·rw [if_pos c2] at H;have c2b0 : decide (4096 < (a0.size : Int)) = true := dY c2;have c2b1 : decide (4096 < a0.size) = true := dY (by omega);clear c2;simp only [Option.some.injEq, Prod.mk.injEq] at H;obtain ⟨rfl, rfl, rfl, rfl, rfl, rfl, rfl, rfl, rfl⟩ := H
  go_enter Tryz.func11, Tryz.ntmps11
  go_wp2_with (first | ((with_reducible refine gate_dst (N := 2) rfl ?_); (try (refine gate_guard (by rfl) ?_; dsimp only)); refine box_event ?hg (N := 2) ?hd (cs := zc17) (t := 24) ?hr ?_; (case hd => rfl); (case hg => rfl); (case hr => first | (go_simp; done) | (go_simp; rfl)); intro gb477 hg w3 hbox hb; have BK477 := As (hbox); have GW477 := As ((gz hg (be HB.out) : w.heap.size ≤ gb477)); have GE477 := As ((gz hg (be HB.out) : w.heap.size ≤ gb477)); replace HB := As (XT (be HB.out) hb); clear hb hbox hg; obtain ⟨hcz4_0, hcz4_1, hcz4_2, hcz4_3, hcz4_4, hcz4_5, hcz4_6, hcz4_7, hfz4_0, hfz4_1, hfz4_2, hfz4_3, hfz4_4, hfz4_5, hfz4_6, hfz4_7⟩ := cz8 BK477.out))
  refine bodyPost_ret (results_ct rfl _ _ gb477 24 zc17 (0, 0) _ rfl (by (with_reducible repeat (first | refine YN ?_ _ | refine YD ?_ | refine YA ?_ _)); refine blk_put (cs := zc17) ?_ 7 _ rfl; (with_reducible repeat (first | refine YN ?_ _ | refine YD ?_ | refine YA ?_ _)); refine blk_put (cs := zc17) ?_ 6 _ rfl; (with_reducible repeat (first | refine YN ?_ _ | refine YD ?_ | refine YA ?_ _)); refine blk_put (cs := zc17) ?_ 5 _ rfl; (with_reducible repeat (first | refine YN ?_ _ | refine YD ?_ | refine YA ?_ _)); refine blk_put (cs := zc17) ?_ 4 _ rfl; (with_reducible repeat (first | refine YN ?_ _ | refine YD ?_ | refine YA ?_ _)); refine blk_put (cs := zc17) ?_ 3 _ rfl; (with_reducible repeat (first | refine YN ?_ _ | refine YD ?_ | refine YA ?_ _)); refine blk_put (cs := zc17) ?_ 2 _ rfl; (with_reducible repeat (first | refine YN ?_ _ | refine YD ?_ | refine YA ?_ _)); refine blk_put (cs := zc17) ?_ 1 _ rfl; (with_reducible repeat (first | refine YN ?_ _ | refine YD ?_ | refine YA ?_ _)); refine blk_put (cs := zc17) ?_ 0 _ rfl; (with_reducible repeat (first | refine YN ?_ _ | refine YD ?_ | refine YA ?_ _)); exact BK477.out) Tryz.underlying24 rfl kr) rfl ?_;exact ⟨by first | rfl | (simp [errW_none, errW_some] <;> rfl) | (simp [*, errW_none, errW_some] <;> rfl), by repeat (first | (with_reducible first | exact HB.out | apply XA | apply XN | apply XD | refine XS ?_ GE477.out) | exact HB.out)⟩
 ·rw [if_neg c2] at H;have c2b0 : decide (4096 < (a0.size : Int)) = false := dN c2;have c2b1 : decide (4096 < a0.size) = false := dN (by omega);clear c2;have H' := As H;clear H
  go_enter Tryz.func11, Tryz.ntmps11
  go_wp2_with (first | ((with_reducible refine gate_dst (N := 2) rfl ?_); (try (refine gate_guard (by rfl) ?_; dsimp only)); refine box_event ?hg (N := 2) ?hd (cs := zc17) (t := 24) ?hr ?_; (case hd => rfl); (case hg => rfl); (case hr => first | (go_simp; done) | (go_simp; rfl)); intro gb477 hg w5 hbox hb; have BK477 := As (hbox); have GW477 := As ((gz hg (be HB.out) : w.heap.size ≤ gb477)); have GE477 := As ((gz hg (be HB.out) : w.heap.size ≤ gb477)); replace HB := As (XT (be HB.out) hb); clear hb hbox hg))
  go_loopg [4, 5, 6] k (fun kq v4 v5 v6 w' => ∃ (x4_1 : List ByteArray) (x5_1 : Int) (x6_1 : Int), v5 = .int .i64 x5_1 ∧ v6 = .int .i64 x6_1 ∧ Aside0 (qP.l0 kq a0 x4_1 x5_1 x6_1 = some (r1, r2, r3, r4, r5, r6, r7, r8, r9)) ∧ Aside0 (kq ≤ k) ∧ Aside0 (Kd.R Kd.string 9 w' w.heap.size (fun _ => True) v4 x4_1) ∧ Aside0 (w'.heap[gb477]? = some (.cells zc17 24 (0, 0))) ∧ Aside0 (Below w.heap.size w w'))
  case atStart => exact ⟨(([] : List ByteArray)), (0), (0), sw, sw, H', ⟨Nat.le_refl _⟩, ⟨by first | exact Kd.R_nil _ _ _ _ _ | exact Kd.N_nil _ _ _ _ _ | exact Kd.V_nil _ _ _ _ _ | exact Kd.Q_nil _ _ _ _ _ | exact Kd.S_nil _ _ _ _ _⟩, ⟨by (with_reducible repeat (first | refine YN ?_ _ | refine YD ?_ | refine YA ?_ _)); exact BK477.out⟩, ⟨by repeat (first | (with_reducible first | exact HB.out | apply XA | apply XN | apply XD | refine XS ?_ GE477.out) | exact HB.out)⟩⟩
  case round =>
   clear H'
   try clear c1
   try clear c2
   try clear c2b0
   try clear c2b1
   try clear p2
   try clear hcz4_0 hcz4_1 hcz4_2 hcz4_3 hcz4_4 hcz4_5 hcz4_6 hcz4_7 hfz4_0 hfz4_1 hfz4_2 hfz4_3 hfz4_4 hfz4_5 hfz4_6 hfz4_7
   obtain ⟨x4_1, x5_1, x6_1, rfl, rfl, HA, HK1, HO_4, BK477, HB⟩ := hrel
   cases gk with
   | zero => exact absurd HA.out (by simp [qP.l0])
   | succ k1 =>
    have H := HA.out;clear HA;simp only [qP.l0] at H
    by_cases c6 : x6_1 ≤ (a0.size : Int)
    focus
     rw [if_pos c6] at H;have c6b0 : decide (x6_1 ≤ (a0.size : Int)) = true := dY c6;clear c6
     by_cases c7 : x6_1 = (a0.size : Int)
     focus
      rw [if_pos c7] at H;have c7b0 : (x6_1 == (a0.size : Int)) = true := beq_iff_eq.mpr c7;have c7b1 : (x6_1 != (a0.size : Int)) = false := bne_eq_false_iff_eq.mpr c7;clear c7
      by_cases c8 : 0 ≤ x5_1
      rotate_left
      ·rw [if_neg c8] at H;exact absurd H (by simp)
      rw [if_pos c8] at H;have c8b0 := eq_true c8;have c8b1 : decide (0 ≤ x5_1) = true := dY c8;clear c8
      by_cases c9 : x5_1 ≤ x6_1
      rotate_left
      ·rw [if_neg c9] at H;exact absurd H (by simp)
      rw [if_pos c9] at H;have c9b0 := eq_true c9;have c9b1 : decide (x5_1 ≤ x6_1) = true := dY c9;clear c9;have c10b0 := eq_true (dT hy : x6_1 ≤ (a0.size : Int))
      by_cases c11 : x4_1.length < 8796093022208
      rotate_left
      ·rw [if_neg c11] at H;exact absurd H (by simp)
      rw [if_pos c11] at H;have LMc20 := As c11;clear c11
      obtain ⟨y481, hy478⟩ : ∃ y_ : List ByteArray, y_ = (x4_1 ++ [a0.extract (x5_1 : Int).toNat (x6_1 : Int).toNat]) := ⟨_, rfl⟩
      replace H : (qP.l0 k1 a0 y481 (wrap64 (x6_1 + 1)) (wrap64 (x6_1 + 1))) = some (r1, r2, r3, r4, r5, r6, r7, r8, r9) := by first | (rw [hy478]; with_reducible exact H) | (have H2_ := (Option.bind_some _ _).symm.trans H; rw [hy478]; with_reducible exact H2_) | (have H2_ := (Option.bind_some _ _).symm.trans H; with_reducible exact H2_) | with_reducible exact H | (rw [hy478]; exact H) | exact H
      have Ny481 := As hy478;clear hy478;have H' := As H;clear H
      have m2_ := trivial
     rotate_left
     focus
      rw [if_neg c7] at H;have c7b0 : (x6_1 == (a0.size : Int)) = false := beq_eq_false_iff_ne.mpr c7;have c7b1 : (x6_1 != (a0.size : Int)) = true := bne_iff_ne.mpr c7
      by_cases c13 : 0 ≤ x6_1
      rotate_left
      ·rw [if_neg c13] at H;exact absurd H (by simp)
      rw [if_pos c13] at H;have c13b0 : decide (0 ≤ x6_1) = true := dY c13;clear c13
      by_cases c14 : x6_1 < (a0.size : Int)
      rotate_left
      ·rw [if_neg c14] at H;exact absurd H (by simp)
      rw [if_pos c14] at H;have c14b0 : decide (x6_1 < (a0.size : Int)) = true := dY c14;clear c14
      by_cases c16 : (bt a0 x6_1) = 59
      focus
       rw [if_pos c16] at H;have c16b0 : ((bt a0 x6_1) == 59) = true := beq_iff_eq.mpr c16;have c16b1 : ((bt a0 x6_1) != 59) = false := bne_eq_false_iff_eq.mpr c16;clear c16
       by_cases c17 : 0 ≤ x5_1
       rotate_left
       ·rw [if_neg c17] at H;exact absurd H (by simp)
       rw [if_pos c17] at H;have c17b0 := eq_true c17;have c17b1 : decide (0 ≤ x5_1) = true := dY c17;clear c17
       by_cases c18 : x5_1 ≤ x6_1
       rotate_left
       ·rw [if_neg c18] at H;exact absurd H (by simp)
       rw [if_pos c18] at H;have c18b0 := eq_true c18;have c18b1 : decide (x5_1 ≤ x6_1) = true := dY c18;clear c18;have c19b0 := eq_true (dT hy : x6_1 ≤ (a0.size : Int))
       by_cases c20 : x4_1.length < 8796093022208
       rotate_left
       ·rw [if_neg c20] at H;exact absurd H (by simp)
       rw [if_pos c20] at H;have LMc20 := As c20;clear c20
       obtain ⟨y481, hy481⟩ : ∃ y_ : List ByteArray, y_ = (x4_1 ++ [a0.extract (x5_1 : Int).toNat (x6_1 : Int).toNat]) := ⟨_, rfl⟩
       replace H : (qP.l0 k1 a0 y481 (wrap64 (x6_1 + 1)) (wrap64 (x6_1 + 1))) = some (r1, r2, r3, r4, r5, r6, r7, r8, r9) := by first | (rw [hy481]; with_reducible exact H) | (have H2_ := (Option.bind_some _ _).symm.trans H; rw [hy481]; with_reducible exact H2_) | (have H2_ := (Option.bind_some _ _).symm.trans H; with_reducible exact H2_) | with_reducible exact H | (rw [hy481]; exact H) | exact H
       have Ny481 := As hy481;clear hy481;have H' := As H;clear H;have p15 : 0 ≤ (x6_1 : Int) := dT hy;have q15 : x6_1 < (a0.size : Int) := dT hy;have hx15 := bt_at a0 x6_1;replace p15 := eq_true p15;replace q15 := eq_true q15
       have m1_ := trivial
      rotate_left
      rw [if_neg c16] at H;have c16b0 : ((bt a0 x6_1) == 59) = false := beq_eq_false_iff_ne.mpr c16;have c16b1 : ((bt a0 x6_1) != 59) = true := bne_iff_ne.mpr c16;have H' := As H;clear H;have p15 : 0 ≤ (x6_1 : Int) := dT hy;have q15 : x6_1 < (a0.size : Int) := dT hy;have hx15 := bt_at a0 x6_1;replace p15 := eq_true p15;replace q15 := eq_true q15
    rotate_left 3
    focus
     rw [if_neg c6] at H;have c6b0 : decide (x6_1 ≤ (a0.size : Int)) = false := dN c6;clear c6
     by_cases c22 : 0 < (x4_1.length : Int)
     rotate_left
     ·rw [if_neg c22] at H;exact absurd H (by simp)
     rw [if_pos c22] at H;have c22b0 : decide (0 < (x4_1.length : Int)) = true := dY c22;have c22b1 : decide (0 < x4_1.length) = true := dY (by omega);clear c22;replace H := bE H;obtain ⟨⟨t485, t486⟩, A230, H⟩ := H;replace H : (if t485 = 0 then (some (0, (⟨#[]⟩ : ByteArray), 0, 0, 0, 0, 0, (⟨#[]⟩ : ByteArray), 12)) else (if (wrap64 ((x4_1.length : Int) - 1)) < (t486.size : Int) then (some (0, (⟨#[]⟩ : ByteArray), 0, 0, 0, 0, 0, (⟨#[]⟩ : ByteArray), 13)) else (if 0 ≤ (wrap64 ((t486.size : Int) - 1)) then (if (wrap64 ((t486.size : Int) - 1)) < (t486.size : Int) then (if (bt t486 (wrap64 ((t486.size : Int) - 1))) = 116 then (qP.j1 k1 x4_1 t485 t486 (t486.size : Int) false) else (qP.j1 k1 x4_1 t485 t486 (t486.size : Int) (decide ((wrap64 ((x4_1.length : Int) - 1)) > (t486.size : Int))))) else (none)) else (none)))) = some (r1, r2, r3, r4, r5, r6, r7, r8, r9) := H;have A23 := As A230;clear A230
     by_cases c24 : t485 = 0
     rw [if_pos c24] at H;have c24b0 : (t485 == 0) = true := beq_iff_eq.mpr c24;have c24b1 : (t485 != 0) = false := bne_eq_false_iff_eq.mpr c24;clear c24;simp only [Option.some.injEq, Prod.mk.injEq] at H;obtain ⟨rfl, rfl, rfl, rfl, rfl, rfl, rfl, rfl, rfl⟩ := H;obtain ⟨Ao25, co25, eo25⟩ := Kd.R_slice HO_4.out;subst eo25
     have p484 : 0 ≤ (0 : Int) := (by omega)
     have q484 : 0 < (x4_1.length : Int) := dT hy;obtain ⟨ad484, e484, hx484_0⟩ := Kd.at_string (RR HO_4.out).2.2 0 p484 q484
     cases e484
     have qi484 : (0 < x4_1.length) = True := eq_true (by omega)
     (try rw [show ((0 : Int)).toNat = 0 from rfl] at hx484_0)
     (try rw [Addr.add_zero'] at hx484_0)
     replace p484 := eq_true p484;replace q484 := eq_true q484
     have m4_ := trivial
     rotate_left
     focus
      rw [if_neg c24] at H;have c24b0 : (t485 == 0) = false := beq_eq_false_iff_ne.mpr c24;have c24b1 : (t485 != 0) = true := bne_iff_ne.mpr c24
      by_cases c28 : (wrap64 ((x4_1.length : Int) - 1)) < (t486.size : Int)
      rw [if_pos c28] at H;have c28b0 : decide ((wrap64 ((x4_1.length : Int) - 1)) < (t486.size : Int)) = true := dY c28;clear c28;simp only [Option.some.injEq, Prod.mk.injEq] at H;obtain ⟨rfl, rfl, rfl, rfl, rfl, rfl, rfl, rfl, rfl⟩ := H;obtain ⟨Ao29, co29, eo29⟩ := Kd.R_slice HO_4.out;subst eo29
      have p484 : 0 ≤ (0 : Int) := (by omega)
      have q484 : 0 < (x4_1.length : Int) := dT hy;obtain ⟨ad484, e484, hx484_0⟩ := Kd.at_string (RR HO_4.out).2.2 0 p484 q484
      cases e484
      have qi484 : (0 < x4_1.length) = True := eq_true (by omega)
      (try rw [show ((0 : Int)).toNat = 0 from rfl] at hx484_0)
      (try rw [Addr.add_zero'] at hx484_0)
      replace p484 := eq_true p484;replace q484 := eq_true q484
      have m3_ := trivial
      rotate_left
      rw [if_neg c28] at H;have c28b0 : decide ((wrap64 ((x4_1.length : Int) - 1)) < (t486.size : Int)) = false := dN c28;clear c28;have HC32 := As H;clear H;obtain ⟨Ao33, co33, eo33⟩ := Kd.R_slice HO_4.out;subst eo33
      have p484 : 0 ≤ (0 : Int) := (by omega)
      have q484 : 0 < (x4_1.length : Int) := dT hy;obtain ⟨ad484, e484, hx484_0⟩ := Kd.at_string (RR HO_4.out).2.2 0 p484 q484
      cases e484
      have qi484 : (0 < x4_1.length) = True := eq_true (by omega)
      (try rw [show ((0 : Int)).toNat = 0 from rfl] at hx484_0)
      (try rw [Addr.add_zero'] at hx484_0)
      replace p484 := eq_true p484;replace q484 := eq_true q484
    all_goals try
     first | (clear m1_; have m1_ := trivial) | (clear m2_; have m2_ := trivial)
     go_wp2_with (first | ((with_reducible refine gate_builtin (b := .append) (xs := #[.tmp 37, .tmp 42]) rfl ?_); (try (refine gate_guard (by rfl) ?_; dsimp only)); at_builtin; refine Kd.R_append Kd.string (w0 := w) w.heap.size rfl (.tmp 37) (.tmp 42) 47 9 (.string ⟨#[]⟩) 16 rfl Tryz.underlying47 info9 rfl (by decide) (by omega) u4 x4_1 (a0.extract (x5_1 : Int).toNat (x6_1 : Int).toNat) [.string (a0.extract (x5_1 : Int).toNat (x6_1 : Int).toNat)] (fun _ => True) (fun _ => False) rfl rfl ?aP (fun _ hk => hk.elim) ?aF ?aO ?aB ?aS ?aL ?_; (case aP => exact rfl); (case aB => exact (be HB.out)); (case aF => exact (fun _ _ => trivial)); (case aO => exact (ro HO_4.out)); (case aS => exact (XZ (be HB.out))); (case aL => have := LMc20.out; omega); intro v482 w21 ho hb hg hat; rw [← Ny481.out] at ho; have n0_ := As (blk_grown (g := gb477) (o := .cells zc17 24 (0, 0)) (bk BK477.out) hg (Kd.R_ne HO_4.out BK477.out (by decide))); have n1_ := As (hb); have n2_ := As (ho); clear BK477; clear HB; clear HO_4; have BK477 := n0_; have HB := n1_; have HO483 := n2_; clear n0_ n1_ n2_; clear ho hb hg hat))
     go_roundg k1
     case measure => have := HK1.out; omega
     case rel => exact ⟨(y481), (wrap64 (x6_1 + 1)), (wrap64 (x6_1 + 1)), sw, sw, H', ⟨by have := HK1.out; omega⟩, ⟨by (with_reducible repeat (first | apply RA | apply RN | apply RD)); exact HO483.out⟩, ⟨by (with_reducible repeat (first | refine YN ?_ _ | refine YD ?_ | refine YA ?_ _)); exact BK477.out⟩, ⟨by repeat (first | (with_reducible first | exact HB.out | apply XA | apply XN | apply XD | refine XS ?_ GE477.out) | exact HB.out)⟩⟩
    all_goals try
     first | (clear m3_; have m3_ := trivial) | (clear m4_; have m4_ := trivial)
     go_wp2_with (first | ((with_reducible refine gate_callee (f := 24) rfl ?_); refine goesL_ (some 50) rfl rfl Tryz.func24 kr rfl #[.string (rdOf ByteArray.empty x4_1 0)] rfl sa ?_; (with_reducible refine (qS.calls k1 (rdOf ByteArray.empty x4_1 0) _ _ _ A23.out).mono ?_); rintro e w30 ⟨rfl, hb⟩; refine ⟨_, rfl, ?_⟩; replace HO_4 := As (RB (ro HO_4.out) hb); replace BK477 := As (YB (g := gb477) (o := .cells zc17 24 (0, 0)) (bk BK477.out) hb); replace HB := As (XT (be HB.out) hb); (try clear hb); (try clear hb2); (try clear hk); (try clear hi); obtain ⟨hcz31_0, hcz31_1, hcz31_2, hcz31_3, hcz31_4, hcz31_5, hcz31_6, hcz31_7, hfz31_0, hfz31_1, hfz31_2, hfz31_3, hfz31_4, hfz31_5, hfz31_6, hfz31_7⟩ := cz8 BK477.out))
     refine bodyPost_ret (results_ct rfl _ _ gb477 24 zc17 (0, 0) _ rfl (by (with_reducible repeat (first | refine YN ?_ _ | refine YD ?_ | refine YA ?_ _)); refine blk_put (cs := zc17) ?_ 7 _ rfl; (with_reducible repeat (first | refine YN ?_ _ | refine YD ?_ | refine YA ?_ _)); refine blk_put (cs := zc17) ?_ 6 _ rfl; (with_reducible repeat (first | refine YN ?_ _ | refine YD ?_ | refine YA ?_ _)); refine blk_put (cs := zc17) ?_ 5 _ rfl; (with_reducible repeat (first | refine YN ?_ _ | refine YD ?_ | refine YA ?_ _)); refine blk_put (cs := zc17) ?_ 4 _ rfl; (with_reducible repeat (first | refine YN ?_ _ | refine YD ?_ | refine YA ?_ _)); refine blk_put (cs := zc17) ?_ 3 _ rfl; (with_reducible repeat (first | refine YN ?_ _ | refine YD ?_ | refine YA ?_ _)); refine blk_put (cs := zc17) ?_ 2 _ rfl; (with_reducible repeat (first | refine YN ?_ _ | refine YD ?_ | refine YA ?_ _)); refine blk_put (cs := zc17) ?_ 1 _ rfl; (with_reducible repeat (first | refine YN ?_ _ | refine YD ?_ | refine YA ?_ _)); refine blk_put (cs := zc17) ?_ 0 _ rfl; (with_reducible repeat (first | refine YN ?_ _ | refine YD ?_ | refine YA ?_ _)); exact BK477.out) Tryz.underlying24 rfl kr) rfl ?_;exact ⟨by first | rfl | (simp [errW_none, errW_some] <;> rfl) | (simp [*, errW_none, errW_some] <;> rfl), by repeat (first | (with_reducible first | exact HB.out | apply XA | apply XN | apply XD | refine XS ?_ GE477.out) | exact HB.out)⟩
    ·go_upto_region 17 with (first | ((with_reducible refine gate_callee (f := 24) rfl ?_); refine goesL_ (some 50) rfl rfl Tryz.func24 kr rfl #[.string (rdOf ByteArray.empty x4_1 0)] rfl sa ?_; (with_reducible refine (qS.calls k1 (rdOf ByteArray.empty x4_1 0) _ _ _ A23.out).mono ?_); rintro e w34 ⟨rfl, hb⟩; refine ⟨_, rfl, ?_⟩; replace HO_4 := As (RB (ro HO_4.out) hb); replace BK477 := As (YB (g := gb477) (o := .cells zc17 24 (0, 0)) (bk BK477.out) hb); replace HB := As (XT (be HB.out) hb); (try clear hb); (try clear hb2); (try clear hk); (try clear hi)))
     (try simp only [Act.put, List.setIfInBounds_toArray, List.set_cons_zero, List.set_cons_succ])
     go_cut [75] (fun v75 wc => ∃ (kq : Nat) (x75_31 : Bool), v75 = .bool x75_31 ∧ Aside0 (qP.j1 kq x4_1 t485 t486 (t486.size : Int) x75_31 = some (r1, r2, r3, r4, r5, r6, r7, r8, r9)) ∧ Aside0 (kq ≤ k1) ∧ Aside0 (Kd.R Kd.string 9 wc w.heap.size (fun _ => True) (.slice (some ad484) x4_1.length co33) x4_1) ∧ Aside0 (wc.heap[gb477]? = some (.cells zc17 24 (0, 0))) ∧ Aside0 (Below w.heap.size w wc))
     case first =>
      have H := HC32.out;clear HC32
      obtain ⟨ji35, hji35⟩ : ∃ j_ : Int, (wrap64 ((t486.size : Int) - 1)) = j_ := ⟨_, rfl⟩
      replace H : (if 0 ≤ (ji35) then (if (ji35) < (t486.size : Int) then (if (bt t486 (ji35)) = 116 then (qP.j1 k1 x4_1 t485 t486 (t486.size : Int) false) else (qP.j1 k1 x4_1 t485 t486 (t486.size : Int) (decide ((wrap64 ((x4_1.length : Int) - 1)) > (t486.size : Int))))) else (none)) else (none)) = some (r1, r2, r3, r4, r5, r6, r7, r8, r9) := by first | (rw [hji35] at H; exact H) | (simp only [hji35] at H ⊢; exact H)
      have hji35w : (IntKind.i64.wrap ((t486.size : Int) - 1)) = ji35 := (i64_w _).trans hji35
      by_cases c36 : 0 ≤ (ji35)
      ·rw [if_pos c36] at H;have c36b0 : decide (0 ≤ (ji35)) = true := dY c36;clear c36
       (first | rw [c36b0] | (simp only [i64_w, i32_w]; rw [c36b0]) | skip)
       by_cases c37 : (ji35) < (t486.size : Int)
       ·rw [if_pos c37] at H;have c37b0 : decide ((ji35) < (t486.size : Int)) = true := dY c37;clear c37
        by_cases c39 : (bt t486 (ji35)) = 116
        ·rw [if_pos c39] at H;have c39b0 : ((bt t486 (ji35)) == 116) = true := beq_iff_eq.mpr c39;have c39b1 : ((bt t486 (ji35)) != 116) = false := bne_eq_false_iff_eq.mpr c39;clear c39;have H' := As H;clear H;have p38 : 0 ≤ ((ji35) : Int) := dT hy;have q38 : (ji35) < (t486.size : Int) := dT hy;have hx38 := bt_at t486 (ji35);replace p38 := eq_true p38;replace q38 := eq_true q38
         go_wp2
         go_meet
         case rel => exact ⟨_, (false), sw, H', ⟨by have := HK1.out; first | omega | exact Nat.le_refl _⟩, ⟨by (with_reducible repeat (first | apply RA | apply RN | apply RD)); exact HO_4.out⟩, ⟨by (with_reducible repeat (first | refine YN ?_ _ | refine YD ?_ | refine YA ?_ _)); exact BK477.out⟩, ⟨by repeat (first | (with_reducible first | exact HB.out | apply XA | apply XN | apply XD | refine XS ?_ GE477.out) | exact HB.out)⟩⟩
        ·rw [if_neg c39] at H;have c39b0 : ((bt t486 (ji35)) == 116) = false := beq_eq_false_iff_ne.mpr c39;have c39b1 : ((bt t486 (ji35)) != 116) = true := bne_iff_ne.mpr c39;have H' := As H;clear H;have p38 : 0 ≤ ((ji35) : Int) := dT hy;have q38 : (ji35) < (t486.size : Int) := dT hy;have hx38 := bt_at t486 (ji35);replace p38 := eq_true p38;replace q38 := eq_true q38
         go_wp2
         go_meet
         case rel => exact ⟨_, (decide ((wrap64 ((x4_1.length : Int) - 1)) > (t486.size : Int))), sw, H', ⟨by have := HK1.out; first | omega | exact Nat.le_refl _⟩, ⟨by (with_reducible repeat (first | apply RA | apply RN | apply RD)); exact HO_4.out⟩, ⟨by (with_reducible repeat (first | refine YN ?_ _ | refine YD ?_ | refine YA ?_ _)); exact BK477.out⟩, ⟨by repeat (first | (with_reducible first | exact HB.out | apply XA | apply XN | apply XD | refine XS ?_ GE477.out) | exact HB.out)⟩⟩
       ·rw [if_neg c37] at H;exact absurd H (by simp)
      ·rw [if_neg c36] at H;exact absurd H (by simp)
     case rest =>
      clear HC32
      try clear c1
      try clear p1
      try clear q1
      try clear hx1
      try clear c2
      try clear c2b0
      try clear c2b1
      try clear p2
      try clear c3
      try clear p3
      try clear q3
      try clear hx3
      try clear p4
      try clear q4
      try clear hx4
      try clear qi4
      try clear c6
      try clear c6b0
      try clear p6
      try clear c7
      try clear c7b0
      try clear c7b1
      try clear c8
      try clear c8b0
      try clear c8b1
      try clear c9
      try clear c9b0
      try clear c9b1
      try clear c10
      try clear c10b0
      try clear c11
      try clear c13
      try clear c13b0
      try clear c14
      try clear c14b0
      try clear p15
      try clear q15
      try clear hx15
      try clear c16
      try clear c16b0
      try clear c16b1
      try clear c17
      try clear c17b0
      try clear c17b1
      try clear c18
      try clear c18b0
      try clear c18b1
      try clear c19
      try clear c19b0
      try clear c20
      try clear c22
      try clear c22b0
      try clear c22b1
      try clear c24
      try clear c24b0
      try clear c24b1
      try clear c28
      try clear c28b0
      try clear c36
      try clear c36b0
      try clear c37
      try clear c37b0
      try clear p38
      try clear q38
      try clear hx38
      try clear c39
      try clear c39b0
      try clear c39b1
      try clear hcz31_0 hcz31_1 hcz31_2 hcz31_3 hcz31_4 hcz31_5 hcz31_6 hcz31_7
      try clear hcz31_0 hcz31_1 hcz31_2 hcz31_3 hcz31_4 hcz31_5 hcz31_6 hcz31_7
      try clear hcz4_0 hcz4_1 hcz4_2 hcz4_3 hcz4_4 hcz4_5 hcz4_6 hcz4_7
      try clear hfz31_0 hfz31_1 hfz31_2 hfz31_3 hfz31_4 hfz31_5 hfz31_6 hfz31_7
      try clear hfz31_0 hfz31_1 hfz31_2 hfz31_3 hfz31_4 hfz31_5 hfz31_6 hfz31_7
      try clear hfz4_0 hfz4_1 hfz4_2 hfz4_3 hfz4_4 hfz4_5 hfz4_6 hfz4_7
      try clear hx484_0
      try clear p15
      try clear p2
      try clear p38
      try clear p484
      try clear q15
      try clear q38
      try clear q484
      obtain ⟨kq, x75_31, rfl, HA, HJ31, HO_4, BK477, HB⟩ := hcut
      cases kq with
      | zero => exact absurd HA.out (by simp [qP.j1])
      | succ kj31 =>
       have H := HA.out;clear HA;simp only [qP.j1] at H
       by_cases c40 : x75_31 = true
       ·subst c40
        have H1 : (some (0, (⟨#[]⟩ : ByteArray), 0, 0, 0, 0, 0, (⟨#[]⟩ : ByteArray), 3)) = some (r1, r2, r3, r4, r5, r6, r7, r8, r9) := by rw [if_pos rfl] at H; exact H
        clear H;have H := H1;clear H1;simp only [Option.some.injEq, Prod.mk.injEq] at H;obtain ⟨rfl, rfl, rfl, rfl, rfl, rfl, rfl, rfl, rfl⟩ := H;obtain ⟨hcz41_0, hcz41_1, hcz41_2, hcz41_3, hcz41_4, hcz41_5, hcz41_6, hcz41_7, hfz41_0, hfz41_1, hfz41_2, hfz41_3, hfz41_4, hfz41_5, hfz41_6, hfz41_7⟩ := cz8 BK477.out
        go_wp2
        refine bodyPost_ret (results_ct rfl _ _ gb477 24 zc17 (0, 0) _ rfl (by (with_reducible repeat (first | refine YN ?_ _ | refine YD ?_ | refine YA ?_ _)); refine blk_put (cs := zc17) ?_ 7 _ rfl; (with_reducible repeat (first | refine YN ?_ _ | refine YD ?_ | refine YA ?_ _)); refine blk_put (cs := zc17) ?_ 6 _ rfl; (with_reducible repeat (first | refine YN ?_ _ | refine YD ?_ | refine YA ?_ _)); refine blk_put (cs := zc17) ?_ 5 _ rfl; (with_reducible repeat (first | refine YN ?_ _ | refine YD ?_ | refine YA ?_ _)); refine blk_put (cs := zc17) ?_ 4 _ rfl; (with_reducible repeat (first | refine YN ?_ _ | refine YD ?_ | refine YA ?_ _)); refine blk_put (cs := zc17) ?_ 3 _ rfl; (with_reducible repeat (first | refine YN ?_ _ | refine YD ?_ | refine YA ?_ _)); refine blk_put (cs := zc17) ?_ 2 _ rfl; (with_reducible repeat (first | refine YN ?_ _ | refine YD ?_ | refine YA ?_ _)); refine blk_put (cs := zc17) ?_ 1 _ rfl; (with_reducible repeat (first | refine YN ?_ _ | refine YD ?_ | refine YA ?_ _)); refine blk_put (cs := zc17) ?_ 0 _ rfl; (with_reducible repeat (first | refine YN ?_ _ | refine YD ?_ | refine YA ?_ _)); exact BK477.out) Tryz.underlying24 rfl kr) rfl ?_;exact ⟨by first | rfl | (simp [errW_none, errW_some] <;> rfl) | (simp [*, errW_none, errW_some] <;> rfl), by repeat (first | (with_reducible first | exact HB.out | apply XA | apply XN | apply XD | refine XS ?_ GE477.out) | exact HB.out)⟩
       ·replace c40 := Bool.eq_false_iff.mpr c40;subst c40
        have H1 : (if 0 ≤ (wrap64 ((t486.size : Int) - 1)) then (if (wrap64 ((t486.size : Int) - 1)) < (t486.size : Int) then (if (bt t486 (wrap64 ((t486.size : Int) - 1))) = 116 then (qP.l1 kj31 x4_1 t485 t486 (t486.size : Int) (t486.size : Int) t485 (⟨#[]⟩ : ByteArray) 0 0 0 0 0 (⟨#[]⟩ : ByteArray)) else (qP.j4 kj31 x4_1 t485 t486 (t486.size : Int) t485 (⟨#[]⟩ : ByteArray) 0 0 0 0 0 (⟨#[]⟩ : ByteArray))) else (none)) else (none)) = some (r1, r2, r3, r4, r5, r6, r7, r8, r9) := by rw [if_neg (show ¬ (false = true) by decide)] at H; exact H
        clear H;have H := H1;clear H1
        obtain ⟨ji42, hji42⟩ : ∃ j_ : Int, (wrap64 ((t486.size : Int) - 1)) = j_ := ⟨_, rfl⟩
        replace H : (if 0 ≤ (ji42) then (if (ji42) < (t486.size : Int) then (if (bt t486 (ji42)) = 116 then (qP.l1 kj31 x4_1 t485 t486 (t486.size : Int) (t486.size : Int) t485 (⟨#[]⟩ : ByteArray) 0 0 0 0 0 (⟨#[]⟩ : ByteArray)) else (qP.j4 kj31 x4_1 t485 t486 (t486.size : Int) t485 (⟨#[]⟩ : ByteArray) 0 0 0 0 0 (⟨#[]⟩ : ByteArray))) else (none)) else (none)) = some (r1, r2, r3, r4, r5, r6, r7, r8, r9) := by first | (rw [hji42] at H; exact H) | (simp only [hji42] at H ⊢; exact H)
        have hji42w : (IntKind.i64.wrap ((t486.size : Int) - 1)) = ji42 := (i64_w _).trans hji42
        by_cases c43 : 0 ≤ (ji42)
        ·rw [if_pos c43] at H;have c43b0 : decide (0 ≤ (ji42)) = true := dY c43;clear c43
         by_cases c44 : (ji42) < (t486.size : Int)
         ·rw [if_pos c44] at H;have c44b0 : decide ((ji42) < (t486.size : Int)) = true := dY c44;clear c44;have HC46 := As H;clear H
          go_upto_if 83 with (first | ((with_reducible refine gate_dst (N := 10) rfl ?_); (try (refine gate_guard (by rfl) ?_; dsimp only)); refine box_event ?hg (N := 10) ?hd (cs := zc17) (t := 24) ?hr ?_; (case hd => rfl); (case hg => rfl); (case hr => first | (go_simp; done) | (go_simp; rfl)); intro gb487 hg w47 hbox hb; replace HO_4 := As (RB (ro HO_4.out) hb); have BK487 := As (hbox); have GW487 := As ((gz hg (be HB.out) : w.heap.size ≤ gb487)); have GE487 := As ((gz hg (be HB.out) : w.heap.size ≤ gb487)); replace HB := As (XT (be HB.out) hb); have NB477_487 := As ((by rw [hg]; exact Nat.ne_of_lt (blk_lt (g := gb477) (o := .cells zc17 24 (0, 0)) (bk BK477.out)) : gb477 ≠ gb487)); have NB487_477 := As ((by rw [hg]; exact Nat.ne_of_gt (blk_lt (g := gb477) (o := .cells zc17 24 (0, 0)) (bk BK477.out)) : gb487 ≠ gb477)); replace BK477 := As (YB (g := gb477) (o := .cells zc17 24 (0, 0)) (bk BK477.out) hb); clear hb hbox hg; have hnb48 := NB487_477.out; have hnc48 := NB477_487.out; obtain ⟨hcz49_0, hcz49_1, hcz49_2, hcz49_3, hcz49_4, hcz49_5, hcz49_6, hcz49_7, hfz49_0, hfz49_1, hfz49_2, hfz49_3, hfz49_4, hfz49_5, hfz49_6, hfz49_7⟩ := cz8 BK487.out; have p45 : 0 ≤ ((ji42) : Int) := dT hy; have q45 : (ji42) < (t486.size : Int) := dT hy; have hx45 := bt_at t486 (ji42); replace p45 := eq_true p45; replace q45 := eq_true q45))
          (try simp only [Act.put, List.setIfInBounds_toArray, List.set_cons_zero, List.set_cons_succ])
          go_cut [] (fun wc => ∃ (kq : Nat) (xa0_45 : Int) (xa1_45 : ByteArray) (xa2_45 : Int) (xa3_45 : Int) (xa4_45 : Int) (xa5_45 : Int) (xa6_45 : Int) (xa7_45 : ByteArray) (xb7_45 : ByteArray), Aside0 (qP.j4 kq x4_1 t485 t486 (t486.size : Int) t485 (⟨#[]⟩ : ByteArray) 0 0 0 0 0 xb7_45 = some (r1, r2, r3, r4, r5, r6, r7, r8, r9)) ∧ Aside0 (kq ≤ kj31) ∧ Aside0 (Kd.R Kd.string 9 wc w.heap.size (fun _ => True) (.slice (some ad484) x4_1.length co33) x4_1) ∧ Aside0 (wc.heap[gb477]? = some (.cells #[.int .i64 xa0_45, .string xa1_45, .int .i64 xa2_45, .int .i64 xa3_45, .int .i64 xa4_45, .int .i64 xa5_45, .int .i64 xa6_45, .string xa7_45] 24 (0, 0))) ∧ Aside0 (wc.heap[gb487]? = some (.cells #[.int .i64 t485, .string (⟨#[]⟩ : ByteArray), .int .i64 0, .int .i64 0, .int .i64 0, .int .i64 0, .int .i64 0, .string xb7_45] 24 (0, 0))) ∧ Aside0 (Below w.heap.size w wc))
          case first =>
           have H := HC46.out;clear HC46
           by_cases c50 : (bt t486 (ji42)) = 116
           ·rw [if_pos c50] at H;have c50b0 : ((bt t486 (ji42)) == 116) = true := beq_iff_eq.mpr c50;have c50b1 : ((bt t486 (ji42)) != 116) = false := bne_eq_false_iff_eq.mpr c50;clear c50
            (first | rw [c50b0] | (simp only [i64_w, i32_w]; rw [c50b0]) | skip)
            have H' := As H;clear H
            go_wp2
            go_loopg [11] kj31 (fun kq v11 w' => ∃ (x11_3 : Int) (xb7_3 : ByteArray), v11 = .int .i64 x11_3 ∧ Aside0 (qP.l1 kq x4_1 t485 t486 (t486.size : Int) x11_3 t485 (⟨#[]⟩ : ByteArray) 0 0 0 0 0 xb7_3 = some (r1, r2, r3, r4, r5, r6, r7, r8, r9)) ∧ Aside0 (kq ≤ kj31) ∧ Aside0 (Kd.R Kd.string 9 w' w.heap.size (fun _ => True) (.slice (some ad484) x4_1.length co33) x4_1) ∧ Aside0 (w'.heap[gb477]? = some (.cells zc17 24 (0, 0))) ∧ Aside0 (w'.heap[gb487]? = some (.cells #[.int .i64 t485, .string (⟨#[]⟩ : ByteArray), .int .i64 0, .int .i64 0, .int .i64 0, .int .i64 0, .int .i64 0, .string xb7_3] 24 (0, 0))) ∧ Aside0 (Below w.heap.size w w'))
            case atStart => exact ⟨((t486.size : Int)), ((⟨#[]⟩ : ByteArray)), sw, H', ⟨Nat.le_refl _⟩, ⟨by (with_reducible repeat (first | apply RA | apply RN | apply RD)); exact RM (RF (p := ⟨gb487, 7, none⟩) (RF (p := ⟨gb487, 6, none⟩) (RF (p := ⟨gb487, 5, none⟩) (RF (p := ⟨gb487, 4, none⟩) (RF (p := ⟨gb487, 3, none⟩) (RF (p := ⟨gb487, 2, none⟩) (RF (p := ⟨gb487, 1, none⟩) (RF (p := ⟨gb487, 0, none⟩) (Kd.R_types HO_4.out BK487.out (by decide)) (fun _ hk => hk.2) (.int .i64 t485)) (fun _ hk => hk.2) (.string (⟨#[]⟩ : ByteArray))) (fun _ hk => hk.2) (.int .i64 0)) (fun _ hk => hk.2) (.int .i64 0)) (fun _ hk => hk.2) (.int .i64 0)) (fun _ hk => hk.2) (.int .i64 0)) (fun _ hk => hk.2) (.int .i64 0)) (fun _ hk => hk.2) (.string (⟨#[]⟩ : ByteArray))) (fun _ hk => trivial)⟩, ⟨by (iterate 8 ((with_reducible repeat (first | refine YN ?_ _ | refine YD ?_ | refine YA ?_ _)); refine blk_far ?_ NB477_487.out _)); (with_reducible repeat (first | refine YN ?_ _ | refine YD ?_ | refine YA ?_ _)); exact BK477.out⟩, ⟨by (with_reducible repeat (first | refine YN ?_ _ | refine YD ?_ | refine YA ?_ _)); refine blk_put (cs := #[.int .i64 t485, .string (⟨#[]⟩ : ByteArray), .int .i64 0, .int .i64 0, .int .i64 0, .int .i64 0, .int .i64 0, .string (⟨#[]⟩ : ByteArray)]) ?_ 7 _ rfl; (with_reducible repeat (first | refine YN ?_ _ | refine YD ?_ | refine YA ?_ _)); refine blk_put (cs := #[.int .i64 t485, .string (⟨#[]⟩ : ByteArray), .int .i64 0, .int .i64 0, .int .i64 0, .int .i64 0, .int .i64 0, .string (⟨#[]⟩ : ByteArray)]) ?_ 6 _ rfl; (with_reducible repeat (first | refine YN ?_ _ | refine YD ?_ | refine YA ?_ _)); refine blk_put (cs := #[.int .i64 t485, .string (⟨#[]⟩ : ByteArray), .int .i64 0, .int .i64 0, .int .i64 0, .int .i64 0, .int .i64 0, .string (⟨#[]⟩ : ByteArray)]) ?_ 5 _ rfl; (with_reducible repeat (first | refine YN ?_ _ | refine YD ?_ | refine YA ?_ _)); refine blk_put (cs := #[.int .i64 t485, .string (⟨#[]⟩ : ByteArray), .int .i64 0, .int .i64 0, .int .i64 0, .int .i64 0, .int .i64 0, .string (⟨#[]⟩ : ByteArray)]) ?_ 4 _ rfl; (with_reducible repeat (first | refine YN ?_ _ | refine YD ?_ | refine YA ?_ _)); refine blk_put (cs := #[.int .i64 t485, .string (⟨#[]⟩ : ByteArray), .int .i64 0, .int .i64 0, .int .i64 0, .int .i64 0, .int .i64 0, .string (⟨#[]⟩ : ByteArray)]) ?_ 3 _ rfl; (with_reducible repeat (first | refine YN ?_ _ | refine YD ?_ | refine YA ?_ _)); refine blk_put (cs := #[.int .i64 t485, .string (⟨#[]⟩ : ByteArray), .int .i64 0, .int .i64 0, .int .i64 0, .int .i64 0, .int .i64 0, .string (⟨#[]⟩ : ByteArray)]) ?_ 2 _ rfl; (with_reducible repeat (first | refine YN ?_ _ | refine YD ?_ | refine YA ?_ _)); refine blk_put (cs := #[.int .i64 t485, .string (⟨#[]⟩ : ByteArray), .int .i64 0, .int .i64 0, .int .i64 0, .int .i64 0, .int .i64 0, .string (⟨#[]⟩ : ByteArray)]) ?_ 1 _ rfl; (with_reducible repeat (first | refine YN ?_ _ | refine YD ?_ | refine YA ?_ _)); refine blk_put (cs := zc17) ?_ 0 _ rfl; (with_reducible repeat (first | refine YN ?_ _ | refine YD ?_ | refine YA ?_ _)); exact BK487.out⟩, ⟨by repeat (first | (with_reducible first | exact HB.out | apply XA | apply XN | apply XD | refine XS ?_ GE477.out | refine XS ?_ GE487.out) | exact HB.out)⟩⟩
            case round =>
             clear H'
             try clear c1
             try clear p1
             try clear q1
             try clear hx1
             try clear c2
             try clear c2b0
             try clear c2b1
             try clear p2
             try clear c3
             try clear p3
             try clear q3
             try clear hx3
             try clear c4
             try clear p4
             try clear q4
             try clear hx4
             try clear qi4
             try clear c5
             try clear c6
             try clear c6b0
             try clear p6
             try clear c7
             try clear c7b0
             try clear c7b1
             try clear c8
             try clear c8b0
             try clear c8b1
             try clear c9
             try clear c9b0
             try clear c9b1
             try clear c10
             try clear c10b0
             try clear c11
             try clear c13
             try clear c13b0
             try clear c14
             try clear c14b0
             try clear p15
             try clear q15
             try clear hx15
             try clear c16
             try clear c16b0
             try clear c16b1
             try clear c17
             try clear c17b0
             try clear c17b1
             try clear c18
             try clear c18b0
             try clear c18b1
             try clear c19
             try clear c19b0
             try clear c20
             try clear c22
             try clear c22b0
             try clear c22b1
             try clear c24
             try clear c24b0
             try clear c24b1
             try clear c28
             try clear c28b0
             try clear c36
             try clear c36b0
             try clear c37
             try clear c37b0
             try clear p38
             try clear q38
             try clear hx38
             try clear c39
             try clear c39b0
             try clear c39b1
             try clear c40
             try clear c43
             try clear c43b0
             try clear c44
             try clear c44b0
             try clear p45
             try clear q45
             try clear hx45
             try clear c48
             try clear p48
             try clear q48
             try clear hx48
             try clear qi48
             try clear c50
             try clear c50b0
             try clear c50b1
             try clear hcz31_0 hcz31_1 hcz31_2 hcz31_3 hcz31_4 hcz31_5 hcz31_6 hcz31_7
             try clear hcz31_0 hcz31_1 hcz31_2 hcz31_3 hcz31_4 hcz31_5 hcz31_6 hcz31_7
             try clear hcz41_0 hcz41_1 hcz41_2 hcz41_3 hcz41_4 hcz41_5 hcz41_6 hcz41_7
             try clear hcz49_0 hcz49_1 hcz49_2 hcz49_3 hcz49_4 hcz49_5 hcz49_6 hcz49_7
             try clear hcz4_0 hcz4_1 hcz4_2 hcz4_3 hcz4_4 hcz4_5 hcz4_6 hcz4_7
             try clear hfz31_0 hfz31_1 hfz31_2 hfz31_3 hfz31_4 hfz31_5 hfz31_6 hfz31_7
             try clear hfz31_0 hfz31_1 hfz31_2 hfz31_3 hfz31_4 hfz31_5 hfz31_6 hfz31_7
             try clear hfz41_0 hfz41_1 hfz41_2 hfz41_3 hfz41_4 hfz41_5 hfz41_6 hfz41_7
             try clear hfz49_0 hfz49_1 hfz49_2 hfz49_3 hfz49_4 hfz49_5 hfz49_6 hfz49_7
             try clear hfz4_0 hfz4_1 hfz4_2 hfz4_3 hfz4_4 hfz4_5 hfz4_6 hfz4_7
             try clear hx484_0
             try clear p1
             try clear p15
             try clear p2
             try clear p3
             try clear p38
             try clear p4
             try clear p45
             try clear p484
             try clear p6
             try clear q1
             try clear q15
             try clear q3
             try clear q38
             try clear q4
             try clear q45
             try clear q484
             obtain ⟨x11_3, xb7_3, rfl, HA, HK3, HO_4, BK477, BK487, HB⟩ := hrel
             cases gk with
             | zero => exact absurd HA.out (by simp [qP.l1])
             | succ k3 =>
              have H := HA.out;clear HA;simp only [qP.l1] at H
              by_cases c51 : x11_3 < (x4_1.length : Int)
              ·rw [if_pos c51] at H;have c51b0 : decide (x11_3 < (x4_1.length : Int)) = true := dY c51;clear c51
               by_cases c52 : x11_3 > (t486.size : Int)
               ·rw [if_pos c52] at H;have c52b0 : decide ((t486.size : Int) < x11_3) = true := dY c52;clear c52
                by_cases c53 : xb7_3.size + 1 ≤ 9223372036854775807
                ·rw [if_pos c53] at H;have c53b0 := eq_true c53;have c53b1 : decide (xb7_3.size + 1 ≤ 9223372036854775807) = true := dY c53
                 try have c53b2 : (9223372036854775807 < xb7_3.size + 1) = False := eq_false (Nat.not_lt.2 c53)
                 by_cases c54 : 0 ≤ x11_3
                 ·rw [if_pos c54] at H;have c54b0 : decide (0 ≤ x11_3) = true := dY c54;clear c54
                  by_cases c55 : (xb7_3 ++ (⟨#[59]⟩ : ByteArray)).size + (rdOf ByteArray.empty x4_1 x11_3).size ≤ 9223372036854775807
                  ·rw [if_pos c55] at H;have c55b0 := eq_true c55;have c55b1 : decide ((xb7_3 ++ (⟨#[59]⟩ : ByteArray)).size + (rdOf ByteArray.empty x4_1 x11_3).size ≤ 9223372036854775807) = true := dY c55
                   try have c55b2 : (9223372036854775807 < (xb7_3 ++ (⟨#[59]⟩ : ByteArray)).size + (rdOf ByteArray.empty x4_1 x11_3).size) = False := eq_false (Nat.not_lt.2 c55)
                   have H' := As H;clear H;have hnb56 := NB487_477.out;have hnc56 := NB477_487.out;obtain ⟨hcz57_0, hcz57_1, hcz57_2, hcz57_3, hcz57_4, hcz57_5, hcz57_6, hcz57_7, hfz57_0, hfz57_1, hfz57_2, hfz57_3, hfz57_4, hfz57_5, hfz57_6, hfz57_7⟩ := cz8 BK487.out
                   try go_wp2
                   have n0_ : Aside0 (Kd.R Kd.string 9 (wr.setCell ⟨gb487, 7, none⟩ (.string (xb7_3 ++ (⟨#[59]⟩ : ByteArray)))) w.heap.size (fun _ => True) (.slice (some ad484) x4_1.length co33) x4_1) := ⟨by (with_reducible repeat (first | apply RA | apply RN | apply RD)); exact RM (RF (p := ⟨gb487, 7, none⟩) (Kd.R_types HO_4.out BK487.out (by decide)) (fun _ hk => hk.2) (.string (xb7_3 ++ (⟨#[59]⟩ : ByteArray)))) (fun _ hk => trivial)⟩
                   have n1_ : Aside0 ((wr.setCell ⟨gb487, 7, none⟩ (.string (xb7_3 ++ (⟨#[59]⟩ : ByteArray)))).heap[gb477]? = some (.cells zc17 24 (0, 0))) := ⟨by (with_reducible repeat (first | refine YN ?_ _ | refine YD ?_ | refine YA ?_ _)); refine blk_far ?_ NB477_487.out _; (with_reducible repeat (first | refine YN ?_ _ | refine YD ?_ | refine YA ?_ _)); exact BK477.out⟩
                   have n2_ : Aside0 ((wr.setCell ⟨gb487, 7, none⟩ (.string (xb7_3 ++ (⟨#[59]⟩ : ByteArray)))).heap[gb487]? = some (.cells #[.int .i64 t485, .string (⟨#[]⟩ : ByteArray), .int .i64 0, .int .i64 0, .int .i64 0, .int .i64 0, .int .i64 0, .string (xb7_3 ++ (⟨#[59]⟩ : ByteArray))] 24 (0, 0))) := ⟨by (with_reducible repeat (first | refine YN ?_ _ | refine YD ?_ | refine YA ?_ _)); refine blk_put (cs := #[.int .i64 t485, .string (⟨#[]⟩ : ByteArray), .int .i64 0, .int .i64 0, .int .i64 0, .int .i64 0, .int .i64 0, .string xb7_3]) ?_ 7 _ rfl; (with_reducible repeat (first | refine YN ?_ _ | refine YD ?_ | refine YA ?_ _)); exact BK487.out⟩
                   have n3_ : Aside0 (Below w.heap.size w (wr.setCell ⟨gb487, 7, none⟩ (.string (xb7_3 ++ (⟨#[59]⟩ : ByteArray))))) := ⟨by repeat (first | (with_reducible first | exact HB.out | apply XA | apply XN | apply XD | refine XS ?_ GE477.out | refine XS ?_ GE487.out) | exact HB.out)⟩
                   (try clear HO_4)
                   (try clear BK477)
                   (try clear BK487)
                   (try clear HB)
                   generalize (wr.setCell ⟨gb487, 7, none⟩ (.string (xb7_3 ++ (⟨#[59]⟩ : ByteArray)))) = w58 at n0_ n1_ n2_ n3_ ⊢;have HO_4 := n0_;have BK477 := n1_;have BK487 := n2_;have HB := n3_;clear n0_ n1_ n2_ n3_;replace HO_4 := As (RD HO_4.out);replace BK477 := As (YD BK477.out);replace BK487 := As (YD BK487.out);replace HB := As (XD HB.out);have p488 : 0 ≤ (x11_3 : Int) := dT hy;have q488 : x11_3 < (x4_1.length : Int) := dT hy;obtain ⟨ad488, e488, hx488_0⟩ := Kd.at_string (RR HO_4.out).2.2 x11_3 p488 q488
                   obtain rfl : ad484 = ad488 := (by injection e488)
                   replace p488 := eq_true p488;replace q488 := eq_true q488;refine start_ (n := 9) (S := fun w' => w'.cell? ⟨gb487, 0, none⟩ = some (.int .i64 t485) ∧ w'.cell? ⟨gb487, 1, none⟩ = some (.string (⟨#[]⟩ : ByteArray)) ∧ w'.cell? ⟨gb487, 2, none⟩ = some (.int .i64 0) ∧ w'.cell? ⟨gb487, 3, none⟩ = some (.int .i64 0) ∧ w'.cell? ⟨gb487, 4, none⟩ = some (.int .i64 0) ∧ w'.cell? ⟨gb487, 5, none⟩ = some (.int .i64 0) ∧ w'.cell? ⟨gb487, 6, none⟩ = some (.int .i64 0) ∧ w'.cell? ⟨gb487, 7, none⟩ = some (.string (xb7_3 ++ (⟨#[59]⟩ : ByteArray))) ∧ w'.cell? (ad484.add (x11_3).toNat) = some (.string (rdOf ByteArray.empty x4_1 x11_3))) (ds := [8]) (fl 0 9) kr rfl rfl ⟨bc BK487.out 0 rfl, bc BK487.out 1 rfl, bc BK487.out 2 rfl, bc BK487.out 3 rfl, bc BK487.out 4 rfl, bc BK487.out 5 rfl, bc BK487.out 6 rfl, bc BK487.out 7 rfl, hx488_0⟩ (fun hHeld => ?_); refine with_tabW qP.tab26 qP.bits26 (fun HT_ HW_ => ?_);generalize w58.drew = w59 at HO_4 BK477 BK487 HB hx488_0 hHeld ⊢;refine pure_ (i := 0) (N := some 98) (v := ?_) (a' := ?_) (fl 1 8) rfl rfl (any_of HT_.out kr) (fun _ _ _ h => h) (Or.inl ⟨by rfl, ?_⟩) ?_ ?_;rotate_left
                   ·intro w';go_simp
                    first | (with_reducible rfl) | (rw [if_neg (by exact sn c53)]) | (rw [if_neg (by exact sn c55)])
                   rotate_left
                   ·simp only [Act.put, z0,z1,z2,i64_w,i32_w];rfl
                   refine pure_ (i := 2) (N := some 100) (v := ?_) (a' := ?_) #[Y,O,Y,O,O,O,O,O,O] rfl rfl (any_of HT_.out kr) (fun _ _ _ h => h) (Or.inl ⟨by rfl, ?_⟩) ?_ ?_;rotate_left
                   ·intro w';go_simp
                    first | (with_reducible rfl) | (rw [if_neg (by exact sn c53)]) | (rw [if_neg (by exact sn c55)])
                   rotate_left
                   ·simp only [Act.put, z0,z1,z2,i64_w,i32_w];rfl
                   refine pure_ (i := 3) (N := some 101) (v := ?_) (a' := ?_) #[Y,O,Y,Y,O,O,O,O,O] rfl rfl (any_of HT_.out kr) (fun _ _ _ h => h) (Or.inl ⟨by rfl, ?_⟩) ?_ ?_;rotate_left
                   ·intro w';go_simp
                    first | (with_reducible rfl) | (rw [if_neg (by exact sn c53)]) | (rw [if_neg (by exact sn c55)])
                   rotate_left
                   ·simp only [Act.put, z0,z1,z2,i64_w,i32_w];rfl
                   refine pure_ (i := 4) (N := some 102) (v := ?_) (a' := ?_) #[Y,O,Y,Y,Y,O,O,O,O] rfl rfl (any_of HT_.out kr) (fun _ _ _ h => h) (Or.inl ⟨by rfl, ?_⟩) ?_ ?_;rotate_left
                   ·intro w';go_simp
                    first | (with_reducible rfl) | (rw [if_neg (by exact sn c53)]) | (rw [if_neg (by exact sn c55)])
                   rotate_left
                   ·simp only [Act.put, z0,z1,z2,i64_w,i32_w];rfl
                   refine take_ (i := 1) (N := some 99) (v := ?_) (a' := ?_) (fl 5 4) rfl rfl (take_ofW HT_.out HW_.out kr) (fun _ _ _ h => h) (Or.inl ⟨by rfl, ?_⟩) hHeld ?_ ?_;rotate_left
                   ·rintro w' ⟨s0, s1, s2, s3, s4, s5, s6, s7, s8⟩;go_simp
                    first | (with_reducible rfl) | (rw [if_neg (by exact sn c53)]) | (rw [if_neg (by exact sn c55)])
                   rotate_left
                   ·simp only [Act.put, z0,z1,z2,i64_w,i32_w];rfl
                   refine take_ (i := 5) (N := some 103) (v := ?_) (a' := ?_) (fl 6 3) rfl rfl (take_ofW HT_.out HW_.out kr) (fun _ _ _ h => h) (Or.inl ⟨by rfl, ?_⟩) hHeld ?_ ?_;rotate_left
                   ·rintro w' ⟨s0, s1, s2, s3, s4, s5, s6, s7, s8⟩;go_simp
                    first | (with_reducible rfl) | (rw [if_neg (by exact sn c53)]) | (rw [if_neg (by exact sn c55)])
                   rotate_left
                   ·simp only [Act.put, z0,z1,z2,i64_w,i32_w];rfl
                   refine pure_ (i := 6) (N := some 104) (v := ?_) (a' := ?_) (fl 7 2) rfl rfl (any_of HT_.out kr) (fun _ _ _ h => h) (Or.inl ⟨by rfl, ?_⟩) ?_ ?_;rotate_left
                   ·intro w';go_simp
                    first | (with_reducible rfl) | (rw [if_neg (by exact sn c53)]) | (rw [if_neg (by exact sn c55)])
                   rotate_left
                   ·simp only [Act.put, z0,z1,z2,i64_w,i32_w];rfl
                   refine pure_ (i := 7) (N := some 105) (v := ?_) (a' := ?_) (fl 8 1) rfl rfl (any_of HT_.out kr) (fun _ _ _ h => h) (Or.inl ⟨by rfl, ?_⟩) ?_ ?_;rotate_left
                   ·intro w';go_simp
                    first | (with_reducible rfl) | (rw [if_neg (by exact sn c53)]) | (rw [if_neg (by exact sn c55)])
                   rotate_left
                   ·simp only [Act.put, z0,z1,z2,i64_w,i32_w];rfl
                   refine last_ (i := 8) (N := none) (fl 9 0) rfl rfl (one_of HT_.out kr) (by decide) (fun K hK => ?_);have hs60 : w59.cell? ⟨gb487, 7, none⟩ = some (.string (xb7_3 ++ (⟨#[59]⟩ : ByteArray))) := bc BK487.out 7 rfl;have hfs60 := blk_frozen BK487.out 7;have hns60_0 := NB477_487.out;have hms60_0 := NB487_477.out;refine skip_ (w1 := ?_) (by rfl) rfl ?_ ?_;rotate_left
                   ·go_simp;rfl
                   refine hK.out _ _ ?_;clear hK K;refine done_ (done_of HT_.out kr) ?_
                   try go_wp2
                   go_roundg k3
                   case measure => have := HK1.out; have := HJ31.out; have := HK3.out; omega
                   case rel => exact ⟨(wrap64 (x11_3 + 1)), ((xb7_3 ++ (⟨#[59]⟩ : ByteArray)) ++ (rdOf ByteArray.empty x4_1 x11_3)), sw, H', ⟨by have := HK1.out; have := HJ31.out; have := HK3.out; omega⟩, ⟨by (with_reducible repeat (first | apply RA | apply RN | apply RD)); exact RM (RF (p := ⟨gb487, 7, none⟩) (Kd.R_types HO_4.out BK487.out (by decide)) (fun _ hk => hk.2) (.string ((xb7_3 ++ (⟨#[59]⟩ : ByteArray)) ++ (rdOf ByteArray.empty x4_1 x11_3)))) (fun _ hk => trivial)⟩, ⟨by (with_reducible repeat (first | refine YN ?_ _ | refine YD ?_ | refine YA ?_ _)); refine blk_far ?_ NB477_487.out _; (with_reducible repeat (first | refine YN ?_ _ | refine YD ?_ | refine YA ?_ _)); exact BK477.out⟩, ⟨by (with_reducible repeat (first | refine YN ?_ _ | refine YD ?_ | refine YA ?_ _)); refine blk_put (cs := #[.int .i64 t485, .string (⟨#[]⟩ : ByteArray), .int .i64 0, .int .i64 0, .int .i64 0, .int .i64 0, .int .i64 0, .string (xb7_3 ++ (⟨#[59]⟩ : ByteArray))]) ?_ 7 _ rfl; (with_reducible repeat (first | refine YN ?_ _ | refine YD ?_ | refine YA ?_ _)); exact BK487.out⟩, ⟨by repeat (first | (with_reducible first | exact HB.out | apply XA | apply XN | apply XD | refine XS ?_ GE477.out | refine XS ?_ GE487.out) | exact HB.out)⟩⟩
                  ·rw [if_neg c55] at H;exact absurd H (by simp)
                 ·rw [if_neg c54] at H;exact absurd H (by simp)
                ·rw [if_neg c53] at H;exact absurd H (by simp)
               ·rw [if_neg c52] at H;have c52b0 : decide ((t486.size : Int) < x11_3) = false := dN c52;clear c52
                by_cases c61 : 0 ≤ x11_3
                ·rw [if_pos c61] at H;have c61b0 : decide (0 ≤ x11_3) = true := dY c61;clear c61
                 by_cases c62 : xb7_3.size + (rdOf ByteArray.empty x4_1 x11_3).size ≤ 9223372036854775807
                 ·rw [if_pos c62] at H;have c62b0 := eq_true c62;have c62b1 : decide (xb7_3.size + (rdOf ByteArray.empty x4_1 x11_3).size ≤ 9223372036854775807) = true := dY c62
                  try have c62b2 : (9223372036854775807 < xb7_3.size + (rdOf ByteArray.empty x4_1 x11_3).size) = False := eq_false (Nat.not_lt.2 c62)
                  have H' := As H;clear H
                  try go_wp2
                  replace HO_4 := As (RD HO_4.out);replace BK477 := As (YD BK477.out);replace BK487 := As (YD BK487.out);replace HB := As (XD HB.out);have p489 : 0 ≤ (x11_3 : Int) := dT hy;have q489 : x11_3 < (x4_1.length : Int) := dT hy;obtain ⟨ad489, e489, hx489_0⟩ := Kd.at_string (RR HO_4.out).2.2 x11_3 p489 q489
                  obtain rfl : ad484 = ad489 := (by injection e489)
                  replace p489 := eq_true p489;replace q489 := eq_true q489;refine start_ (n := 9) (S := fun w' => w'.cell? ⟨gb487, 0, none⟩ = some (.int .i64 t485) ∧ w'.cell? ⟨gb487, 1, none⟩ = some (.string (⟨#[]⟩ : ByteArray)) ∧ w'.cell? ⟨gb487, 2, none⟩ = some (.int .i64 0) ∧ w'.cell? ⟨gb487, 3, none⟩ = some (.int .i64 0) ∧ w'.cell? ⟨gb487, 4, none⟩ = some (.int .i64 0) ∧ w'.cell? ⟨gb487, 5, none⟩ = some (.int .i64 0) ∧ w'.cell? ⟨gb487, 6, none⟩ = some (.int .i64 0) ∧ w'.cell? ⟨gb487, 7, none⟩ = some (.string xb7_3) ∧ w'.cell? (ad484.add (x11_3).toNat) = some (.string (rdOf ByteArray.empty x4_1 x11_3))) (ds := [8]) (fl 0 9) kr rfl rfl ⟨bc BK487.out 0 rfl, bc BK487.out 1 rfl, bc BK487.out 2 rfl, bc BK487.out 3 rfl, bc BK487.out 4 rfl, bc BK487.out 5 rfl, bc BK487.out 6 rfl, bc BK487.out 7 rfl, hx489_0⟩ (fun hHeld => ?_); refine with_tabW qP.tab26 qP.bits26 (fun HT_ HW_ => ?_);generalize wr.drew = w63 at HO_4 BK477 BK487 HB hx489_0 hHeld ⊢;refine pure_ (i := 0) (N := some 98) (v := ?_) (a' := ?_) (fl 1 8) rfl rfl (any_of HT_.out kr) (fun _ _ _ h => h) (Or.inl ⟨by rfl, ?_⟩) ?_ ?_;rotate_left
                  ·intro w';go_simp
                   first | (with_reducible rfl) | (rw [if_neg (by exact sn c53)]) | (rw [if_neg (by exact sn c55)]) | (rw [if_neg (by exact sn c62)])
                  rotate_left
                  ·simp only [Act.put, z0,z1,z2,i64_w,i32_w];rfl
                  refine pure_ (i := 2) (N := some 100) (v := ?_) (a' := ?_) #[Y,O,Y,O,O,O,O,O,O] rfl rfl (any_of HT_.out kr) (fun _ _ _ h => h) (Or.inl ⟨by rfl, ?_⟩) ?_ ?_;rotate_left
                  ·intro w';go_simp
                   first | (with_reducible rfl) | (rw [if_neg (by exact sn c53)]) | (rw [if_neg (by exact sn c55)]) | (rw [if_neg (by exact sn c62)])
                  rotate_left
                  ·simp only [Act.put, z0,z1,z2,i64_w,i32_w];rfl
                  refine pure_ (i := 3) (N := some 101) (v := ?_) (a' := ?_) #[Y,O,Y,Y,O,O,O,O,O] rfl rfl (any_of HT_.out kr) (fun _ _ _ h => h) (Or.inl ⟨by rfl, ?_⟩) ?_ ?_;rotate_left
                  ·intro w';go_simp
                   first | (with_reducible rfl) | (rw [if_neg (by exact sn c53)]) | (rw [if_neg (by exact sn c55)]) | (rw [if_neg (by exact sn c62)])
                  rotate_left
                  ·simp only [Act.put, z0,z1,z2,i64_w,i32_w];rfl
                  refine pure_ (i := 4) (N := some 102) (v := ?_) (a' := ?_) #[Y,O,Y,Y,Y,O,O,O,O] rfl rfl (any_of HT_.out kr) (fun _ _ _ h => h) (Or.inl ⟨by rfl, ?_⟩) ?_ ?_;rotate_left
                  ·intro w';go_simp
                   first | (with_reducible rfl) | (rw [if_neg (by exact sn c53)]) | (rw [if_neg (by exact sn c55)]) | (rw [if_neg (by exact sn c62)])
                  rotate_left
                  ·simp only [Act.put, z0,z1,z2,i64_w,i32_w];rfl
                  refine take_ (i := 1) (N := some 99) (v := ?_) (a' := ?_) (fl 5 4) rfl rfl (take_ofW HT_.out HW_.out kr) (fun _ _ _ h => h) (Or.inl ⟨by rfl, ?_⟩) hHeld ?_ ?_;rotate_left
                  ·rintro w' ⟨s0, s1, s2, s3, s4, s5, s6, s7, s8⟩;go_simp
                   first | (with_reducible rfl) | (rw [if_neg (by exact sn c53)]) | (rw [if_neg (by exact sn c55)]) | (rw [if_neg (by exact sn c62)])
                  rotate_left
                  ·simp only [Act.put, z0,z1,z2,i64_w,i32_w];rfl
                  refine take_ (i := 5) (N := some 103) (v := ?_) (a' := ?_) (fl 6 3) rfl rfl (take_ofW HT_.out HW_.out kr) (fun _ _ _ h => h) (Or.inl ⟨by rfl, ?_⟩) hHeld ?_ ?_;rotate_left
                  ·rintro w' ⟨s0, s1, s2, s3, s4, s5, s6, s7, s8⟩;go_simp
                   first | (with_reducible rfl) | (rw [if_neg (by exact sn c53)]) | (rw [if_neg (by exact sn c55)]) | (rw [if_neg (by exact sn c62)])
                  rotate_left
                  ·simp only [Act.put, z0,z1,z2,i64_w,i32_w];rfl
                  refine pure_ (i := 6) (N := some 104) (v := ?_) (a' := ?_) (fl 7 2) rfl rfl (any_of HT_.out kr) (fun _ _ _ h => h) (Or.inl ⟨by rfl, ?_⟩) ?_ ?_;rotate_left
                  ·intro w';go_simp
                   first | (with_reducible rfl) | (rw [if_neg (by exact sn c53)]) | (rw [if_neg (by exact sn c55)]) | (rw [if_neg (by exact sn c62)])
                  rotate_left
                  ·simp only [Act.put, z0,z1,z2,i64_w,i32_w];rfl
                  refine pure_ (i := 7) (N := some 105) (v := ?_) (a' := ?_) (fl 8 1) rfl rfl (any_of HT_.out kr) (fun _ _ _ h => h) (Or.inl ⟨by rfl, ?_⟩) ?_ ?_;rotate_left
                  ·intro w';go_simp
                   first | (with_reducible rfl) | (rw [if_neg (by exact sn c53)]) | (rw [if_neg (by exact sn c55)]) | (rw [if_neg (by exact sn c62)])
                  rotate_left
                  ·simp only [Act.put, z0,z1,z2,i64_w,i32_w];rfl
                  refine last_ (i := 8) (N := none) (fl 9 0) rfl rfl (one_of HT_.out kr) (by decide) (fun K hK => ?_);have hs64 : w63.cell? ⟨gb487, 7, none⟩ = some (.string xb7_3) := bc BK487.out 7 rfl;have hfs64 := blk_frozen BK487.out 7;have hns64_0 := NB477_487.out;have hms64_0 := NB487_477.out;refine skip_ (w1 := ?_) (by rfl) rfl ?_ ?_;rotate_left
                  ·go_simp;rfl
                  refine hK.out _ _ ?_;clear hK K;refine done_ (done_of HT_.out kr) ?_
                  try go_wp2
                  go_roundg k3
                  case measure => have := HK1.out; have := HJ31.out; have := HK3.out; omega
                  case rel => exact ⟨(wrap64 (x11_3 + 1)), (xb7_3 ++ (rdOf ByteArray.empty x4_1 x11_3)), sw, H', ⟨by have := HK1.out; have := HJ31.out; have := HK3.out; omega⟩, ⟨by (with_reducible repeat (first | apply RA | apply RN | apply RD)); exact RM (RF (p := ⟨gb487, 7, none⟩) (Kd.R_types HO_4.out BK487.out (by decide)) (fun _ hk => hk.2) (.string (xb7_3 ++ (rdOf ByteArray.empty x4_1 x11_3)))) (fun _ hk => trivial)⟩, ⟨by (with_reducible repeat (first | refine YN ?_ _ | refine YD ?_ | refine YA ?_ _)); refine blk_far ?_ NB477_487.out _; (with_reducible repeat (first | refine YN ?_ _ | refine YD ?_ | refine YA ?_ _)); exact BK477.out⟩, ⟨by (with_reducible repeat (first | refine YN ?_ _ | refine YD ?_ | refine YA ?_ _)); refine blk_put (cs := #[.int .i64 t485, .string (⟨#[]⟩ : ByteArray), .int .i64 0, .int .i64 0, .int .i64 0, .int .i64 0, .int .i64 0, .string xb7_3]) ?_ 7 _ rfl; (with_reducible repeat (first | refine YN ?_ _ | refine YD ?_ | refine YA ?_ _)); exact BK487.out⟩, ⟨by repeat (first | (with_reducible first | exact HB.out | apply XA | apply XN | apply XD | refine XS ?_ GE477.out | refine XS ?_ GE487.out) | exact HB.out)⟩⟩
                 ·rw [if_neg c62] at H;exact absurd H (by simp)
                ·rw [if_neg c61] at H;exact absurd H (by simp)
              ·rw [if_neg c51] at H;have c51b0 : decide (x11_3 < (x4_1.length : Int)) = false := dN c51;clear c51;have H' := As H;clear H
               go_wp2
               go_loopg [12] k3 (fun kq v12 w' => ∃ (x12_4 : Int) (xa0_4 : Int) (xa1_4 : ByteArray) (xa2_4 : Int) (xa3_4 : Int) (xa4_4 : Int) (xa5_4 : Int) (xa6_4 : Int) (xa7_4 : ByteArray), v12 = .int .i64 x12_4 ∧ Aside0 (qP.l2 kq x4_1 t485 t486 (t486.size : Int) x12_4 t485 (⟨#[]⟩ : ByteArray) 0 0 0 0 0 xb7_3 = some (r1, r2, r3, r4, r5, r6, r7, r8, r9)) ∧ Aside0 (kq ≤ k3) ∧ Aside0 (Kd.R Kd.string 9 w' w.heap.size (fun _ => True) (.slice (some ad484) x4_1.length co33) x4_1) ∧ Aside0 (w'.heap[gb477]? = some (.cells #[.int .i64 xa0_4, .string xa1_4, .int .i64 xa2_4, .int .i64 xa3_4, .int .i64 xa4_4, .int .i64 xa5_4, .int .i64 xa6_4, .string xa7_4] 24 (0, 0))) ∧ Aside0 (w'.heap[gb487]? = some (.cells #[.int .i64 t485, .string (⟨#[]⟩ : ByteArray), .int .i64 0, .int .i64 0, .int .i64 0, .int .i64 0, .int .i64 0, .string xb7_3] 24 (0, 0))) ∧ Aside0 (Below w.heap.size w w'))
               case atStart => exact ⟨(0), (0), ((⟨#[]⟩ : ByteArray)), (0), (0), (0), (0), (0), ((⟨#[]⟩ : ByteArray)), sw, H', ⟨Nat.le_refl _⟩, ⟨by (with_reducible repeat (first | apply RA | apply RN | apply RD)); exact HO_4.out⟩, ⟨by (with_reducible repeat (first | refine YN ?_ _ | refine YD ?_ | refine YA ?_ _)); exact BK477.out⟩, ⟨by (with_reducible repeat (first | refine YN ?_ _ | refine YD ?_ | refine YA ?_ _)); exact BK487.out⟩, ⟨by repeat (first | (with_reducible first | exact HB.out | apply XA | apply XN | apply XD | refine XS ?_ GE477.out | refine XS ?_ GE487.out) | exact HB.out)⟩⟩
               case round =>
                clear H'
                try clear c1
                try clear p1
                try clear q1
                try clear hx1
                try clear c2
                try clear c2b0
                try clear c2b1
                try clear p2
                try clear c3
                try clear p3
                try clear q3
                try clear hx3
                try clear c4
                try clear p4
                try clear q4
                try clear hx4
                try clear qi4
                try clear c5
                try clear c6
                try clear c6b0
                try clear p6
                try clear c7
                try clear c7b0
                try clear c7b1
                try clear c8
                try clear c8b0
                try clear c8b1
                try clear c9
                try clear c9b0
                try clear c9b1
                try clear c10
                try clear c10b0
                try clear c11
                try clear c13
                try clear c13b0
                try clear c14
                try clear c14b0
                try clear p15
                try clear q15
                try clear hx15
                try clear c16
                try clear c16b0
                try clear c16b1
                try clear c17
                try clear c17b0
                try clear c17b1
                try clear c18
                try clear c18b0
                try clear c18b1
                try clear c19
                try clear c19b0
                try clear c20
                try clear c22
                try clear c22b0
                try clear c22b1
                try clear c24
                try clear c24b0
                try clear c24b1
                try clear c28
                try clear c28b0
                try clear c36
                try clear c36b0
                try clear c37
                try clear c37b0
                try clear p38
                try clear q38
                try clear hx38
                try clear c39
                try clear c39b0
                try clear c39b1
                try clear c40
                try clear c43
                try clear c43b0
                try clear c44
                try clear c44b0
                try clear p45
                try clear q45
                try clear hx45
                try clear c48
                try clear p48
                try clear q48
                try clear hx48
                try clear qi48
                try clear c50
                try clear c50b0
                try clear c50b1
                try clear c51
                try clear c51b0
                try clear c52
                try clear c52b0
                try clear c53
                try clear c53b0
                try clear c53b1
                try clear c53b2
                try clear c54
                try clear c54b0
                try clear c55
                try clear c55b0
                try clear c55b1
                try clear c55b2
                try clear c56
                try clear c61
                try clear c61b0
                try clear c62
                try clear c62b0
                try clear c62b1
                try clear c62b2
                try clear p64
                try clear hcz31_0 hcz31_1 hcz31_2 hcz31_3 hcz31_4 hcz31_5 hcz31_6 hcz31_7
                try clear hcz31_0 hcz31_1 hcz31_2 hcz31_3 hcz31_4 hcz31_5 hcz31_6 hcz31_7
                try clear hcz41_0 hcz41_1 hcz41_2 hcz41_3 hcz41_4 hcz41_5 hcz41_6 hcz41_7
                try clear hcz49_0 hcz49_1 hcz49_2 hcz49_3 hcz49_4 hcz49_5 hcz49_6 hcz49_7
                try clear hcz4_0 hcz4_1 hcz4_2 hcz4_3 hcz4_4 hcz4_5 hcz4_6 hcz4_7
                try clear hcz57_0 hcz57_1 hcz57_2 hcz57_3 hcz57_4 hcz57_5 hcz57_6 hcz57_7
                try clear hfz31_0 hfz31_1 hfz31_2 hfz31_3 hfz31_4 hfz31_5 hfz31_6 hfz31_7
                try clear hfz31_0 hfz31_1 hfz31_2 hfz31_3 hfz31_4 hfz31_5 hfz31_6 hfz31_7
                try clear hfz41_0 hfz41_1 hfz41_2 hfz41_3 hfz41_4 hfz41_5 hfz41_6 hfz41_7
                try clear hfz49_0 hfz49_1 hfz49_2 hfz49_3 hfz49_4 hfz49_5 hfz49_6 hfz49_7
                try clear hfz4_0 hfz4_1 hfz4_2 hfz4_3 hfz4_4 hfz4_5 hfz4_6 hfz4_7
                try clear hfz57_0 hfz57_1 hfz57_2 hfz57_3 hfz57_4 hfz57_5 hfz57_6 hfz57_7
                try clear hx484_0
                try clear hx488_0
                try clear hx489_0
                try clear p1
                try clear p15
                try clear p2
                try clear p3
                try clear p38
                try clear p4
                try clear p45
                try clear p48
                try clear p484
                try clear p488
                try clear p489
                try clear p6
                try clear q1
                try clear q15
                try clear q3
                try clear q38
                try clear q4
                try clear q45
                try clear q48
                try clear q484
                try clear q488
                try clear q489
                obtain ⟨x12_4, xa0_4, xa1_4, xa2_4, xa3_4, xa4_4, xa5_4, xa6_4, xa7_4, rfl, HA, HK4, HO_4, BK477, BK487, HB⟩ := hrel
                cases gk with
                | zero => exact absurd HA.out (by simp [qP.l2])
                | succ k4 =>
                 have H := HA.out;clear HA;simp only [qP.l2] at H
                 by_cases c65 : x12_4 < (xb7_3.size : Int)
                 ·rw [if_pos c65] at H;have c65b0 : decide (x12_4 < (xb7_3.size : Int)) = true := dY c65;clear c65
                  by_cases c66 : 0 ≤ x12_4
                  ·rw [if_pos c66] at H;have c66b0 : decide (0 ≤ x12_4) = true := dY c66;clear c66
                   by_cases c68 : (bt xb7_3 x12_4) = 10
                   ·rw [if_pos c68] at H;have c68b0 : ((bt xb7_3 x12_4) == 10) = true := beq_iff_eq.mpr c68;have c68b1 : ((bt xb7_3 x12_4) != 10) = false := bne_eq_false_iff_eq.mpr c68;clear c68;simp only [Option.some.injEq, Prod.mk.injEq] at H;obtain ⟨rfl, rfl, rfl, rfl, rfl, rfl, rfl, rfl, rfl⟩ := H;have hnb69 := NB487_477.out;have hnc69 := NB477_487.out;obtain ⟨hcz70_0, hcz70_1, hcz70_2, hcz70_3, hcz70_4, hcz70_5, hcz70_6, hcz70_7, hfz70_0, hfz70_1, hfz70_2, hfz70_3, hfz70_4, hfz70_5, hfz70_6, hfz70_7⟩ := cz8 BK487.out;have p67 : 0 ≤ (x12_4 : Int) := dT hy;have q67 : x12_4 < (xb7_3.size : Int) := dT hy;have hx67 := bt_at xb7_3 x12_4;replace p67 := eq_true p67;replace q67 := eq_true q67;obtain ⟨hcz71_0, hcz71_1, hcz71_2, hcz71_3, hcz71_4, hcz71_5, hcz71_6, hcz71_7, hfz71_0, hfz71_1, hfz71_2, hfz71_3, hfz71_4, hfz71_5, hfz71_6, hfz71_7⟩ := cz8 BK477.out
                    go_wp2
                    refine bodyPost_ret (results_ct rfl _ _ gb477 24 zc17 (0, 0) _ rfl (by (with_reducible repeat (first | refine YN ?_ _ | refine YD ?_ | refine YA ?_ _)); refine blk_put (cs := #[.int .i64 0, .string (⟨#[]⟩ : ByteArray), .int .i64 0, .int .i64 0, .int .i64 0, .int .i64 0, .int .i64 0, .string xa7_4]) ?_ 7 _ rfl; (with_reducible repeat (first | refine YN ?_ _ | refine YD ?_ | refine YA ?_ _)); refine blk_put (cs := #[.int .i64 0, .string (⟨#[]⟩ : ByteArray), .int .i64 0, .int .i64 0, .int .i64 0, .int .i64 0, .int .i64 xa6_4, .string xa7_4]) ?_ 6 _ rfl; (with_reducible repeat (first | refine YN ?_ _ | refine YD ?_ | refine YA ?_ _)); refine blk_put (cs := #[.int .i64 0, .string (⟨#[]⟩ : ByteArray), .int .i64 0, .int .i64 0, .int .i64 0, .int .i64 xa5_4, .int .i64 xa6_4, .string xa7_4]) ?_ 5 _ rfl; (with_reducible repeat (first | refine YN ?_ _ | refine YD ?_ | refine YA ?_ _)); refine blk_put (cs := #[.int .i64 0, .string (⟨#[]⟩ : ByteArray), .int .i64 0, .int .i64 0, .int .i64 xa4_4, .int .i64 xa5_4, .int .i64 xa6_4, .string xa7_4]) ?_ 4 _ rfl; (with_reducible repeat (first | refine YN ?_ _ | refine YD ?_ | refine YA ?_ _)); refine blk_put (cs := #[.int .i64 0, .string (⟨#[]⟩ : ByteArray), .int .i64 0, .int .i64 xa3_4, .int .i64 xa4_4, .int .i64 xa5_4, .int .i64 xa6_4, .string xa7_4]) ?_ 3 _ rfl; (with_reducible repeat (first | refine YN ?_ _ | refine YD ?_ | refine YA ?_ _)); refine blk_put (cs := #[.int .i64 0, .string (⟨#[]⟩ : ByteArray), .int .i64 xa2_4, .int .i64 xa3_4, .int .i64 xa4_4, .int .i64 xa5_4, .int .i64 xa6_4, .string xa7_4]) ?_ 2 _ rfl; apply blk_to; (iterate 2 ((with_reducible repeat (first | refine YN ?_ _ | refine YD ?_ | refine YA ?_ _)); apply blk_set)); (with_reducible repeat (first | refine YN ?_ _ | refine YD ?_ | refine YA ?_ _)); exact BK477.out; simp only [z0,z1,z2]) Tryz.underlying24 rfl kr) rfl ?_;exact ⟨by first | rfl | (simp [errW_none, errW_some] <;> rfl) | (simp only [← hji42]; first | rfl | (simp [errW_none, errW_some] <;> rfl)) | (simp [*, errW_none, errW_some] <;> rfl), by repeat (first | (with_reducible first | exact HB.out | apply XA | apply XN | apply XD | refine XS ?_ GE477.out | refine XS ?_ GE487.out) | exact HB.out)⟩
                   ·rw [if_neg c68] at H;have c68b0 : ((bt xb7_3 x12_4) == 10) = false := beq_eq_false_iff_ne.mpr c68;have c68b1 : ((bt xb7_3 x12_4) != 10) = true := bne_iff_ne.mpr c68;have H' := As H;clear H;have hnb72 := NB487_477.out;have hnc72 := NB477_487.out;obtain ⟨hcz73_0, hcz73_1, hcz73_2, hcz73_3, hcz73_4, hcz73_5, hcz73_6, hcz73_7, hfz73_0, hfz73_1, hfz73_2, hfz73_3, hfz73_4, hfz73_5, hfz73_6, hfz73_7⟩ := cz8 BK487.out;have p67 : 0 ≤ (x12_4 : Int) := dT hy;have q67 : x12_4 < (xb7_3.size : Int) := dT hy;have hx67 := bt_at xb7_3 x12_4;replace p67 := eq_true p67;replace q67 := eq_true q67
                    go_wp2
                    go_roundg k4
                    case measure => have := HK1.out; have := HJ31.out; have := HK3.out; have := HK4.out; omega
                    case rel => exact ⟨(wrap64 (x12_4 + 1)), (xa0_4), (xa1_4), (xa2_4), (xa3_4), (xa4_4), (xa5_4), (xa6_4), (xa7_4), sw, H', ⟨by have := HK1.out; have := HJ31.out; have := HK3.out; have := HK4.out; omega⟩, ⟨by (with_reducible repeat (first | apply RA | apply RN | apply RD)); exact HO_4.out⟩, ⟨by (with_reducible repeat (first | refine YN ?_ _ | refine YD ?_ | refine YA ?_ _)); exact BK477.out⟩, ⟨by (with_reducible repeat (first | refine YN ?_ _ | refine YD ?_ | refine YA ?_ _)); exact BK487.out⟩, ⟨by repeat (first | (with_reducible first | exact HB.out | apply XA | apply XN | apply XD | refine XS ?_ GE477.out | refine XS ?_ GE487.out) | exact HB.out)⟩⟩
                  ·rw [if_neg c66] at H;exact absurd H (by simp)
                 ·rw [if_neg c65] at H;have c65b0 : decide (x12_4 < (xb7_3.size : Int)) = false := dN c65;clear c65;have H' := As H;clear H;have hnb74 := NB487_477.out;have hnc74 := NB477_487.out;obtain ⟨hcz75_0, hcz75_1, hcz75_2, hcz75_3, hcz75_4, hcz75_5, hcz75_6, hcz75_7, hfz75_0, hfz75_1, hfz75_2, hfz75_3, hfz75_4, hfz75_5, hfz75_6, hfz75_7⟩ := cz8 BK487.out
                  go_wp2
                  go_meet
                  case rel => exact ⟨_, (xa0_4), (xa1_4), (xa2_4), (xa3_4), (xa4_4), (xa5_4), (xa6_4), (xa7_4), (xb7_3), H', ⟨by have := HK1.out; have := HJ31.out; have := HK3.out; have := HK4.out; first | omega | exact Nat.le_refl _⟩, ⟨by (with_reducible repeat (first | apply RA | apply RN | apply RD)); exact HO_4.out⟩, ⟨by (with_reducible repeat (first | refine YN ?_ _ | refine YD ?_ | refine YA ?_ _)); exact BK477.out⟩, ⟨by (with_reducible repeat (first | refine YN ?_ _ | refine YD ?_ | refine YA ?_ _)); exact BK487.out⟩, ⟨by repeat (first | (with_reducible first | exact HB.out | apply XA | apply XN | apply XD | refine XS ?_ GE477.out | refine XS ?_ GE487.out) | exact HB.out)⟩⟩
           ·rw [if_neg c50] at H;have c50b0 : ((bt t486 (ji42)) == 116) = false := beq_eq_false_iff_ne.mpr c50;have c50b1 : ((bt t486 (ji42)) != 116) = true := bne_iff_ne.mpr c50
            (first | rw [c50b0] | (simp only [i64_w, i32_w]; rw [c50b0]) | skip)
            have H' := As H;clear H
            go_wp2
            go_meet
            case rel => exact ⟨_, (0), ((⟨#[]⟩ : ByteArray)), (0), (0), (0), (0), (0), ((⟨#[]⟩ : ByteArray)), ((⟨#[]⟩ : ByteArray)), H', ⟨by have := HK1.out; have := HJ31.out; first | omega | exact Nat.le_refl _⟩, ⟨by (with_reducible repeat (first | apply RA | apply RN | apply RD)); exact RM (RF (p := ⟨gb487, 7, none⟩) (RF (p := ⟨gb487, 6, none⟩) (RF (p := ⟨gb487, 5, none⟩) (RF (p := ⟨gb487, 4, none⟩) (RF (p := ⟨gb487, 3, none⟩) (RF (p := ⟨gb487, 2, none⟩) (RF (p := ⟨gb487, 1, none⟩) (RF (p := ⟨gb487, 0, none⟩) (Kd.R_types HO_4.out BK487.out (by decide)) (fun _ hk => hk.2) (.int .i64 t485)) (fun _ hk => hk.2) (.string (⟨#[]⟩ : ByteArray))) (fun _ hk => hk.2) (.int .i64 0)) (fun _ hk => hk.2) (.int .i64 0)) (fun _ hk => hk.2) (.int .i64 0)) (fun _ hk => hk.2) (.int .i64 0)) (fun _ hk => hk.2) (.int .i64 0)) (fun _ hk => hk.2) (.string (⟨#[]⟩ : ByteArray))) (fun _ hk => trivial)⟩, ⟨by (iterate 8 ((with_reducible repeat (first | refine YN ?_ _ | refine YD ?_ | refine YA ?_ _)); refine blk_far ?_ NB477_487.out _)); (with_reducible repeat (first | refine YN ?_ _ | refine YD ?_ | refine YA ?_ _)); exact BK477.out⟩, ⟨by (with_reducible repeat (first | refine YN ?_ _ | refine YD ?_ | refine YA ?_ _)); refine blk_put (cs := #[.int .i64 t485, .string (⟨#[]⟩ : ByteArray), .int .i64 0, .int .i64 0, .int .i64 0, .int .i64 0, .int .i64 0, .string (⟨#[]⟩ : ByteArray)]) ?_ 7 _ rfl; (with_reducible repeat (first | refine YN ?_ _ | refine YD ?_ | refine YA ?_ _)); refine blk_put (cs := #[.int .i64 t485, .string (⟨#[]⟩ : ByteArray), .int .i64 0, .int .i64 0, .int .i64 0, .int .i64 0, .int .i64 0, .string (⟨#[]⟩ : ByteArray)]) ?_ 6 _ rfl; (with_reducible repeat (first | refine YN ?_ _ | refine YD ?_ | refine YA ?_ _)); refine blk_put (cs := #[.int .i64 t485, .string (⟨#[]⟩ : ByteArray), .int .i64 0, .int .i64 0, .int .i64 0, .int .i64 0, .int .i64 0, .string (⟨#[]⟩ : ByteArray)]) ?_ 5 _ rfl; (with_reducible repeat (first | refine YN ?_ _ | refine YD ?_ | refine YA ?_ _)); refine blk_put (cs := #[.int .i64 t485, .string (⟨#[]⟩ : ByteArray), .int .i64 0, .int .i64 0, .int .i64 0, .int .i64 0, .int .i64 0, .string (⟨#[]⟩ : ByteArray)]) ?_ 4 _ rfl; (with_reducible repeat (first | refine YN ?_ _ | refine YD ?_ | refine YA ?_ _)); refine blk_put (cs := #[.int .i64 t485, .string (⟨#[]⟩ : ByteArray), .int .i64 0, .int .i64 0, .int .i64 0, .int .i64 0, .int .i64 0, .string (⟨#[]⟩ : ByteArray)]) ?_ 3 _ rfl; (with_reducible repeat (first | refine YN ?_ _ | refine YD ?_ | refine YA ?_ _)); refine blk_put (cs := #[.int .i64 t485, .string (⟨#[]⟩ : ByteArray), .int .i64 0, .int .i64 0, .int .i64 0, .int .i64 0, .int .i64 0, .string (⟨#[]⟩ : ByteArray)]) ?_ 2 _ rfl; (with_reducible repeat (first | refine YN ?_ _ | refine YD ?_ | refine YA ?_ _)); refine blk_put (cs := #[.int .i64 t485, .string (⟨#[]⟩ : ByteArray), .int .i64 0, .int .i64 0, .int .i64 0, .int .i64 0, .int .i64 0, .string (⟨#[]⟩ : ByteArray)]) ?_ 1 _ rfl; (with_reducible repeat (first | refine YN ?_ _ | refine YD ?_ | refine YA ?_ _)); refine blk_put (cs := zc17) ?_ 0 _ rfl; (with_reducible repeat (first | refine YN ?_ _ | refine YD ?_ | refine YA ?_ _)); exact BK487.out⟩, ⟨by repeat (first | (with_reducible first | exact HB.out | apply XA | apply XN | apply XD | refine XS ?_ GE477.out | refine XS ?_ GE487.out) | exact HB.out)⟩⟩
          case rest =>
           clear HC46
           try clear c1
           try clear p1
           try clear q1
           try clear hx1
           try clear c2
           try clear c2b0
           try clear c2b1
           try clear p2
           try clear c3
           try clear p3
           try clear q3
           try clear hx3
           try clear c4
           try clear p4
           try clear q4
           try clear hx4
           try clear qi4
           try clear c5
           try clear c6
           try clear c6b0
           try clear p6
           try clear q6
           try clear hx6
           try clear c7
           try clear c7b0
           try clear c7b1
           try clear c8
           try clear c8b0
           try clear c8b1
           try clear c9
           try clear c9b0
           try clear c9b1
           try clear c10
           try clear c10b0
           try clear c11
           try clear c13
           try clear c13b0
           try clear c14
           try clear c14b0
           try clear p15
           try clear q15
           try clear hx15
           try clear c16
           try clear c16b0
           try clear c16b1
           try clear c17
           try clear c17b0
           try clear c17b1
           try clear c18
           try clear c18b0
           try clear c18b1
           try clear c19
           try clear c19b0
           try clear c20
           try clear c22
           try clear c22b0
           try clear c22b1
           try clear c24
           try clear c24b0
           try clear c24b1
           try clear c28
           try clear c28b0
           try clear c36
           try clear c36b0
           try clear c37
           try clear c37b0
           try clear p38
           try clear q38
           try clear hx38
           try clear c39
           try clear c39b0
           try clear c39b1
           try clear c40
           try clear c43
           try clear c43b0
           try clear c44
           try clear c44b0
           try clear p45
           try clear q45
           try clear hx45
           try clear c48
           try clear p48
           try clear q48
           try clear hx48
           try clear qi48
           try clear c50
           try clear c50b0
           try clear c50b1
           try clear c51
           try clear c51b0
           try clear c52
           try clear c52b0
           try clear c53
           try clear c53b0
           try clear c53b1
           try clear c53b2
           try clear c54
           try clear c54b0
           try clear c55
           try clear c55b0
           try clear c55b1
           try clear c55b2
           try clear c56
           try clear c61
           try clear c61b0
           try clear c62
           try clear c62b0
           try clear c62b1
           try clear c62b2
           try clear p64
           try clear c65
           try clear c65b0
           try clear c66
           try clear c66b0
           try clear p67
           try clear q67
           try clear hx67
           try clear c68
           try clear c68b0
           try clear c68b1
           try clear c69
           try clear c72
           try clear c74
           try clear hcz31_0 hcz31_1 hcz31_2 hcz31_3 hcz31_4 hcz31_5 hcz31_6 hcz31_7
           try clear hcz31_0 hcz31_1 hcz31_2 hcz31_3 hcz31_4 hcz31_5 hcz31_6 hcz31_7
           try clear hcz41_0 hcz41_1 hcz41_2 hcz41_3 hcz41_4 hcz41_5 hcz41_6 hcz41_7
           try clear hcz49_0 hcz49_1 hcz49_2 hcz49_3 hcz49_4 hcz49_5 hcz49_6 hcz49_7
           try clear hcz4_0 hcz4_1 hcz4_2 hcz4_3 hcz4_4 hcz4_5 hcz4_6 hcz4_7
           try clear hcz57_0 hcz57_1 hcz57_2 hcz57_3 hcz57_4 hcz57_5 hcz57_6 hcz57_7
           try clear hcz70_0 hcz70_1 hcz70_2 hcz70_3 hcz70_4 hcz70_5 hcz70_6 hcz70_7
           try clear hcz71_0 hcz71_1 hcz71_2 hcz71_3 hcz71_4 hcz71_5 hcz71_6 hcz71_7
           try clear hcz73_0 hcz73_1 hcz73_2 hcz73_3 hcz73_4 hcz73_5 hcz73_6 hcz73_7
           try clear hcz75_0 hcz75_1 hcz75_2 hcz75_3 hcz75_4 hcz75_5 hcz75_6 hcz75_7
           try clear hfz31_0 hfz31_1 hfz31_2 hfz31_3 hfz31_4 hfz31_5 hfz31_6 hfz31_7
           try clear hfz31_0 hfz31_1 hfz31_2 hfz31_3 hfz31_4 hfz31_5 hfz31_6 hfz31_7
           try clear hfz41_0 hfz41_1 hfz41_2 hfz41_3 hfz41_4 hfz41_5 hfz41_6 hfz41_7
           try clear hfz49_0 hfz49_1 hfz49_2 hfz49_3 hfz49_4 hfz49_5 hfz49_6 hfz49_7
           try clear hfz4_0 hfz4_1 hfz4_2 hfz4_3 hfz4_4 hfz4_5 hfz4_6 hfz4_7
           try clear hfz57_0 hfz57_1 hfz57_2 hfz57_3 hfz57_4 hfz57_5 hfz57_6 hfz57_7
           try clear hfz70_0 hfz70_1 hfz70_2 hfz70_3 hfz70_4 hfz70_5 hfz70_6 hfz70_7
           try clear hfz71_0 hfz71_1 hfz71_2 hfz71_3 hfz71_4 hfz71_5 hfz71_6 hfz71_7
           try clear hfz73_0 hfz73_1 hfz73_2 hfz73_3 hfz73_4 hfz73_5 hfz73_6 hfz73_7
           try clear hfz75_0 hfz75_1 hfz75_2 hfz75_3 hfz75_4 hfz75_5 hfz75_6 hfz75_7
           try clear hx484_0
           try clear hx488_0
           try clear hx489_0
           try clear p1
           try clear p15
           try clear p2
           try clear p3
           try clear p38
           try clear p4
           try clear p45
           try clear p48
           try clear p484
           try clear p488
           try clear p489
           try clear p6
           try clear p64
           try clear p67
           try clear q1
           try clear q15
           try clear q3
           try clear q38
           try clear q4
           try clear q45
           try clear q48
           try clear q484
           try clear q488
           try clear q489
           try clear q67
           obtain ⟨kq, xa0_45, xa1_45, xa2_45, xa3_45, xa4_45, xa5_45, xa6_45, xa7_45, xb7_45, HA, HJ45, HO_4, BK477, BK487, HB⟩ := hcut
           cases kq with
           | zero => exact absurd HA.out (by simp [qP.j4])
           | succ kj45 =>
            have H := HA.out;clear HA;simp only [qP.j4] at H;have H' := As H;clear H
            go_wp2
            go_loopg [13, 14] kj45 (fun kq v13 v14 w' => ∃ (x13_4 : Int) (x14_4 : Int) (xa0_4 : Int) (xa1_4 : ByteArray) (xa2_4 : Int) (xa3_4 : Int) (xa4_4 : Int) (xa5_4 : Int) (xa6_4 : Int) (xa7_4 : ByteArray) (xb1_4 : ByteArray) (xb2_4 : Int) (xb3_4 : Int) (xb4_4 : Int) (xb5_4 : Int) (xb6_4 : Int), v13 = .int .i64 x13_4 ∧ v14 = .int .i64 x14_4 ∧ Aside0 (qP.l3 kq x4_1 t485 t486 (t486.size : Int) x13_4 x14_4 t485 xb1_4 xb2_4 xb3_4 xb4_4 xb5_4 xb6_4 xb7_45 = some (r1, r2, r3, r4, r5, r6, r7, r8, r9)) ∧ Aside0 (kq ≤ kj45) ∧ Aside0 (Kd.R Kd.string 9 w' w.heap.size (fun _ => True) (.slice (some ad484) x4_1.length co33) x4_1) ∧ Aside0 (w'.heap[gb477]? = some (.cells #[.int .i64 xa0_4, .string xa1_4, .int .i64 xa2_4, .int .i64 xa3_4, .int .i64 xa4_4, .int .i64 xa5_4, .int .i64 xa6_4, .string xa7_4] 24 (0, 0))) ∧ Aside0 (w'.heap[gb487]? = some (.cells #[.int .i64 t485, .string xb1_4, .int .i64 xb2_4, .int .i64 xb3_4, .int .i64 xb4_4, .int .i64 xb5_4, .int .i64 xb6_4, .string xb7_45] 24 (0, 0))) ∧ Aside0 (Below w.heap.size w w'))
            case atStart => exact ⟨(0), (0), (xa0_45), (xa1_45), (xa2_45), (xa3_45), (xa4_45), (xa5_45), (xa6_45), (xa7_45), ((⟨#[]⟩ : ByteArray)), (0), (0), (0), (0), (0), sw, sw, H', ⟨Nat.le_refl _⟩, ⟨by (with_reducible repeat (first | apply RA | apply RN | apply RD)); exact HO_4.out⟩, ⟨by (with_reducible repeat (first | refine YN ?_ _ | refine YD ?_ | refine YA ?_ _)); exact BK477.out⟩, ⟨by (with_reducible repeat (first | refine YN ?_ _ | refine YD ?_ | refine YA ?_ _)); exact BK487.out⟩, ⟨by repeat (first | (with_reducible first | exact HB.out | apply XA | apply XN | apply XD | refine XS ?_ GE477.out | refine XS ?_ GE487.out) | exact HB.out)⟩⟩
            case round =>
             clear H'
             try clear c1
             try clear p1
             try clear q1
             try clear hx1
             try clear c2
             try clear c2b0
             try clear c2b1
             try clear p2
             try clear c3
             try clear p3
             try clear q3
             try clear hx3
             try clear c4
             try clear p4
             try clear q4
             try clear hx4
             try clear qi4
             try clear c5
             try clear c6
             try clear c6b0
             try clear p6
             try clear q6
             try clear hx6
             try clear c7
             try clear c7b0
             try clear c7b1
             try clear c8
             try clear c8b0
             try clear c8b1
             try clear c9
             try clear c9b0
             try clear c9b1
             try clear c10
             try clear c10b0
             try clear c11
             try clear c13
             try clear c13b0
             try clear c14
             try clear c14b0
             try clear p15
             try clear q15
             try clear hx15
             try clear c16
             try clear c16b0
             try clear c16b1
             try clear c17
             try clear c17b0
             try clear c17b1
             try clear c18
             try clear c18b0
             try clear c18b1
             try clear c19
             try clear c19b0
             try clear c20
             try clear c22
             try clear c22b0
             try clear c22b1
             try clear c24
             try clear c24b0
             try clear c24b1
             try clear c28
             try clear c28b0
             try clear c36
             try clear c36b0
             try clear c37
             try clear c37b0
             try clear p38
             try clear q38
             try clear hx38
             try clear c39
             try clear c39b0
             try clear c39b1
             try clear c40
             try clear c43
             try clear c43b0
             try clear c44
             try clear c44b0
             try clear p45
             try clear q45
             try clear hx45
             try clear c48
             try clear p48
             try clear q48
             try clear hx48
             try clear qi48
             try clear c50
             try clear c50b0
             try clear c50b1
             try clear c51
             try clear c51b0
             try clear c52
             try clear c52b0
             try clear c53
             try clear c53b0
             try clear c53b1
             try clear c53b2
             try clear c54
             try clear c54b0
             try clear c55
             try clear c55b0
             try clear c55b1
             try clear c55b2
             try clear c56
             try clear c61
             try clear c61b0
             try clear c62
             try clear c62b0
             try clear c62b1
             try clear c62b2
             try clear p64
             try clear c65
             try clear c65b0
             try clear c66
             try clear c66b0
             try clear p67
             try clear q67
             try clear hx67
             try clear c68
             try clear c68b0
             try clear c68b1
             try clear c69
             try clear c72
             try clear c74
             try clear hcz31_0 hcz31_1 hcz31_2 hcz31_3 hcz31_4 hcz31_5 hcz31_6 hcz31_7
             try clear hcz31_0 hcz31_1 hcz31_2 hcz31_3 hcz31_4 hcz31_5 hcz31_6 hcz31_7
             try clear hcz41_0 hcz41_1 hcz41_2 hcz41_3 hcz41_4 hcz41_5 hcz41_6 hcz41_7
             try clear hcz49_0 hcz49_1 hcz49_2 hcz49_3 hcz49_4 hcz49_5 hcz49_6 hcz49_7
             try clear hcz4_0 hcz4_1 hcz4_2 hcz4_3 hcz4_4 hcz4_5 hcz4_6 hcz4_7
             try clear hcz57_0 hcz57_1 hcz57_2 hcz57_3 hcz57_4 hcz57_5 hcz57_6 hcz57_7
             try clear hcz70_0 hcz70_1 hcz70_2 hcz70_3 hcz70_4 hcz70_5 hcz70_6 hcz70_7
             try clear hcz71_0 hcz71_1 hcz71_2 hcz71_3 hcz71_4 hcz71_5 hcz71_6 hcz71_7
             try clear hcz73_0 hcz73_1 hcz73_2 hcz73_3 hcz73_4 hcz73_5 hcz73_6 hcz73_7
             try clear hcz75_0 hcz75_1 hcz75_2 hcz75_3 hcz75_4 hcz75_5 hcz75_6 hcz75_7
             try clear hfz31_0 hfz31_1 hfz31_2 hfz31_3 hfz31_4 hfz31_5 hfz31_6 hfz31_7
             try clear hfz31_0 hfz31_1 hfz31_2 hfz31_3 hfz31_4 hfz31_5 hfz31_6 hfz31_7
             try clear hfz41_0 hfz41_1 hfz41_2 hfz41_3 hfz41_4 hfz41_5 hfz41_6 hfz41_7
             try clear hfz49_0 hfz49_1 hfz49_2 hfz49_3 hfz49_4 hfz49_5 hfz49_6 hfz49_7
             try clear hfz4_0 hfz4_1 hfz4_2 hfz4_3 hfz4_4 hfz4_5 hfz4_6 hfz4_7
             try clear hfz57_0 hfz57_1 hfz57_2 hfz57_3 hfz57_4 hfz57_5 hfz57_6 hfz57_7
             try clear hfz70_0 hfz70_1 hfz70_2 hfz70_3 hfz70_4 hfz70_5 hfz70_6 hfz70_7
             try clear hfz71_0 hfz71_1 hfz71_2 hfz71_3 hfz71_4 hfz71_5 hfz71_6 hfz71_7
             try clear hfz73_0 hfz73_1 hfz73_2 hfz73_3 hfz73_4 hfz73_5 hfz73_6 hfz73_7
             try clear hfz75_0 hfz75_1 hfz75_2 hfz75_3 hfz75_4 hfz75_5 hfz75_6 hfz75_7
             try clear hx484_0
             try clear hx488_0
             try clear hx489_0
             try clear p1
             try clear p15
             try clear p2
             try clear p3
             try clear p38
             try clear p4
             try clear p45
             try clear p48
             try clear p484
             try clear p488
             try clear p489
             try clear p6
             try clear p64
             try clear p67
             try clear q1
             try clear q15
             try clear q3
             try clear q38
             try clear q4
             try clear q45
             try clear q48
             try clear q484
             try clear q488
             try clear q489
             try clear q6
             try clear q67
             obtain ⟨x13_4, x14_4, xa0_4, xa1_4, xa2_4, xa3_4, xa4_4, xa5_4, xa6_4, xa7_4, xb1_4, xb2_4, xb3_4, xb4_4, xb5_4, xb6_4, rfl, rfl, HA, HK4, HO_4, BK477, BK487, HB⟩ := hrel
             cases gk with
             | zero => exact absurd HA.out (by simp [qP.l3])
             | succ k4 =>
              have H := HA.out;clear HA;simp only [qP.l3] at H
              by_cases c76 : x14_4 < (t486.size : Int)
              focus
               rw [if_pos c76] at H;have c76b0 : decide (x14_4 < (t486.size : Int)) = true := dY c76;clear c76
               by_cases c77 : 0 ≤ x14_4
               rotate_left
               ·rw [if_neg c77] at H;exact absurd H (by simp)
               rw [if_pos c77] at H;have c77b0 : decide (0 ≤ x14_4) = true := dY c77;clear c77
               by_cases c78 : x14_4 < (t486.size : Int)
               rotate_left
               ·rw [if_neg c78] at H;exact absurd H (by simp)
               rw [if_pos c78] at H;have c78b0 : decide (x14_4 < (t486.size : Int)) = true := dY c78;clear c78
               by_cases c80 : (bt t486 x14_4) = 111
               focus
                rw [if_pos c80] at H;have c80b0 : ((bt t486 x14_4) == 111) = true := beq_iff_eq.mpr c80;have c80b1 : ((bt t486 x14_4) != 111) = false := bne_eq_false_iff_eq.mpr c80;clear c80
                obtain ⟨ji81, hji81⟩ : ∃ j_ : Int, (wrap64 (x14_4 + 1)) = j_ := ⟨_, rfl⟩
                replace H : (if 0 ≤ (ji81) then (if (ji81) < (x4_1.length : Int) then ((qN.f k4 (rdOf ByteArray.empty x4_1 (ji81))).bind fun t491 => (if t491 = true then (qP.l3 k4 x4_1 t485 t486 (t486.size : Int) x13_4 ji81 t485 (rdOf ByteArray.empty x4_1 (ji81)) xb2_4 xb3_4 xb4_4 xb5_4 xb6_4 xb7_45) else (some (0, (⟨#[]⟩ : ByteArray), 0, 0, 0, 0, 0, (⟨#[]⟩ : ByteArray), 11)))) else (none)) else (none)) = some (r1, r2, r3, r4, r5, r6, r7, r8, r9) := by first | (rw [hji81] at H; exact H) | (simp only [hji81] at H ⊢; exact H)
                have hji81w : (IntKind.i64.wrap (x14_4 + 1)) = ji81 := (i64_w _).trans hji81
                by_cases c82 : 0 ≤ (ji81)
                rotate_left
                ·rw [if_neg c82] at H;exact absurd H (by simp)
                rw [if_pos c82] at H;have c82b0 : decide (0 ≤ (ji81)) = true := dY c82;clear c82
                by_cases c83 : (ji81) < (x4_1.length : Int)
                rotate_left
                ·rw [if_neg c83] at H;exact absurd H (by simp)
                rw [if_pos c83] at H;have c83b0 : decide ((ji81) < (x4_1.length : Int)) = true := dY c83;clear c83;replace H := bE H;obtain ⟨t491, A840, H⟩ := H;replace H : (if t491 = true then (qP.l3 k4 x4_1 t485 t486 (t486.size : Int) x13_4 ji81 t485 (rdOf ByteArray.empty x4_1 (ji81)) xb2_4 xb3_4 xb4_4 xb5_4 xb6_4 xb7_45) else (some (0, (⟨#[]⟩ : ByteArray), 0, 0, 0, 0, 0, (⟨#[]⟩ : ByteArray), 11))) = some (r1, r2, r3, r4, r5, r6, r7, r8, r9) := H;have A84 := As A840;clear A840
                by_cases c85 : t491 = true
                subst c85
                have H1 : (qP.l3 k4 x4_1 t485 t486 (t486.size : Int) x13_4 ji81 t485 (rdOf ByteArray.empty x4_1 (ji81)) xb2_4 xb3_4 xb4_4 xb5_4 xb6_4 xb7_45) = some (r1, r2, r3, r4, r5, r6, r7, r8, r9) := by rw [if_pos rfl] at H; exact H
                clear H;have H := H1;clear H1;have H' := As H;clear H;have p79 : 0 ≤ (x14_4 : Int) := dT hy;have q79 : x14_4 < (t486.size : Int) := dT hy;have hx79 := bt_at t486 x14_4;replace p79 := eq_true p79;replace q79 := eq_true q79;have p490 : 0 ≤ ((ji81) : Int) := dT hy;have q490 : (ji81) < (x4_1.length : Int) := dT hy;obtain ⟨ad490, e490, hx490_0⟩ := Kd.at_string (RR HO_4.out).2.2 (ji81) p490 q490
                obtain rfl : ad484 = ad490 := (by injection e490)
                replace p490 := eq_true p490;replace q490 := eq_true q490
                rotate_left
                replace c85 := Bool.eq_false_iff.mpr c85;subst c85
                have H1 : (some (0, (⟨#[]⟩ : ByteArray), 0, 0, 0, 0, 0, (⟨#[]⟩ : ByteArray), 11)) = some (r1, r2, r3, r4, r5, r6, r7, r8, r9) := by rw [if_neg (show ¬ (false = true) by decide)] at H; exact H
                clear H;have H := H1;clear H1;simp only [Option.some.injEq, Prod.mk.injEq] at H;obtain ⟨rfl, rfl, rfl, rfl, rfl, rfl, rfl, rfl, rfl⟩ := H;have p79 : 0 ≤ (x14_4 : Int) := dT hy;have q79 : x14_4 < (t486.size : Int) := dT hy;have hx79 := bt_at t486 x14_4;replace p79 := eq_true p79;replace q79 := eq_true q79;have p490 : 0 ≤ ((ji81) : Int) := dT hy;have q490 : (ji81) < (x4_1.length : Int) := dT hy;obtain ⟨ad490, e490, hx490_0⟩ := Kd.at_string (RR HO_4.out).2.2 (ji81) p490 q490
                obtain rfl : ad484 = ad490 := (by injection e490)
                replace p490 := eq_true p490;replace q490 := eq_true q490
               rotate_left 2
               focus
                rw [if_neg c80] at H;have c80b0 : ((bt t486 x14_4) == 111) = false := beq_eq_false_iff_ne.mpr c80;have c80b1 : ((bt t486 x14_4) != 111) = true := bne_iff_ne.mpr c80
                by_cases c91 : (bt t486 x14_4) = 116
                rw [if_pos c91] at H;have c91b0 : ((bt t486 x14_4) == 116) = true := beq_iff_eq.mpr c91;have c91b1 : ((bt t486 x14_4) != 116) = false := bne_eq_false_iff_eq.mpr c91;clear c91;have H' := As H;clear H;have p79 : 0 ≤ (x14_4 : Int) := dT hy;have q79 : x14_4 < (t486.size : Int) := dT hy;have hx79 := bt_at t486 x14_4;replace p79 := eq_true p79;replace q79 := eq_true q79;have p90 : 0 ≤ (x14_4 : Int) := dT hy;have q90 : x14_4 < (t486.size : Int) := dT hy;have hx90 := bt_at t486 x14_4;replace p90 := eq_true p90;replace q90 := eq_true q90
                have m14_ := trivial
                rotate_left
                focus
                 rw [if_neg c91] at H;have c91b0 : ((bt t486 x14_4) == 116) = false := beq_eq_false_iff_ne.mpr c91;have c91b1 : ((bt t486 x14_4) != 116) = true := bne_iff_ne.mpr c91
                 obtain ⟨ji93, hji93⟩ : ∃ j_ : Int, (wrap64 (x14_4 + 1)) = j_ := ⟨_, rfl⟩
                 replace H : (if 0 ≤ (ji93) then (if (ji93) < (x4_1.length : Int) then ((qr.f k4 (bt t486 x14_4) (rdOf ByteArray.empty x4_1 (ji93))).bind fun bt494 => (if bt494.2 = 0 then (if x13_4 = (0 : Int) then (qP.l3 k4 x4_1 t485 t486 (t486.size : Int) (wrap64 (x13_4 + 1)) ji93 t485 xb1_4 bt494.1 xb3_4 xb4_4 xb5_4 xb6_4 xb7_45) else (if x13_4 = (1 : Int) then (qP.l3 k4 x4_1 t485 t486 (t486.size : Int) (wrap64 (x13_4 + 1)) ji93 t485 xb1_4 xb2_4 bt494.1 xb4_4 xb5_4 xb6_4 xb7_45) else (if x13_4 = (2 : Int) then (qP.l3 k4 x4_1 t485 t486 (t486.size : Int) (wrap64 (x13_4 + 1)) ji93 t485 xb1_4 xb2_4 xb3_4 bt494.1 xb5_4 xb6_4 xb7_45) else (if x13_4 = (3 : Int) then (qP.l3 k4 x4_1 t485 t486 (t486.size : Int) (wrap64 (x13_4 + 1)) ji93 t485 xb1_4 xb2_4 xb3_4 xb4_4 bt494.1 xb6_4 xb7_45) else (if x13_4 = (4 : Int) then (qP.l3 k4 x4_1 t485 t486 (t486.size : Int) (wrap64 (x13_4 + 1)) ji93 t485 xb1_4 xb2_4 xb3_4 xb4_4 xb5_4 bt494.1 xb7_45) else (none)))))) else (some (0, (⟨#[]⟩ : ByteArray), 0, 0, 0, 0, 0, (⟨#[]⟩ : ByteArray), bt494.2)))) else (none)) else (none)) = some (r1, r2, r3, r4, r5, r6, r7, r8, r9) := by first | (rw [hji93] at H; exact H) | (simp only [hji93] at H ⊢; exact H)
                 have hji93w : (IntKind.i64.wrap (x14_4 + 1)) = ji93 := (i64_w _).trans hji93
                 by_cases c94 : 0 ≤ (ji93)
                 rotate_left
                 ·rw [if_neg c94] at H;exact absurd H (by simp)
                 rw [if_pos c94] at H;have c94b0 : decide (0 ≤ (ji93)) = true := dY c94;clear c94
                 by_cases c95 : (ji93) < (x4_1.length : Int)
                 rotate_left
                 ·rw [if_neg c95] at H;exact absurd H (by simp)
                 rw [if_pos c95] at H;have c95b0 : decide ((ji93) < (x4_1.length : Int)) = true := dY c95;clear c95;replace H := bE H;obtain ⟨⟨t494, t495⟩, A960, H⟩ := H;replace H : (if t495 = 0 then (if x13_4 = (0 : Int) then (qP.l3 k4 x4_1 t485 t486 (t486.size : Int) (wrap64 (x13_4 + 1)) ji93 t485 xb1_4 t494 xb3_4 xb4_4 xb5_4 xb6_4 xb7_45) else (if x13_4 = (1 : Int) then (qP.l3 k4 x4_1 t485 t486 (t486.size : Int) (wrap64 (x13_4 + 1)) ji93 t485 xb1_4 xb2_4 t494 xb4_4 xb5_4 xb6_4 xb7_45) else (if x13_4 = (2 : Int) then (qP.l3 k4 x4_1 t485 t486 (t486.size : Int) (wrap64 (x13_4 + 1)) ji93 t485 xb1_4 xb2_4 xb3_4 t494 xb5_4 xb6_4 xb7_45) else (if x13_4 = (3 : Int) then (qP.l3 k4 x4_1 t485 t486 (t486.size : Int) (wrap64 (x13_4 + 1)) ji93 t485 xb1_4 xb2_4 xb3_4 xb4_4 t494 xb6_4 xb7_45) else (if x13_4 = (4 : Int) then (qP.l3 k4 x4_1 t485 t486 (t486.size : Int) (wrap64 (x13_4 + 1)) ji93 t485 xb1_4 xb2_4 xb3_4 xb4_4 xb5_4 t494 xb7_45) else (none)))))) else (some (0, (⟨#[]⟩ : ByteArray), 0, 0, 0, 0, 0, (⟨#[]⟩ : ByteArray), t495))) = some (r1, r2, r3, r4, r5, r6, r7, r8, r9) := H;have A96 := As A960;clear A960
                 by_cases c97 : t495 = 0
                 focus
                  rw [if_pos c97] at H;have c97b0 : (t495 == 0) = true := beq_iff_eq.mpr c97;have c97b1 : (t495 != 0) = false := bne_eq_false_iff_eq.mpr c97;clear c97
                  by_cases c98 : x13_4 = (0 : Int)
                  rw [if_pos c98] at H;have c98b0 : (x13_4 == (0 : Int)) = true := beq_iff_eq.mpr c98;have c98b1 : (x13_4 != (0 : Int)) = false := bne_eq_false_iff_eq.mpr c98
                  have c98b2 : 0 ≤ x13_4 := by omega
                  have c98b3 : x13_4 < 1 := by omega
                  have c98b4 : x13_4 < 2 := by omega
                  have c98b5 : x13_4 < 3 := by omega
                  have c98b6 : x13_4 < 4 := by omega
                  have c98b7 : x13_4 < 5 := by omega
                  have c98b8 : x13_4 < 6 := by omega
                  have c98b9 : (x13_4 : Int).toNat = 0 := by omega
                  clear c98;have H' := As H;clear H;have p79 : 0 ≤ (x14_4 : Int) := dT hy;have q79 : x14_4 < (t486.size : Int) := dT hy;have hx79 := bt_at t486 x14_4;replace p79 := eq_true p79;replace q79 := eq_true q79;have p90 : 0 ≤ (x14_4 : Int) := dT hy;have q90 : x14_4 < (t486.size : Int) := dT hy;have hx90 := bt_at t486 x14_4;replace p90 := eq_true p90;replace q90 := eq_true q90
                  have m10_ := trivial
                  rotate_left
                  focus
                   rw [if_neg c98] at H;have c98b0 : (x13_4 == (0 : Int)) = false := beq_eq_false_iff_ne.mpr c98;have c98b1 : (x13_4 != (0 : Int)) = true := bne_iff_ne.mpr c98
                   by_cases c103 : x13_4 = (1 : Int)
                   rw [if_pos c103] at H;have c103b0 : (x13_4 == (1 : Int)) = true := beq_iff_eq.mpr c103;have c103b1 : (x13_4 != (1 : Int)) = false := bne_eq_false_iff_eq.mpr c103
                   have c103b2 : 0 ≤ x13_4 := by omega
                   have c103b3 : x13_4 < 2 := by omega
                   have c103b4 : x13_4 < 3 := by omega
                   have c103b5 : x13_4 < 4 := by omega
                   have c103b6 : x13_4 < 5 := by omega
                   have c103b7 : x13_4 < 6 := by omega
                   have c103b8 : (x13_4 : Int).toNat = 1 := by omega
                   clear c103;have H' := As H;clear H;have p79 : 0 ≤ (x14_4 : Int) := dT hy;have q79 : x14_4 < (t486.size : Int) := dT hy;have hx79 := bt_at t486 x14_4;replace p79 := eq_true p79;replace q79 := eq_true q79;have p90 : 0 ≤ (x14_4 : Int) := dT hy;have q90 : x14_4 < (t486.size : Int) := dT hy;have hx90 := bt_at t486 x14_4;replace p90 := eq_true p90;replace q90 := eq_true q90
                   have m9_ := trivial
                   rotate_left
                   focus
                    rw [if_neg c103] at H;have c103b0 : (x13_4 == (1 : Int)) = false := beq_eq_false_iff_ne.mpr c103;have c103b1 : (x13_4 != (1 : Int)) = true := bne_iff_ne.mpr c103
                    by_cases c108 : x13_4 = (2 : Int)
                    rw [if_pos c108] at H;have c108b0 : (x13_4 == (2 : Int)) = true := beq_iff_eq.mpr c108;have c108b1 : (x13_4 != (2 : Int)) = false := bne_eq_false_iff_eq.mpr c108
                    have c108b2 : 0 ≤ x13_4 := by omega
                    have c108b3 : x13_4 < 3 := by omega
                    have c108b4 : x13_4 < 4 := by omega
                    have c108b5 : x13_4 < 5 := by omega
                    have c108b6 : x13_4 < 6 := by omega
                    have c108b7 : (x13_4 : Int).toNat = 2 := by omega
                    clear c108;have H' := As H;clear H;have p79 : 0 ≤ (x14_4 : Int) := dT hy;have q79 : x14_4 < (t486.size : Int) := dT hy;have hx79 := bt_at t486 x14_4;replace p79 := eq_true p79;replace q79 := eq_true q79;have p90 : 0 ≤ (x14_4 : Int) := dT hy;have q90 : x14_4 < (t486.size : Int) := dT hy;have hx90 := bt_at t486 x14_4;replace p90 := eq_true p90;replace q90 := eq_true q90
                    have m8_ := trivial
                    rotate_left
                    focus
                     rw [if_neg c108] at H;have c108b0 : (x13_4 == (2 : Int)) = false := beq_eq_false_iff_ne.mpr c108;have c108b1 : (x13_4 != (2 : Int)) = true := bne_iff_ne.mpr c108
                     by_cases c113 : x13_4 = (3 : Int)
                     rw [if_pos c113] at H;have c113b0 : (x13_4 == (3 : Int)) = true := beq_iff_eq.mpr c113;have c113b1 : (x13_4 != (3 : Int)) = false := bne_eq_false_iff_eq.mpr c113
                     have c113b2 : 0 ≤ x13_4 := by omega
                     have c113b3 : x13_4 < 4 := by omega
                     have c113b4 : x13_4 < 5 := by omega
                     have c113b5 : x13_4 < 6 := by omega
                     have c113b6 : (x13_4 : Int).toNat = 3 := by omega
                     clear c113;have H' := As H;clear H;have p79 : 0 ≤ (x14_4 : Int) := dT hy;have q79 : x14_4 < (t486.size : Int) := dT hy;have hx79 := bt_at t486 x14_4;replace p79 := eq_true p79;replace q79 := eq_true q79;have p90 : 0 ≤ (x14_4 : Int) := dT hy;have q90 : x14_4 < (t486.size : Int) := dT hy;have hx90 := bt_at t486 x14_4;replace p90 := eq_true p90;replace q90 := eq_true q90
                     have m7_ := trivial
                     rotate_left
                     focus
                      rw [if_neg c113] at H;have c113b0 : (x13_4 == (3 : Int)) = false := beq_eq_false_iff_ne.mpr c113;have c113b1 : (x13_4 != (3 : Int)) = true := bne_iff_ne.mpr c113
                      by_cases c118 : x13_4 = (4 : Int)
                      rotate_left
                      ·rw [if_neg c118] at H;exact absurd H (by simp)
                      rw [if_pos c118] at H;have c118b0 : (x13_4 == (4 : Int)) = true := beq_iff_eq.mpr c118;have c118b1 : (x13_4 != (4 : Int)) = false := bne_eq_false_iff_eq.mpr c118
                      have c118b2 : 0 ≤ x13_4 := by omega
                      have c118b3 : x13_4 < 5 := by omega
                      have c118b4 : x13_4 < 6 := by omega
                      have c118b5 : (x13_4 : Int).toNat = 4 := by omega
                      clear c118;have H' := As H;clear H;have p79 : 0 ≤ (x14_4 : Int) := dT hy;have q79 : x14_4 < (t486.size : Int) := dT hy;have hx79 := bt_at t486 x14_4;replace p79 := eq_true p79;replace q79 := eq_true q79;have p90 : 0 ≤ (x14_4 : Int) := dT hy;have q90 : x14_4 < (t486.size : Int) := dT hy;have hx90 := bt_at t486 x14_4;replace p90 := eq_true p90;replace q90 := eq_true q90
                      have m6_ := trivial
                 rotate_left 5
                 rw [if_neg c97] at H;have c97b0 : (t495 == 0) = false := beq_eq_false_iff_ne.mpr c97;have c97b1 : (t495 != 0) = true := bne_iff_ne.mpr c97;simp only [Option.some.injEq, Prod.mk.injEq] at H;obtain ⟨rfl, rfl, rfl, rfl, rfl, rfl, rfl, rfl, rfl⟩ := H;have p79 : 0 ≤ (x14_4 : Int) := dT hy;have q79 : x14_4 < (t486.size : Int) := dT hy;have hx79 := bt_at t486 x14_4;replace p79 := eq_true p79;replace q79 := eq_true q79;have p90 : 0 ≤ (x14_4 : Int) := dT hy;have q90 : x14_4 < (t486.size : Int) := dT hy;have hx90 := bt_at t486 x14_4;replace p90 := eq_true p90;replace q90 := eq_true q90
                 have m5_ := trivial
              rotate_left 9
              focus
               rw [if_neg c76] at H;have c76b0 : decide (x14_4 < (t486.size : Int)) = false := dN c76;clear c76
               by_cases c127 : t485 = 1
               focus
                rw [if_pos c127] at H;have c127b0 : (t485 == 1) = true := beq_iff_eq.mpr c127;have c127b1 : (t485 != 1) = false := bne_eq_false_iff_eq.mpr c127;clear c127
                by_cases c128 : xb2_4 ≥ xb3_4
                rw [if_pos c128] at H;have c128b0 : decide (xb3_4 ≤ xb2_4) = true := dY c128;clear c128;simp only [Option.some.injEq, Prod.mk.injEq] at H;obtain ⟨rfl, rfl, rfl, rfl, rfl, rfl, rfl, rfl, rfl⟩ := H;have hnb129 := NB487_477.out;have hnc129 := NB477_487.out;obtain ⟨hcz130_0, hcz130_1, hcz130_2, hcz130_3, hcz130_4, hcz130_5, hcz130_6, hcz130_7, hfz130_0, hfz130_1, hfz130_2, hfz130_3, hfz130_4, hfz130_5, hfz130_6, hfz130_7⟩ := cz8 BK487.out;obtain ⟨hcz131_0, hcz131_1, hcz131_2, hcz131_3, hcz131_4, hcz131_5, hcz131_6, hcz131_7, hfz131_0, hfz131_1, hfz131_2, hfz131_3, hfz131_4, hfz131_5, hfz131_6, hfz131_7⟩ := cz8 BK477.out
                have m13_ := trivial
                rotate_left
                rw [if_neg c128] at H;have c128b0 : decide (xb3_4 ≤ xb2_4) = false := dN c128;clear c128;simp only [Option.some.injEq, Prod.mk.injEq] at H;obtain ⟨rfl, rfl, rfl, rfl, rfl, rfl, rfl, rfl, rfl⟩ := H;have hnb132 := NB487_477.out;have hnc132 := NB477_487.out;obtain ⟨hcz133_0, hcz133_1, hcz133_2, hcz133_3, hcz133_4, hcz133_5, hcz133_6, hcz133_7, hfz133_0, hfz133_1, hfz133_2, hfz133_3, hfz133_4, hfz133_5, hfz133_6, hfz133_7⟩ := cz8 BK487.out;obtain ⟨hcz134_0, hcz134_1, hcz134_2, hcz134_3, hcz134_4, hcz134_5, hcz134_6, hcz134_7, hfz134_0, hfz134_1, hfz134_2, hfz134_3, hfz134_4, hfz134_5, hfz134_6, hfz134_7⟩ := cz8 BK477.out
                have m12_ := trivial
               rotate_left 2
               rw [if_neg c127] at H;have c127b0 : (t485 == 1) = false := beq_eq_false_iff_ne.mpr c127;have c127b1 : (t485 != 1) = true := bne_iff_ne.mpr c127;simp only [Option.some.injEq, Prod.mk.injEq] at H;obtain ⟨rfl, rfl, rfl, rfl, rfl, rfl, rfl, rfl, rfl⟩ := H;have hnb135 := NB487_477.out;have hnc135 := NB477_487.out;obtain ⟨hcz136_0, hcz136_1, hcz136_2, hcz136_3, hcz136_4, hcz136_5, hcz136_6, hcz136_7, hfz136_0, hfz136_1, hfz136_2, hfz136_3, hfz136_4, hfz136_5, hfz136_6, hfz136_7⟩ := cz8 BK487.out;obtain ⟨hcz137_0, hcz137_1, hcz137_2, hcz137_3, hcz137_4, hcz137_5, hcz137_6, hcz137_7, hfz137_0, hfz137_1, hfz137_2, hfz137_3, hfz137_4, hfz137_5, hfz137_6, hfz137_7⟩ := cz8 BK477.out
               have m11_ := trivial
              all_goals try
               first | (clear m5_; have m5_ := trivial) | (clear m6_; have m6_ := trivial) | (clear m7_; have m7_ := trivial) | (clear m8_; have m8_ := trivial) | (clear m9_; have m9_ := trivial) | (clear m10_; have m10_ := trivial)
               try go_wp2
               replace HO_4 := As (RD HO_4.out);replace BK477 := As (YD BK477.out);replace BK487 := As (YD BK487.out);replace HB := As (XD HB.out);have p92 : 0 ≤ (x14_4 : Int) := dT hy;have q92 : x14_4 < (t486.size : Int) := dT hy;have hx92 := bt_at t486 x14_4;replace p92 := eq_true p92;replace q92 := eq_true q92;have p493 : 0 ≤ ((ji93) : Int) := dT hy;have q493 : (ji93) < (x4_1.length : Int) := dT hy;obtain ⟨ad493, e493, hx493_0⟩ := Kd.at_string (RR HO_4.out).2.2 (ji93) p493 q493
               obtain rfl : ad484 = ad493 := (by injection e493)
               replace p493 := eq_true p493;replace q493 := eq_true q493;refine start_ (n := 14) (S := fun w' => w'.cell? (ad484.add ((ji93)).toNat) = some (.string (rdOf ByteArray.empty x4_1 (ji93)))) (ds := []) (fl 0 14) kr rfl rfl (hx493_0) (fun hHeld => ?_); refine with_tabW qP.tab41 qP.bits41 (fun HT_ HW_ => ?_);generalize wr.drew = w123 at HO_4 BK477 BK487 HB hx493_0 hHeld ⊢;refine pure_ (i := 0) (N := some 147) (v := ?_) (a' := ?_) (fl 1 13) rfl rfl (any_of HT_.out kr) (fun _ _ _ h => h) (Or.inl ⟨by rfl, ?_⟩) ?_ ?_;rotate_left
               ·intro w';go_simp
                first | (with_reducible rfl) | (rw [if_neg (by exact sn c53)]) | (rw [if_neg (by exact sn c55)]) | (rw [if_neg (by exact sn c62)])
               rotate_left
               ·simp only [Act.put, z0,z1,z2,i64_w,i32_w];rfl
               refine pure_ (i := 1) (N := some 148) (v := ?_) (a' := ?_) (fl 2 12) rfl rfl (any_of HT_.out kr) (fun _ _ _ h => h) (Or.inl ⟨by rfl, ?_⟩) ?_ ?_;rotate_left
               ·intro w';go_simp
                first | (with_reducible rfl) | (rw [if_neg (by exact sn c53)]) | (rw [if_neg (by exact sn c55)]) | (rw [if_neg (by exact sn c62)])
               rotate_left
               ·simp only [Act.put, z0,z1,z2,i64_w,i32_w];rfl
               refine pure_ (i := 3) (N := some 150) (v := ?_) (a' := ?_) #[Y,Y,O,Y,O,O,O,O,O,O,O,O,O,O] rfl rfl (any_of HT_.out kr) (fun _ _ _ h => h) (Or.inl ⟨by rfl, ?_⟩) ?_ ?_;rotate_left
               ·intro w';go_simp
                first | (with_reducible rfl) | (rw [if_neg (by exact sn c53)]) | (rw [if_neg (by exact sn c55)]) | (rw [if_neg (by exact sn c62)])
               rotate_left
               ·simp only [Act.put, z0,z1,z2,i64_w,i32_w];rfl
               refine pure_ (i := 4) (N := some 151) (v := ?_) (a' := ?_) #[Y,Y,O,Y,Y,O,O,O,O,O,O,O,O,O] rfl rfl (any_of HT_.out kr) (fun _ _ _ h => h) (Or.inl ⟨by rfl, ?_⟩) ?_ ?_;rotate_left
               ·intro w';go_simp
                first | (with_reducible rfl) | (rw [if_neg (by exact sn c53)]) | (rw [if_neg (by exact sn c55)]) | (rw [if_neg (by exact sn c62)])
               rotate_left
               ·simp only [Act.put, z0,z1,z2,i64_w,i32_w];rfl
               refine pure_ (i := 5) (N := some 152) (v := ?_) (a' := ?_) #[Y,Y,O,Y,Y,Y,O,O,O,O,O,O,O,O] rfl rfl (any_of HT_.out kr) (fun _ _ _ h => h) (Or.inl ⟨by rfl, ?_⟩) ?_ ?_;rotate_left
               ·intro w';go_simp
                first | (with_reducible rfl) | (rw [if_neg (by exact sn c53)]) | (rw [if_neg (by exact sn c55)]) | (rw [if_neg (by exact sn c62)])
               rotate_left
               ·simp only [Act.put, z0,z1,z2,i64_w,i32_w];rfl
               refine pure_ (i := 6) (N := some 153) (v := ?_) (a' := ?_) #[Y,Y,O,Y,Y,Y,Y,O,O,O,O,O,O,O] rfl rfl (any_of HT_.out kr) (fun _ _ _ h => h) (Or.inl ⟨by rfl, ?_⟩) ?_ ?_;rotate_left
               ·intro w';go_simp
                first | (with_reducible rfl) | (rw [if_neg (by exact sn c53)]) | (rw [if_neg (by exact sn c55)]) | (rw [if_neg (by exact sn c62)])
               rotate_left
               ·simp only [Act.put, z0,z1,z2,i64_w,i32_w];rfl
               refine take_ (i := 2) (N := some 149) (v := ?_) (a' := ?_) (fl 7 7) rfl rfl (take_ofW HT_.out HW_.out kr) (fun _ _ _ h => h) (Or.inl ⟨by rfl, ?_⟩) hHeld ?_ ?_;rotate_left
               ·intro w' s0;go_simp
                first | (with_reducible rfl) | (rw [if_neg (by exact sn c53)]) | (rw [if_neg (by exact sn c55)]) | (rw [if_neg (by exact sn c62)])
               rotate_left
               ·simp only [Act.put, z0,z1,z2,i64_w,i32_w];rfl
               refine take_ (i := 7) (N := some 154) (v := ?_) (a' := ?_) (fl 8 6) rfl rfl (take_ofW HT_.out HW_.out kr) (fun _ _ _ h => h) (Or.inl ⟨by rfl, ?_⟩) hHeld ?_ ?_;rotate_left
               ·intro w' s0;go_simp
                first | (with_reducible rfl) | (rw [if_neg (by exact sn c53)]) | (rw [if_neg (by exact sn c55)]) | (rw [if_neg (by exact sn c62)])
               rotate_left
               ·simp only [Act.put, z0,z1,z2,i64_w,i32_w];rfl
               refine one_ (i := 8) (N := some 155) (fl 9 5) rfl rfl (one_of HT_.out kr) (by decide) (fun K hK => ?_);refine goes_ Tryz.func25 kr rfl #[.int .u8 (bt t486 x14_4), .string (rdOf ByteArray.empty x4_1 (ji93))] (by rfl) rfl rfl (by (try simp only [List.map_toArray, List.map_cons, List.map_nil]); first | done | (simp only [hji93]; rfl) | rfl | (simp only [List.length_drop, List.length_take]; rfl)) ?_
               with_reducible refine (qr.calls k4 (bt t486 x14_4) (rdOf ByteArray.empty x4_1 (ji93)) _ _ _ A96.out).mono ?_
               rintro e w124 ⟨rfl, hb⟩;have HS0_ := (hb.cell (BL _ _ (hHeld))).trans (hHeld);refine ⟨_, rfl, ?_⟩;replace HO_4 := As (RB (ro HO_4.out) hb);replace BK477 := As (YB (g := gb477) (o := .cells #[.int .i64 xa0_4, .string xa1_4, .int .i64 xa2_4, .int .i64 xa3_4, .int .i64 xa4_4, .int .i64 xa5_4, .int .i64 xa6_4, .string xa7_4] 24 (0, 0)) (bk BK477.out) hb);replace BK487 := As (YB (g := gb487) (o := .cells #[.int .i64 t485, .string xb1_4, .int .i64 xb2_4, .int .i64 xb3_4, .int .i64 xb4_4, .int .i64 xb5_4, .int .i64 xb6_4, .string xb7_45] 24 (0, 0)) (bk BK487.out) hb);replace HB := As (XT (be HB.out) hb)
               (try clear hb)
               (try clear hb2)
               (try clear hk)
               (try clear hi)
               refine hK.out _ _ (HS0_) (fun hHeld => ?_);clear hK K;refine norm_ (a' := ?_) ?_ ?_;rotate_left
               ·show Act.put _ (some 155) _ = _
                simp only [Act.put, z0,z1,z2,i64_w,i32_w];rfl
               refine pure_ (i := 9) (N := some 146) (v := ?_) (a' := ?_) (fl 10 4) rfl rfl (any_of HT_.out kr) (fun _ _ _ h => h) (Or.inl ⟨by rfl, ?_⟩) ?_ ?_;rotate_left
               ·intro w';go_simp
                first | (with_reducible rfl) | (rw [if_neg (by exact sn c53)]) | (rw [if_neg (by exact sn c55)]) | (rw [if_neg (by exact sn c62)])
               rotate_left
               ·simp only [Act.put, z0,z1,z2,i64_w,i32_w];rfl
               refine pure_ (i := 10) (N := some 156) (v := ?_) (a' := ?_) (fl 11 3) rfl rfl (any_of HT_.out kr) (fun _ _ _ h => h) (Or.inl ⟨by rfl, ?_⟩) ?_ ?_;rotate_left
               ·intro w';go_simp
                first | (with_reducible rfl) | (rw [if_neg (by exact sn c53)]) | (rw [if_neg (by exact sn c55)]) | (rw [if_neg (by exact sn c62)])
               rotate_left
               ·simp only [Act.put, z0,z1,z2,i64_w,i32_w];rfl
               refine pure_ (i := 11) (N := some 157) (v := ?_) (a' := ?_) (fl 12 2) rfl rfl (any_of HT_.out kr) (fun _ _ _ h => h) (Or.inl ⟨by rfl, ?_⟩) ?_ ?_;rotate_left
               ·intro w';go_simp
                first | (with_reducible rfl) | (rw [if_neg (by exact sn c53)]) | (rw [if_neg (by exact sn c55)]) | (rw [if_neg (by exact sn c62)])
               rotate_left
               ·simp only [Act.put, z0,z1,z2,i64_w,i32_w];rfl
               refine pure_ (i := 12) (N := some 15) (v := ?_) (a' := ?_) (fl 13 1) rfl rfl (any_of HT_.out kr) (fun _ _ _ h => h) (Or.inl ⟨by rfl, ?_⟩) ?_ ?_;rotate_left
               ·intro w';go_simp
                first | (with_reducible rfl) | (rw [if_neg (by exact sn c53)]) | (rw [if_neg (by exact sn c55)]) | (rw [if_neg (by exact sn c62)])
               rotate_left
               ·simp only [Act.put, z0,z1,z2,i64_w,i32_w];rfl
               refine pure_ (i := 13) (N := some 16) (v := ?_) (a' := ?_) (fl 14 0) rfl rfl (any_of HT_.out kr) (fun _ _ _ h => h) (Or.inl ⟨by rfl, ?_⟩) ?_ ?_;rotate_left
               ·intro w';go_simp
                first | (with_reducible rfl) | (rw [if_neg (by exact sn c53)]) | (rw [if_neg (by exact sn c55)]) | (rw [if_neg (by exact sn c62)])
               rotate_left
               ·simp only [Act.put, z0,z1,z2,i64_w,i32_w];rfl
              all_goals try
               first | (clear m6_; have m6_ := trivial) | (clear m7_; have m7_ := trivial) | (clear m8_; have m8_ := trivial) | (clear m9_; have m9_ := trivial) | (clear m10_; have m10_ := trivial)
               refine done_ (done_of HT_.out kr) ?_;have hnb121 := NB487_477.out;have hnc121 := NB477_487.out;obtain ⟨hcz122_0, hcz122_1, hcz122_2, hcz122_3, hcz122_4, hcz122_5, hcz122_6, hcz122_7, hfz122_0, hfz122_1, hfz122_2, hfz122_3, hfz122_4, hfz122_5, hfz122_6, hfz122_7⟩ := cz8 BK487.out
               try go_wp2
               go_roundg k4
               case measure => have := HK1.out; have := HJ31.out; have := HJ45.out; have := HK4.out; omega
              all_goals try
               first | (clear m11_; have m11_ := trivial) | (clear m12_; have m12_ := trivial) | (clear m13_; have m13_ := trivial) | (clear m14_; have m14_ := trivial)
               go_wp2
              all_goals try
               first | (clear m11_; have m11_ := trivial) | (clear m12_; have m12_ := trivial)
               refine bodyPost_ret (results_ct rfl _ _ gb477 24 #[.int .i64 t485, .string xb1_4, .int .i64 xb2_4, .int .i64 xb3_4, .int .i64 xb4_4, .int .i64 xb5_4, .int .i64 xb6_4, .string xb7_45] (0, 0) _ rfl (by apply blk_to; (iterate 8 ((with_reducible repeat (first | refine YN ?_ _ | refine YD ?_ | refine YA ?_ _)); apply blk_set)); (with_reducible repeat (first | refine YN ?_ _ | refine YD ?_ | refine YA ?_ _)); exact BK477.out; simp only [z0,z1,z2]) Tryz.underlying24 rfl kr) rfl ?_;exact ⟨by first | rfl | (simp [errW_none, errW_some] <;> rfl) | (simp only [← hji42]; first | rfl | (simp [errW_none, errW_some] <;> rfl)) | (simp [*, errW_none, errW_some] <;> rfl), by repeat (first | (with_reducible first | exact HB.out | apply XA | apply XN | apply XD | refine XS ?_ GE477.out | refine XS ?_ GE487.out) | exact HB.out)⟩
              ·refine bodyPost_ret (results_ct rfl _ _ gb477 24 zc17 (0, 0) _ rfl (by (with_reducible repeat (first | refine YN ?_ _ | refine YD ?_ | refine YA ?_ _)); refine blk_put (cs := #[.int .i64 0, .string (⟨#[]⟩ : ByteArray), .int .i64 0, .int .i64 0, .int .i64 0, .int .i64 0, .int .i64 0, .string xa7_4]) ?_ 7 _ rfl; (with_reducible repeat (first | refine YN ?_ _ | refine YD ?_ | refine YA ?_ _)); refine blk_put (cs := #[.int .i64 0, .string (⟨#[]⟩ : ByteArray), .int .i64 0, .int .i64 0, .int .i64 0, .int .i64 0, .int .i64 xa6_4, .string xa7_4]) ?_ 6 _ rfl; (with_reducible repeat (first | refine YN ?_ _ | refine YD ?_ | refine YA ?_ _)); refine blk_put (cs := #[.int .i64 0, .string (⟨#[]⟩ : ByteArray), .int .i64 0, .int .i64 0, .int .i64 0, .int .i64 xa5_4, .int .i64 xa6_4, .string xa7_4]) ?_ 5 _ rfl; (with_reducible repeat (first | refine YN ?_ _ | refine YD ?_ | refine YA ?_ _)); refine blk_put (cs := #[.int .i64 0, .string (⟨#[]⟩ : ByteArray), .int .i64 0, .int .i64 0, .int .i64 xa4_4, .int .i64 xa5_4, .int .i64 xa6_4, .string xa7_4]) ?_ 4 _ rfl; (with_reducible repeat (first | refine YN ?_ _ | refine YD ?_ | refine YA ?_ _)); refine blk_put (cs := #[.int .i64 0, .string (⟨#[]⟩ : ByteArray), .int .i64 0, .int .i64 xa3_4, .int .i64 xa4_4, .int .i64 xa5_4, .int .i64 xa6_4, .string xa7_4]) ?_ 3 _ rfl; (with_reducible repeat (first | refine YN ?_ _ | refine YD ?_ | refine YA ?_ _)); refine blk_put (cs := #[.int .i64 0, .string (⟨#[]⟩ : ByteArray), .int .i64 xa2_4, .int .i64 xa3_4, .int .i64 xa4_4, .int .i64 xa5_4, .int .i64 xa6_4, .string xa7_4]) ?_ 2 _ rfl; apply blk_to; (iterate 2 ((with_reducible repeat (first | refine YN ?_ _ | refine YD ?_ | refine YA ?_ _)); apply blk_set)); (with_reducible repeat (first | refine YN ?_ _ | refine YD ?_ | refine YA ?_ _)); exact BK477.out; simp only [z0,z1,z2]) Tryz.underlying24 rfl kr) rfl ?_;exact ⟨by first | rfl | (simp [errW_none, errW_some] <;> rfl) | (simp only [← hji42]; first | rfl | (simp [errW_none, errW_some] <;> rfl)) | (simp [*, errW_none, errW_some] <;> rfl), by repeat (first | (with_reducible first | exact HB.out | apply XA | apply XN | apply XD | refine XS ?_ GE477.out | refine XS ?_ GE487.out) | exact HB.out)⟩
              ·refine done_ (done_of HT_.out kr) ?_;have hnb125 := NB477_487.out;have hnc125 := NB487_477.out;obtain ⟨hcz126_0, hcz126_1, hcz126_2, hcz126_3, hcz126_4, hcz126_5, hcz126_6, hcz126_7, hfz126_0, hfz126_1, hfz126_2, hfz126_3, hfz126_4, hfz126_5, hfz126_6, hfz126_7⟩ := cz8 BK477.out
               try go_wp2
               refine bodyPost_ret (results_ct rfl _ _ gb477 24 zc17 (0, 0) _ rfl (by (with_reducible repeat (first | refine YN ?_ _ | refine YD ?_ | refine YA ?_ _)); refine blk_put (cs := #[.int .i64 0, .string (⟨#[]⟩ : ByteArray), .int .i64 0, .int .i64 0, .int .i64 0, .int .i64 0, .int .i64 0, .string xa7_4]) ?_ 7 _ rfl; (with_reducible repeat (first | refine YN ?_ _ | refine YD ?_ | refine YA ?_ _)); refine blk_put (cs := #[.int .i64 0, .string (⟨#[]⟩ : ByteArray), .int .i64 0, .int .i64 0, .int .i64 0, .int .i64 0, .int .i64 xa6_4, .string xa7_4]) ?_ 6 _ rfl; (with_reducible repeat (first | refine YN ?_ _ | refine YD ?_ | refine YA ?_ _)); refine blk_put (cs := #[.int .i64 0, .string (⟨#[]⟩ : ByteArray), .int .i64 0, .int .i64 0, .int .i64 0, .int .i64 xa5_4, .int .i64 xa6_4, .string xa7_4]) ?_ 5 _ rfl; (with_reducible repeat (first | refine YN ?_ _ | refine YD ?_ | refine YA ?_ _)); refine blk_put (cs := #[.int .i64 0, .string (⟨#[]⟩ : ByteArray), .int .i64 0, .int .i64 0, .int .i64 xa4_4, .int .i64 xa5_4, .int .i64 xa6_4, .string xa7_4]) ?_ 4 _ rfl; (with_reducible repeat (first | refine YN ?_ _ | refine YD ?_ | refine YA ?_ _)); refine blk_put (cs := #[.int .i64 0, .string (⟨#[]⟩ : ByteArray), .int .i64 0, .int .i64 xa3_4, .int .i64 xa4_4, .int .i64 xa5_4, .int .i64 xa6_4, .string xa7_4]) ?_ 3 _ rfl; (with_reducible repeat (first | refine YN ?_ _ | refine YD ?_ | refine YA ?_ _)); refine blk_put (cs := #[.int .i64 0, .string (⟨#[]⟩ : ByteArray), .int .i64 xa2_4, .int .i64 xa3_4, .int .i64 xa4_4, .int .i64 xa5_4, .int .i64 xa6_4, .string xa7_4]) ?_ 2 _ rfl; apply blk_to; (iterate 2 ((with_reducible repeat (first | refine YN ?_ _ | refine YD ?_ | refine YA ?_ _)); apply blk_set)); (with_reducible repeat (first | refine YN ?_ _ | refine YD ?_ | refine YA ?_ _)); exact BK477.out; simp only [z0,z1,z2]) Tryz.underlying24 rfl kr) rfl ?_;exact ⟨by first | rfl | (simp [errW_none, errW_some] <;> rfl) | (simp only [← hji42, ← hji93]; first | rfl | (simp [errW_none, errW_some] <;> rfl)) | (simp [*, errW_none, errW_some] <;> rfl), by repeat (first | (with_reducible first | exact HB.out | apply XA | apply XN | apply XD | refine XS ?_ GE477.out | refine XS ?_ GE487.out) | exact HB.out)⟩
              ·case rel => exact ⟨(wrap64 (x13_4 + 1)), (ji93), (xa0_4), (xa1_4), (xa2_4), (xa3_4), (xa4_4), (xa5_4), (xa6_4), (xa7_4), (xb1_4), (xb2_4), (xb3_4), (xb4_4), (xb5_4), (t494), sw, (by first | rfl | (simp; done) | (simp only [← hji93] <;> (first | rfl | simp)) | (simp [*]; done)), H', ⟨by have := HK1.out; have := HJ31.out; have := HJ45.out; have := HK4.out; omega⟩, ⟨by (with_reducible repeat (first | apply RA | apply RN | apply RD)); exact RM (RF (p := ⟨gb487, 6, none⟩) (Kd.R_types HO_4.out BK487.out (by decide)) (fun _ hk => hk.2) (.int .i64 t494)) (fun _ hk => trivial)⟩, ⟨by (with_reducible repeat (first | refine YN ?_ _ | refine YD ?_ | refine YA ?_ _)); refine blk_far ?_ NB477_487.out _; (with_reducible repeat (first | refine YN ?_ _ | refine YD ?_ | refine YA ?_ _)); exact BK477.out⟩, ⟨by (with_reducible repeat (first | refine YN ?_ _ | refine YD ?_ | refine YA ?_ _)); refine blk_put (cs := #[.int .i64 t485, .string xb1_4, .int .i64 xb2_4, .int .i64 xb3_4, .int .i64 xb4_4, .int .i64 xb5_4, .int .i64 xb6_4, .string xb7_45]) ?_ 6 _ rfl; (with_reducible repeat (first | refine YN ?_ _ | refine YD ?_ | refine YA ?_ _)); exact BK487.out⟩, ⟨by repeat (first | (with_reducible first | exact HB.out | apply XA | apply XN | apply XD | refine XS ?_ GE477.out | refine XS ?_ GE487.out) | exact HB.out)⟩⟩
              ·case rel => exact ⟨(wrap64 (x13_4 + 1)), (ji93), (xa0_4), (xa1_4), (xa2_4), (xa3_4), (xa4_4), (xa5_4), (xa6_4), (xa7_4), (xb1_4), (xb2_4), (xb3_4), (xb4_4), (t494), (xb6_4), sw, (by first | rfl | (simp; done) | (simp only [← hji93] <;> (first | rfl | simp)) | (simp [*]; done)), H', ⟨by have := HK1.out; have := HJ31.out; have := HJ45.out; have := HK4.out; omega⟩, ⟨by (with_reducible repeat (first | apply RA | apply RN | apply RD)); exact RM (RF (p := ⟨gb487, 5, none⟩) (Kd.R_types HO_4.out BK487.out (by decide)) (fun _ hk => hk.2) (.int .i64 t494)) (fun _ hk => trivial)⟩, ⟨by (with_reducible repeat (first | refine YN ?_ _ | refine YD ?_ | refine YA ?_ _)); refine blk_far ?_ NB477_487.out _; (with_reducible repeat (first | refine YN ?_ _ | refine YD ?_ | refine YA ?_ _)); exact BK477.out⟩, ⟨by (with_reducible repeat (first | refine YN ?_ _ | refine YD ?_ | refine YA ?_ _)); refine blk_put (cs := #[.int .i64 t485, .string xb1_4, .int .i64 xb2_4, .int .i64 xb3_4, .int .i64 xb4_4, .int .i64 xb5_4, .int .i64 xb6_4, .string xb7_45]) ?_ 5 _ rfl; (with_reducible repeat (first | refine YN ?_ _ | refine YD ?_ | refine YA ?_ _)); exact BK487.out⟩, ⟨by repeat (first | (with_reducible first | exact HB.out | apply XA | apply XN | apply XD | refine XS ?_ GE477.out | refine XS ?_ GE487.out) | exact HB.out)⟩⟩
              ·case rel => exact ⟨(wrap64 (x13_4 + 1)), (ji93), (xa0_4), (xa1_4), (xa2_4), (xa3_4), (xa4_4), (xa5_4), (xa6_4), (xa7_4), (xb1_4), (xb2_4), (xb3_4), (t494), (xb5_4), (xb6_4), sw, (by first | rfl | (simp; done) | (simp only [← hji93] <;> (first | rfl | simp)) | (simp [*]; done)), H', ⟨by have := HK1.out; have := HJ31.out; have := HJ45.out; have := HK4.out; omega⟩, ⟨by (with_reducible repeat (first | apply RA | apply RN | apply RD)); exact RM (RF (p := ⟨gb487, 4, none⟩) (Kd.R_types HO_4.out BK487.out (by decide)) (fun _ hk => hk.2) (.int .i64 t494)) (fun _ hk => trivial)⟩, ⟨by (with_reducible repeat (first | refine YN ?_ _ | refine YD ?_ | refine YA ?_ _)); refine blk_far ?_ NB477_487.out _; (with_reducible repeat (first | refine YN ?_ _ | refine YD ?_ | refine YA ?_ _)); exact BK477.out⟩, ⟨by (with_reducible repeat (first | refine YN ?_ _ | refine YD ?_ | refine YA ?_ _)); refine blk_put (cs := #[.int .i64 t485, .string xb1_4, .int .i64 xb2_4, .int .i64 xb3_4, .int .i64 xb4_4, .int .i64 xb5_4, .int .i64 xb6_4, .string xb7_45]) ?_ 4 _ rfl; (with_reducible repeat (first | refine YN ?_ _ | refine YD ?_ | refine YA ?_ _)); exact BK487.out⟩, ⟨by repeat (first | (with_reducible first | exact HB.out | apply XA | apply XN | apply XD | refine XS ?_ GE477.out | refine XS ?_ GE487.out) | exact HB.out)⟩⟩
              ·case rel => exact ⟨(wrap64 (x13_4 + 1)), (ji93), (xa0_4), (xa1_4), (xa2_4), (xa3_4), (xa4_4), (xa5_4), (xa6_4), (xa7_4), (xb1_4), (xb2_4), (t494), (xb4_4), (xb5_4), (xb6_4), sw, (by first | rfl | (simp; done) | (simp only [← hji93] <;> (first | rfl | simp)) | (simp [*]; done)), H', ⟨by have := HK1.out; have := HJ31.out; have := HJ45.out; have := HK4.out; omega⟩, ⟨by (with_reducible repeat (first | apply RA | apply RN | apply RD)); exact RM (RF (p := ⟨gb487, 3, none⟩) (Kd.R_types HO_4.out BK487.out (by decide)) (fun _ hk => hk.2) (.int .i64 t494)) (fun _ hk => trivial)⟩, ⟨by (with_reducible repeat (first | refine YN ?_ _ | refine YD ?_ | refine YA ?_ _)); refine blk_far ?_ NB477_487.out _; (with_reducible repeat (first | refine YN ?_ _ | refine YD ?_ | refine YA ?_ _)); exact BK477.out⟩, ⟨by (with_reducible repeat (first | refine YN ?_ _ | refine YD ?_ | refine YA ?_ _)); refine blk_put (cs := #[.int .i64 t485, .string xb1_4, .int .i64 xb2_4, .int .i64 xb3_4, .int .i64 xb4_4, .int .i64 xb5_4, .int .i64 xb6_4, .string xb7_45]) ?_ 3 _ rfl; (with_reducible repeat (first | refine YN ?_ _ | refine YD ?_ | refine YA ?_ _)); exact BK487.out⟩, ⟨by repeat (first | (with_reducible first | exact HB.out | apply XA | apply XN | apply XD | refine XS ?_ GE477.out | refine XS ?_ GE487.out) | exact HB.out)⟩⟩
              ·case rel => exact ⟨(wrap64 (x13_4 + 1)), (ji93), (xa0_4), (xa1_4), (xa2_4), (xa3_4), (xa4_4), (xa5_4), (xa6_4), (xa7_4), (xb1_4), (t494), (xb3_4), (xb4_4), (xb5_4), (xb6_4), sw, (by first | rfl | (simp; done) | (simp only [← hji93] <;> (first | rfl | simp)) | (simp [*]; done)), H', ⟨by have := HK1.out; have := HJ31.out; have := HJ45.out; have := HK4.out; omega⟩, ⟨by (with_reducible repeat (first | apply RA | apply RN | apply RD)); exact RM (RF (p := ⟨gb487, 2, none⟩) (Kd.R_types HO_4.out BK487.out (by decide)) (fun _ hk => hk.2) (.int .i64 t494)) (fun _ hk => trivial)⟩, ⟨by (with_reducible repeat (first | refine YN ?_ _ | refine YD ?_ | refine YA ?_ _)); refine blk_far ?_ NB477_487.out _; (with_reducible repeat (first | refine YN ?_ _ | refine YD ?_ | refine YA ?_ _)); exact BK477.out⟩, ⟨by (with_reducible repeat (first | refine YN ?_ _ | refine YD ?_ | refine YA ?_ _)); refine blk_put (cs := #[.int .i64 t485, .string xb1_4, .int .i64 xb2_4, .int .i64 xb3_4, .int .i64 xb4_4, .int .i64 xb5_4, .int .i64 xb6_4, .string xb7_45]) ?_ 2 _ rfl; (with_reducible repeat (first | refine YN ?_ _ | refine YD ?_ | refine YA ?_ _)); exact BK487.out⟩, ⟨by repeat (first | (with_reducible first | exact HB.out | apply XA | apply XN | apply XD | refine XS ?_ GE477.out | refine XS ?_ GE487.out) | exact HB.out)⟩⟩
              ·go_roundg k4
               case measure => have := HK1.out; have := HJ31.out; have := HJ45.out; have := HK4.out; omega
               case rel => exact ⟨(x13_4), (wrap64 (x14_4 + 1)), (xa0_4), (xa1_4), (xa2_4), (xa3_4), (xa4_4), (xa5_4), (xa6_4), (xa7_4), (xb1_4), (xb2_4), (xb3_4), (xb4_4), (xb5_4), (xb6_4), sw, sw, H', ⟨by have := HK1.out; have := HJ31.out; have := HJ45.out; have := HK4.out; omega⟩, ⟨by (with_reducible repeat (first | apply RA | apply RN | apply RD)); exact HO_4.out⟩, ⟨by (with_reducible repeat (first | refine YN ?_ _ | refine YD ?_ | refine YA ?_ _)); exact BK477.out⟩, ⟨by (with_reducible repeat (first | refine YN ?_ _ | refine YD ?_ | refine YA ?_ _)); exact BK487.out⟩, ⟨by repeat (first | (with_reducible first | exact HB.out | apply XA | apply XN | apply XD | refine XS ?_ GE477.out | refine XS ?_ GE487.out) | exact HB.out)⟩⟩
              ·go_wp2_with (first | ((with_reducible refine gate_callee (f := 14) rfl ?_); refine goesL_ (some 133) rfl rfl Tryz.func14 kr rfl #[.string (rdOf ByteArray.empty x4_1 (ji81))] rfl (by (try simp only [List.map_toArray, List.map_cons, List.map_nil]); first | done | (simp only [hji81]; rfl) | rfl | (simp only [List.length_drop, List.length_take]; rfl)) ?_; (with_reducible refine (qN.calls k4 (rdOf ByteArray.empty x4_1 (ji81)) _ _ A84.out).mono ?_); rintro e w' ⟨rfl, ⟨nd, rfl⟩⟩; refine ⟨_, rfl, ?_⟩; (try (rw [drewN_self wr]; generalize hq_ : World.drewN wr _ = wr; have n0_ : Aside0 (Kd.R Kd.string 9 wr w.heap.size (fun _ => True) (.slice (some ad484) x4_1.length co33) x4_1) := ⟨by rw [← hq_]; exact (ro HO_4.out)⟩; have n1_ : Aside0 (wr.heap[gb477]? = some (.cells #[.int .i64 xa0_4, .string xa1_4, .int .i64 xa2_4, .int .i64 xa3_4, .int .i64 xa4_4, .int .i64 xa5_4, .int .i64 xa6_4, .string xa7_4] 24 (0, 0))) := ⟨by rw [← hq_]; exact (bk BK477.out)⟩; have n2_ : Aside0 (wr.heap[gb487]? = some (.cells #[.int .i64 t485, .string xb1_4, .int .i64 xb2_4, .int .i64 xb3_4, .int .i64 xb4_4, .int .i64 xb5_4, .int .i64 xb6_4, .string xb7_45] 24 (0, 0))) := ⟨by rw [← hq_]; exact (bk BK487.out)⟩; have n3_ : Aside0 (Below w.heap.size w wr) := ⟨by rw [← hq_]; exact (be HB.out)⟩; clear HO_4 BK477 BK487 HB hq_; have HO_4 := n0_; have BK477 := n1_; have BK487 := n2_; have HB := n3_; clear n0_ n1_ n2_ n3_)); have hnb88 := NB477_487.out; have hnc88 := NB487_477.out; obtain ⟨hcz89_0, hcz89_1, hcz89_2, hcz89_3, hcz89_4, hcz89_5, hcz89_6, hcz89_7, hfz89_0, hfz89_1, hfz89_2, hfz89_3, hfz89_4, hfz89_5, hfz89_6, hfz89_7⟩ := cz8 BK477.out))
               refine bodyPost_ret (results_ct rfl _ _ gb477 24 zc17 (0, 0) _ rfl (by (with_reducible repeat (first | refine YN ?_ _ | refine YD ?_ | refine YA ?_ _)); refine blk_put (cs := #[.int .i64 0, .string (⟨#[]⟩ : ByteArray), .int .i64 0, .int .i64 0, .int .i64 0, .int .i64 0, .int .i64 0, .string xa7_4]) ?_ 7 _ rfl; (with_reducible repeat (first | refine YN ?_ _ | refine YD ?_ | refine YA ?_ _)); refine blk_put (cs := #[.int .i64 0, .string (⟨#[]⟩ : ByteArray), .int .i64 0, .int .i64 0, .int .i64 0, .int .i64 0, .int .i64 xa6_4, .string xa7_4]) ?_ 6 _ rfl; (with_reducible repeat (first | refine YN ?_ _ | refine YD ?_ | refine YA ?_ _)); refine blk_put (cs := #[.int .i64 0, .string (⟨#[]⟩ : ByteArray), .int .i64 0, .int .i64 0, .int .i64 0, .int .i64 xa5_4, .int .i64 xa6_4, .string xa7_4]) ?_ 5 _ rfl; (with_reducible repeat (first | refine YN ?_ _ | refine YD ?_ | refine YA ?_ _)); refine blk_put (cs := #[.int .i64 0, .string (⟨#[]⟩ : ByteArray), .int .i64 0, .int .i64 0, .int .i64 xa4_4, .int .i64 xa5_4, .int .i64 xa6_4, .string xa7_4]) ?_ 4 _ rfl; (with_reducible repeat (first | refine YN ?_ _ | refine YD ?_ | refine YA ?_ _)); refine blk_put (cs := #[.int .i64 0, .string (⟨#[]⟩ : ByteArray), .int .i64 0, .int .i64 xa3_4, .int .i64 xa4_4, .int .i64 xa5_4, .int .i64 xa6_4, .string xa7_4]) ?_ 3 _ rfl; (with_reducible repeat (first | refine YN ?_ _ | refine YD ?_ | refine YA ?_ _)); refine blk_put (cs := #[.int .i64 0, .string (⟨#[]⟩ : ByteArray), .int .i64 xa2_4, .int .i64 xa3_4, .int .i64 xa4_4, .int .i64 xa5_4, .int .i64 xa6_4, .string xa7_4]) ?_ 2 _ rfl; apply blk_to; (iterate 2 ((with_reducible repeat (first | refine YN ?_ _ | refine YD ?_ | refine YA ?_ _)); apply blk_set)); (with_reducible repeat (first | refine YN ?_ _ | refine YD ?_ | refine YA ?_ _)); exact BK477.out; simp only [z0,z1,z2]) Tryz.underlying24 rfl kr) rfl ?_;exact ⟨by first | rfl | (simp [errW_none, errW_some] <;> rfl) | (simp only [← hji42, ← hji81]; first | rfl | (simp [errW_none, errW_some] <;> rfl)) | (simp [*, errW_none, errW_some] <;> rfl), by repeat (first | (with_reducible first | exact HB.out | apply XA | apply XN | apply XD | refine XS ?_ GE477.out | refine XS ?_ GE487.out) | exact HB.out)⟩
              ·go_wp2_with (first | ((with_reducible refine gate_callee (f := 14) rfl ?_); refine goesL_ (some 133) rfl rfl Tryz.func14 kr rfl #[.string (rdOf ByteArray.empty x4_1 (ji81))] rfl (by (try simp only [List.map_toArray, List.map_cons, List.map_nil]); first | done | (simp only [hji81]; rfl) | rfl | (simp only [List.length_drop, List.length_take]; rfl)) ?_; (with_reducible refine (qN.calls k4 (rdOf ByteArray.empty x4_1 (ji81)) _ _ A84.out).mono ?_); rintro e w' ⟨rfl, ⟨nd, rfl⟩⟩; refine ⟨_, rfl, ?_⟩; (try (rw [drewN_self wr]; generalize hq_ : World.drewN wr _ = wr; have n0_ : Aside0 (Kd.R Kd.string 9 wr w.heap.size (fun _ => True) (.slice (some ad484) x4_1.length co33) x4_1) := ⟨by rw [← hq_]; exact (ro HO_4.out)⟩; have n1_ : Aside0 (wr.heap[gb477]? = some (.cells #[.int .i64 xa0_4, .string xa1_4, .int .i64 xa2_4, .int .i64 xa3_4, .int .i64 xa4_4, .int .i64 xa5_4, .int .i64 xa6_4, .string xa7_4] 24 (0, 0))) := ⟨by rw [← hq_]; exact (bk BK477.out)⟩; have n2_ : Aside0 (wr.heap[gb487]? = some (.cells #[.int .i64 t485, .string xb1_4, .int .i64 xb2_4, .int .i64 xb3_4, .int .i64 xb4_4, .int .i64 xb5_4, .int .i64 xb6_4, .string xb7_45] 24 (0, 0))) := ⟨by rw [← hq_]; exact (bk BK487.out)⟩; have n3_ : Aside0 (Below w.heap.size w wr) := ⟨by rw [← hq_]; exact (be HB.out)⟩; clear HO_4 BK477 BK487 HB hq_; have HO_4 := n0_; have BK477 := n1_; have BK487 := n2_; have HB := n3_; clear n0_ n1_ n2_ n3_)); have p492 : 0 ≤ ((ji81) : Int) := dT hy; have q492 : (ji81) < (x4_1.length : Int) := dT hy; obtain ⟨ad492, e492, hx492_0⟩ := Kd.at_string (RR HO_4.out).2.2 (ji81) p492 q492; obtain rfl : ad484 = ad492 := (by injection e492); replace p492 := eq_true p492; replace q492 := eq_true q492; have hnb86 := NB487_477.out; have hnc86 := NB477_487.out; obtain ⟨hcz87_0, hcz87_1, hcz87_2, hcz87_3, hcz87_4, hcz87_5, hcz87_6, hcz87_7, hfz87_0, hfz87_1, hfz87_2, hfz87_3, hfz87_4, hfz87_5, hfz87_6, hfz87_7⟩ := cz8 BK487.out))
               go_roundg k4
               case measure => have := HK1.out; have := HJ31.out; have := HJ45.out; have := HK4.out; omega
               case rel => exact ⟨(x13_4), (ji81), (xa0_4), (xa1_4), (xa2_4), (xa3_4), (xa4_4), (xa5_4), (xa6_4), (xa7_4), (rdOf ByteArray.empty x4_1 (ji81)), (xb2_4), (xb3_4), (xb4_4), (xb5_4), (xb6_4), sw, (by first | rfl | (simp; done) | (simp only [← hji81] <;> (first | rfl | simp)) | (simp [*]; done)), H', ⟨by have := HK1.out; have := HJ31.out; have := HJ45.out; have := HK4.out; omega⟩, ⟨by (with_reducible repeat (first | apply RA | apply RN | apply RD)); exact RM (RF (p := ⟨gb487, 1, none⟩) (Kd.R_types HO_4.out BK487.out (by decide)) (fun _ hk => hk.2) (.string (rdOf ByteArray.empty x4_1 (ji81)))) (fun _ hk => trivial)⟩, ⟨by (with_reducible repeat (first | refine YN ?_ _ | refine YD ?_ | refine YA ?_ _)); refine blk_far ?_ NB477_487.out _; (with_reducible repeat (first | refine YN ?_ _ | refine YD ?_ | refine YA ?_ _)); exact BK477.out⟩, ⟨by (with_reducible repeat (first | refine YN ?_ _ | refine YD ?_ | refine YA ?_ _)); refine blk_put (cs := #[.int .i64 t485, .string xb1_4, .int .i64 xb2_4, .int .i64 xb3_4, .int .i64 xb4_4, .int .i64 xb5_4, .int .i64 xb6_4, .string xb7_45]) ?_ 1 _ rfl; (with_reducible repeat (first | refine YN ?_ _ | refine YD ?_ | refine YA ?_ _)); exact BK487.out⟩, ⟨by repeat (first | (with_reducible first | exact HB.out | apply XA | apply XN | apply XD | refine XS ?_ GE477.out | refine XS ?_ GE487.out) | exact HB.out)⟩⟩
         ·rw [if_neg c44] at H;exact absurd H (by simp)
        ·rw [if_neg c43] at H;exact absurd H (by simp)
    ·go_wp2
     go_roundg k1
     case measure => have := HK1.out; omega
     case rel => exact ⟨(x4_1), (x5_1), (wrap64 (x6_1 + 1)), sw, sw, H', ⟨by have := HK1.out; omega⟩, ⟨by (with_reducible repeat (first | apply RA | apply RN | apply RD)); exact HO_4.out⟩, ⟨by (with_reducible repeat (first | refine YN ?_ _ | refine YD ?_ | refine YA ?_ _)); exact BK477.out⟩, ⟨by repeat (first | (with_reducible first | exact HB.out | apply XA | apply XN | apply XD | refine XS ?_ GE477.out) | exact HB.out)⟩⟩

end Go.Proofs.YtdakfmldbddokaaGreatDoor.P
-- SHRUNK
-- PACKED
-- PACKED2
