-- written by myprint.py (this claim's own program, after the kit's print)
import Derived.Test.YtdakfmldbddokaaGreatDoorCmEq5
import Derived.Test.YtdakfmldbddokaaGreatDoorPx0
import Derived.Test.YtdakfmldbddokaaGreatDoorPx12
import Derived.Test.YtdakfmldbddokaaGreatDoorPx17
import Derived.Test.YtdakfmldbddokaaGreatDoorPx19
import Derived.Test.YtdakfmldbddokaaGreatDoorPack
namespace Go.Proofs.YtdakfmldbddokaaGreatDoor.P
open Go.RowKit Go.Proofs.YtdakfmldbddokaaGreatDoorW.PrintWords Go.Proofs.YtdakfmldbddokaaGreatDoorW.PrintLast Go.Proofs.YtdakfmldbddokaaGreatDoorW.PrintMore
attribute [local go_sem] max2_int min2_int max_two min_two max_three min_three max_four min_four   -- for this text's walks alone
set_option linter.unusedVariables false
set_option linter.unusedSimpArgs false
attribute [local go_sem] arr5_eq

/-! ### qT: function 15 -/
mutual
def qT.j0 : Nat → List ByteArray → Bool → Int → ByteArray → Int → Int → Int → Int → Int → ByteArray → Option (ByteArray × Bool)
 | 0, _, _, _, _, _, _, _, _, _, _ => none
 | k + 1, x4, x22, xa, xb, xc, xd, xe, xf, xg, xh => if x22 = true then (some ((⟨#[]⟩ : ByteArray), false)) else (if 0 ≤ (wrap64 (xa - 1)) then (if (wrap64 (xa - 1)) < (x4.length : Int) then ((qS.f k (rdOf ByteArray.empty x4 (wrap64 (xa - 1)))).bind fun bt552 => (qT.l0 k (rdOf ByteArray.empty x4 (wrap64 (xa - 1))) bt552.2 0 0 xa xb xc xd xe xf xg xh)) else (none)) else (none))
def qT.l0 : Nat → ByteArray → ByteArray → Int → Int → Int → ByteArray → Int → Int → Int → Int → Int → ByteArray → Option (ByteArray × Bool)
 | 0, _, _, _, _, _, _, _, _, _, _, _, _ => none
 | k + 1, x5, x7, x8, x9, xa, xb, xc, xd, xe, xf, xg, xh => if x9 < (x7.size : Int) then (if 0 ≤ x9 then (if (bt x7 x9) = 111 then (if x5.size + 1 ≤ 9223372036854775807 then (if (x5 ++ (⟨#[59]⟩ : ByteArray)).size + xb.size ≤ 9223372036854775807 then (qT.l0 k ((x5 ++ (⟨#[59]⟩ : ByteArray)) ++ xb) x7 x8 (wrap64 (x9 + 1)) xa xb xc xd xe xf xg xh) else (none)) else (none)) else (if (bt x7 x9) = 116 then (if x5.size + 1 ≤ 9223372036854775807 then (if (x5 ++ (⟨#[59]⟩ : ByteArray)).size + xh.size ≤ 9223372036854775807 then (qT.l0 k ((x5 ++ (⟨#[59]⟩ : ByteArray)) ++ xh) x7 x8 (wrap64 (x9 + 1)) xa xb xc xd xe xf xg xh) else (none)) else (none)) else (if (bt x7 x9) = 98 then (if x8 = (0 : Int) then ((vL.f k xc (⟨#[97, 99, 102]⟩ : ByteArray)).bind fun bt564 => (if bt564.2 = 0 then (if x5.size + 1 ≤ 9223372036854775807 then (if (x5 ++ (⟨#[59]⟩ : ByteArray)).size + bt564.1.size ≤ 9223372036854775807 then (qT.l0 k ((x5 ++ (⟨#[59]⟩ : ByteArray)) ++ bt564.1) x7 (wrap64 (x8 + 1)) (wrap64 (x9 + 1)) xa xb xc xd xe xf xg xh) else (none)) else (none)) else (some ((⟨#[]⟩ : ByteArray), false)))) else (if x8 = (1 : Int) then ((vL.f k xd (⟨#[97, 99, 102]⟩ : ByteArray)).bind fun bt566 => (if bt566.2 = 0 then (if x5.size + 1 ≤ 9223372036854775807 then (if (x5 ++ (⟨#[59]⟩ : ByteArray)).size + bt566.1.size ≤ 9223372036854775807 then (qT.l0 k ((x5 ++ (⟨#[59]⟩ : ByteArray)) ++ bt566.1) x7 (wrap64 (x8 + 1)) (wrap64 (x9 + 1)) xa xb xc xd xe xf xg xh) else (none)) else (none)) else (some ((⟨#[]⟩ : ByteArray), false)))) else (if x8 = (2 : Int) then ((vL.f k xe (⟨#[97, 99, 102]⟩ : ByteArray)).bind fun bt568 => (if bt568.2 = 0 then (if x5.size + 1 ≤ 9223372036854775807 then (if (x5 ++ (⟨#[59]⟩ : ByteArray)).size + bt568.1.size ≤ 9223372036854775807 then (qT.l0 k ((x5 ++ (⟨#[59]⟩ : ByteArray)) ++ bt568.1) x7 (wrap64 (x8 + 1)) (wrap64 (x9 + 1)) xa xb xc xd xe xf xg xh) else (none)) else (none)) else (some ((⟨#[]⟩ : ByteArray), false)))) else (if x8 = (3 : Int) then ((vL.f k xf (⟨#[97, 99, 102]⟩ : ByteArray)).bind fun bt570 => (if bt570.2 = 0 then (if x5.size + 1 ≤ 9223372036854775807 then (if (x5 ++ (⟨#[59]⟩ : ByteArray)).size + bt570.1.size ≤ 9223372036854775807 then (qT.l0 k ((x5 ++ (⟨#[59]⟩ : ByteArray)) ++ bt570.1) x7 (wrap64 (x8 + 1)) (wrap64 (x9 + 1)) xa xb xc xd xe xf xg xh) else (none)) else (none)) else (some ((⟨#[]⟩ : ByteArray), false)))) else (if x8 = (4 : Int) then ((vL.f k xg (⟨#[97, 99, 102]⟩ : ByteArray)).bind fun bt572 => (if bt572.2 = 0 then (if x5.size + 1 ≤ 9223372036854775807 then (if (x5 ++ (⟨#[59]⟩ : ByteArray)).size + bt572.1.size ≤ 9223372036854775807 then (qT.l0 k ((x5 ++ (⟨#[59]⟩ : ByteArray)) ++ bt572.1) x7 (wrap64 (x8 + 1)) (wrap64 (x9 + 1)) xa xb xc xd xe xf xg xh) else (none)) else (none)) else (some ((⟨#[]⟩ : ByteArray), false)))) else (none)))))) else (if x5.size + 1 ≤ 9223372036854775807 then (if x8 = (0 : Int) then ((qd.f k xc).bind fun t574 => (if (x5 ++ (⟨#[59]⟩ : ByteArray)).size + t574.size ≤ 9223372036854775807 then (qT.l0 k ((x5 ++ (⟨#[59]⟩ : ByteArray)) ++ t574) x7 (wrap64 (x8 + 1)) (wrap64 (x9 + 1)) xa xb xc xd xe xf xg xh) else (none))) else (if x8 = (1 : Int) then ((qd.f k xd).bind fun t575 => (if (x5 ++ (⟨#[59]⟩ : ByteArray)).size + t575.size ≤ 9223372036854775807 then (qT.l0 k ((x5 ++ (⟨#[59]⟩ : ByteArray)) ++ t575) x7 (wrap64 (x8 + 1)) (wrap64 (x9 + 1)) xa xb xc xd xe xf xg xh) else (none))) else (if x8 = (2 : Int) then ((qd.f k xe).bind fun t576 => (if (x5 ++ (⟨#[59]⟩ : ByteArray)).size + t576.size ≤ 9223372036854775807 then (qT.l0 k ((x5 ++ (⟨#[59]⟩ : ByteArray)) ++ t576) x7 (wrap64 (x8 + 1)) (wrap64 (x9 + 1)) xa xb xc xd xe xf xg xh) else (none))) else (if x8 = (3 : Int) then ((qd.f k xf).bind fun t577 => (if (x5 ++ (⟨#[59]⟩ : ByteArray)).size + t577.size ≤ 9223372036854775807 then (qT.l0 k ((x5 ++ (⟨#[59]⟩ : ByteArray)) ++ t577) x7 (wrap64 (x8 + 1)) (wrap64 (x9 + 1)) xa xb xc xd xe xf xg xh) else (none))) else (if x8 = (4 : Int) then ((qd.f k xg).bind fun t578 => (if (x5 ++ (⟨#[59]⟩ : ByteArray)).size + t578.size ≤ 9223372036854775807 then (qT.l0 k ((x5 ++ (⟨#[59]⟩ : ByteArray)) ++ t578) x7 (wrap64 (x8 + 1)) (wrap64 (x9 + 1)) xa xb xc xd xe xf xg xh) else (none))) else (none)))))) else (none))))) else (none)) else ((qP.f k x5).bind fun bt554 => (if bt554.2.2.2.2.2.2.2.2 = 0 then (if bt554.1 = xa then (if bt554.2.1.toList = xb.toList then (if bt554.2.2.1 = xc then (if bt554.2.2.2.1 = xd then (if bt554.2.2.2.2.1 = xe then (if bt554.2.2.2.2.2.1 = xf then (if bt554.2.2.2.2.2.2.1 = xg then (if bt554.2.2.2.2.2.2.2.1.toList = xh.toList then (some (x5, true)) else (some ((⟨#[]⟩ : ByteArray), false))) else (some ((⟨#[]⟩ : ByteArray), false))) else (some ((⟨#[]⟩ : ByteArray), false))) else (some ((⟨#[]⟩ : ByteArray), false))) else (some ((⟨#[]⟩ : ByteArray), false))) else (some ((⟨#[]⟩ : ByteArray), false))) else (some ((⟨#[]⟩ : ByteArray), false))) else (some ((⟨#[]⟩ : ByteArray), false))) else (some ((⟨#[]⟩ : ByteArray), false))))
end
def qT.f (k : Nat) (a0_0 : Int) (a0_1 : ByteArray) (a0_2 : Int) (a0_3 : Int) (a0_4 : Int) (a0_5 : Int) (a0_6 : Int) (a0_7 : ByteArray) : Option (ByteArray × Bool) := (some (([(⟨#[100, 111, 119, 110]⟩ : ByteArray), (⟨#[117, 110, 100, 111, 119, 110]⟩ : ByteArray), (⟨#[97, 99, 107]⟩ : ByteArray), (⟨#[117, 110, 97, 99, 107]⟩ : ByteArray), (⟨#[101, 110, 97, 98, 108, 101]⟩ : ByteArray), (⟨#[100, 105, 115, 97, 98, 108, 101]⟩ : ByteArray), (⟨#[99, 104, 101, 99, 107]⟩ : ByteArray), (⟨#[114, 101, 115, 117, 108, 116]⟩ : ByteArray), (⟨#[116, 101, 108, 108]⟩ : ByteArray)] : List ByteArray) : List ByteArray)).bind fun y548 => (if a0_0 < 1 then (qT.j0 k y548 true a0_0 a0_1 a0_2 a0_3 a0_4 a0_5 a0_6 a0_7) else (qT.j0 k y548 (decide (a0_0 > 9)) a0_0 a0_1 a0_2 a0_3 a0_4 a0_5 a0_6 a0_7))
theorem qT.mono_l : ∀ k, (∀ y0 y1 y2 y3 y4 y5 y6 y7 y8 y9, LeO (qT.j0 k y0 y1 y2 y3 y4 y5 y6 y7 y8 y9) (qT.j0 (k + 1) y0 y1 y2 y3 y4 y5 y6 y7 y8 y9)) ∧ (∀ y0 y1 y2 y3 y4 y5 y6 y7 y8 y9 y10 y11, LeO (qT.l0 k y0 y1 y2 y3 y4 y5 y6 y7 y8 y9 y10 y11) (qT.l0 (k + 1) y0 y1 y2 y3 y4 y5 y6 y7 y8 y9 y10 y11))
 | 0 => ⟨fun _ _ _ _ _ _ _ _ _ _ r h => by simp [qT.j0] at h, fun _ _ _ _ _ _ _ _ _ _ _ _ r h => by simp [qT.l0] at h⟩
 | k + 1 => by
  obtain ⟨ih0, ih1⟩ := qT.mono_l k;refine ⟨?_, ?_⟩
  ·intro y0 y1 y2 y3 y4 y5 y6 y7 y8 y9;unfold qT.j0
   repeat' (with_reducible first|apply ih0|apply ih1|apply vL.mono|apply qP.mono|apply qd.mono|apply qS.mono|apply LeO.refl|apply LeO.none|refine LeO.ite ?_ ?_|refine LeO.bind ?_ (fun _=>?_))
  ·intro y0 y1 y2 y3 y4 y5 y6 y7 y8 y9 y10 y11;unfold qT.l0
   repeat' (with_reducible first|apply ih0|apply ih1|apply vL.mono|apply qP.mono|apply qd.mono|apply qS.mono|apply LeO.refl|apply LeO.none|refine LeO.ite ?_ ?_|refine LeO.bind ?_ (fun _=>?_))
theorem qT.mono : ∀ a0 a1 a2 a3 a4 a5 a6 a7 k, LeO (qT.f k a0 a1 a2 a3 a4 a5 a6 a7) (qT.f (k + 1) a0 a1 a2 a3 a4 a5 a6 a7) := by
 intro a0 a1 a2 a3 a4 a5 a6 a7 k;obtain ⟨ih0, ih1⟩ := qT.mono_l k;unfold qT.f
 repeat' (with_reducible first|apply ih0|apply ih1|apply vL.mono|apply qP.mono|apply qd.mono|apply qS.mono|apply LeO.refl|apply LeO.none|refine LeO.ite ?_ ?_|refine LeO.bind ?_ (fun _=>?_))
set_option maxHeartbeats 8000000 in
set_option maxRecDepth 100000 in
theorem qT.calls (k : Nat) (a0_0 : Int) (a0_1 : ByteArray) (a0_2 : Int) (a0_3 : Int) (a0_4 : Int) (a0_5 : Int) (a0_6 : Int) (a0_7 : ByteArray) (r1 : ByteArray) (r2 : Bool) (w : World) (h : qT.f k a0_0 a0_1 a0_2 a0_3 a0_4 a0_5 a0_6 a0_7 = some (r1, r2)) :
  Calls Tryz.prog 15 #[.agg #[.int .i64 a0_0, .string a0_1, .int .i64 a0_2, .int .i64 a0_3, .int .i64 a0_4, .int .i64 a0_5, .int .i64 a0_6, .string a0_7]] w fun e w' => e = .returned (.tuple #[.string r1, .bool r2]) ∧ Below w.heap.size w w' := by
 have hu24 := Tryz.underlying24;have HB := As (Below.refl w.heap.size w);have H : ((some (([(⟨#[100, 111, 119, 110]⟩ : ByteArray), (⟨#[117, 110, 100, 111, 119, 110]⟩ : ByteArray), (⟨#[97, 99, 107]⟩ : ByteArray), (⟨#[117, 110, 97, 99, 107]⟩ : ByteArray), (⟨#[101, 110, 97, 98, 108, 101]⟩ : ByteArray), (⟨#[100, 105, 115, 97, 98, 108, 101]⟩ : ByteArray), (⟨#[99, 104, 101, 99, 107]⟩ : ByteArray), (⟨#[114, 101, 115, 117, 108, 116]⟩ : ByteArray), (⟨#[116, 101, 108, 108]⟩ : ByteArray)] : List ByteArray) : List ByteArray)).bind fun y548 => (if a0_0 < 1 then (qT.j0 k y548 true a0_0 a0_1 a0_2 a0_3 a0_4 a0_5 a0_6 a0_7) else (qT.j0 k y548 (decide (a0_0 > 9)) a0_0 a0_1 a0_2 a0_3 a0_4 a0_5 a0_6 a0_7))) = some (r1, r2) := h;clear h
 obtain ⟨y548, hy548⟩ : ∃ y_ : List ByteArray, y_ = (([(⟨#[100, 111, 119, 110]⟩ : ByteArray), (⟨#[117, 110, 100, 111, 119, 110]⟩ : ByteArray), (⟨#[97, 99, 107]⟩ : ByteArray), (⟨#[117, 110, 97, 99, 107]⟩ : ByteArray), (⟨#[101, 110, 97, 98, 108, 101]⟩ : ByteArray), (⟨#[100, 105, 115, 97, 98, 108, 101]⟩ : ByteArray), (⟨#[99, 104, 101, 99, 107]⟩ : ByteArray), (⟨#[114, 101, 115, 117, 108, 116]⟩ : ByteArray), (⟨#[116, 101, 108, 108]⟩ : ByteArray)] : List ByteArray)) := ⟨_, rfl⟩
 replace H : (if a0_0 < 1 then (qT.j0 k y548 true a0_0 a0_1 a0_2 a0_3 a0_4 a0_5 a0_6 a0_7) else (qT.j0 k y548 (decide (a0_0 > 9)) a0_0 a0_1 a0_2 a0_3 a0_4 a0_5 a0_6 a0_7)) = some (r1, r2) := by first | (rw [hy548]; with_reducible exact H) | (have H2_ := (Option.bind_some _ _).symm.trans H; rw [hy548]; with_reducible exact H2_) | (have H2_ := (Option.bind_some _ _).symm.trans H; with_reducible exact H2_) | with_reducible exact H | (rw [hy548]; exact H) | exact H
 have Ny548 := As hy548;clear hy548;have HC2 := As H;clear H
 go_enter Tryz.func15, Tryz.ntmps15
 go_upto_region 2 with (first | ((with_reducible refine gate_dst (N := 1) rfl ?_); refine box_event ?hg (N := 1) ?hd (cs := #[.int .i64 a0_0, .string a0_1, .int .i64 a0_2, .int .i64 a0_3, .int .i64 a0_4, .int .i64 a0_5, .int .i64 a0_6, .string a0_7]) (t := 24) ?hr ?_; (case hd => rfl); (case hg => rfl); (case hr => first | (go_simp; done) | (go_simp; rfl)); intro gb547 hg w3 hbox hb; have BK547 := As (hbox); have GW547 := As ((gz hg (be HB.out) : w.heap.size ≤ gb547)); have GE547 := As ((gz hg (be HB.out) : w.heap.size ≤ gb547)); replace HB := As (XT (be HB.out) hb); clear hb hbox hg) | ((with_reducible refine gate_dst (N := 14) rfl ?_); refine Kd.R_lit Kd.string _ 9 ?hg (N := 14) ?hd (xs := ([(⟨#[100, 111, 119, 110]⟩ : ByteArray), (⟨#[117, 110, 100, 111, 119, 110]⟩ : ByteArray), (⟨#[97, 99, 107]⟩ : ByteArray), (⟨#[117, 110, 97, 99, 107]⟩ : ByteArray), (⟨#[101, 110, 97, 98, 108, 101]⟩ : ByteArray), (⟨#[100, 105, 115, 97, 98, 108, 101]⟩ : ByteArray), (⟨#[99, 104, 101, 99, 107]⟩ : ByteArray), (⟨#[114, 101, 115, 117, 108, 116]⟩ : ByteArray), (⟨#[116, 101, 108, 108]⟩ : ByteArray)] : List ByteArray)) (inner := [.string (⟨#[100, 111, 119, 110]⟩ : ByteArray), .string (⟨#[117, 110, 100, 111, 119, 110]⟩ : ByteArray), .string (⟨#[97, 99, 107]⟩ : ByteArray), .string (⟨#[117, 110, 97, 99, 107]⟩ : ByteArray), .string (⟨#[101, 110, 97, 98, 108, 101]⟩ : ByteArray), .string (⟨#[100, 105, 115, 97, 98, 108, 101]⟩ : ByteArray), .string (⟨#[99, 104, 101, 99, 107]⟩ : ByteArray), .string (⟨#[114, 101, 115, 117, 108, 116]⟩ : ByteArray), .string (⟨#[116, 101, 108, 108]⟩ : ByteArray)]) (ok := fun _ => True) (okp := fun _ => True) ?hr ?hp (fun _ hk => hk) trivial (Below.refl _ _) (Nat.le_refl _) (by simp) ?_; (case hd => rfl); (case hg => rfl); (case hr => first | (go_simp; done) | (go_simp; rfl)); (case hp => exact (Reps.one (show Kd.M Kd.string _ _ _ (⟨#[100, 111, 119, 110]⟩ : ByteArray) [.string (⟨#[100, 111, 119, 110]⟩ : ByteArray)] from rfl) (Reps.one (show Kd.M Kd.string _ _ _ (⟨#[117, 110, 100, 111, 119, 110]⟩ : ByteArray) [.string (⟨#[117, 110, 100, 111, 119, 110]⟩ : ByteArray)] from rfl) (Reps.one (show Kd.M Kd.string _ _ _ (⟨#[97, 99, 107]⟩ : ByteArray) [.string (⟨#[97, 99, 107]⟩ : ByteArray)] from rfl) (Reps.one (show Kd.M Kd.string _ _ _ (⟨#[117, 110, 97, 99, 107]⟩ : ByteArray) [.string (⟨#[117, 110, 97, 99, 107]⟩ : ByteArray)] from rfl) (Reps.one (show Kd.M Kd.string _ _ _ (⟨#[101, 110, 97, 98, 108, 101]⟩ : ByteArray) [.string (⟨#[101, 110, 97, 98, 108, 101]⟩ : ByteArray)] from rfl) (Reps.one (show Kd.M Kd.string _ _ _ (⟨#[100, 105, 115, 97, 98, 108, 101]⟩ : ByteArray) [.string (⟨#[100, 105, 115, 97, 98, 108, 101]⟩ : ByteArray)] from rfl) (Reps.one (show Kd.M Kd.string _ _ _ (⟨#[99, 104, 101, 99, 107]⟩ : ByteArray) [.string (⟨#[99, 104, 101, 99, 107]⟩ : ByteArray)] from rfl) (Reps.one (show Kd.M Kd.string _ _ _ (⟨#[114, 101, 115, 117, 108, 116]⟩ : ByteArray) [.string (⟨#[114, 101, 115, 117, 108, 116]⟩ : ByteArray)] from rfl) (Reps.one (show Kd.M Kd.string _ _ _ (⟨#[116, 101, 108, 108]⟩ : ByteArray) [.string (⟨#[116, 101, 108, 108]⟩ : ByteArray)] from rfl) (Reps.none _ _))))))))))); intro v549 w4 ho5 hb hg_ hnew_; clear hg_ hnew_; (first | rw [← Ny548.out] at ho5 | (simp only [Int.reduceToNat] at ho5; rw [← Ny548.out] at ho5)); have HO550 := As (Kd.R_lower ho5 (XZ (be HB.out))); replace BK547 := As (YB (g := gb547) (o := .cells #[.int .i64 a0_0, .string a0_1, .int .i64 a0_2, .int .i64 a0_3, .int .i64 a0_4, .int .i64 a0_5, .int .i64 a0_6, .string a0_7] 24 (0, 0)) (bk BK547.out) hb); replace HB := As (XT (be HB.out) hb); clear hb ho5))
 (try simp only [Act.put, List.setIfInBounds_toArray, List.set_cons_zero, List.set_cons_succ])
 go_cut [22] (fun v22 wc => ∃ (kq : Nat) (x22_1 : Bool), v22 = .bool x22_1 ∧ Aside0 (qT.j0 kq y548 x22_1 a0_0 a0_1 a0_2 a0_3 a0_4 a0_5 a0_6 a0_7 = some (r1, r2)) ∧ Aside0 (kq ≤ k) ∧ Aside0 (Kd.R Kd.string 9 wc w.heap.size (fun _ => True) v549 y548) ∧ Aside0 (wc.heap[gb547]? = some (.cells #[.int .i64 a0_0, .string a0_1, .int .i64 a0_2, .int .i64 a0_3, .int .i64 a0_4, .int .i64 a0_5, .int .i64 a0_6, .string a0_7] 24 (0, 0))) ∧ Aside0 (Below w.heap.size w wc))
 case first =>
  have H := HC2.out;clear HC2
  by_cases c6 : a0_0 < 1
  ·rw [if_pos c6] at H;have c6b0 : decide (a0_0 < 1) = true := dY c6;clear c6
   (first | rw [c6b0] | (simp only [i64_w, i32_w]; rw [c6b0]) | skip)
   have H' := As H;clear H;obtain ⟨hcz7_0, hcz7_1, hcz7_2, hcz7_3, hcz7_4, hcz7_5, hcz7_6, hcz7_7, hfz7_0, hfz7_1, hfz7_2, hfz7_3, hfz7_4, hfz7_5, hfz7_6, hfz7_7⟩ := cz8 BK547.out
   go_wp2
   go_meet
   case rel => exact ⟨_, (true), sw, H', ⟨by first | omega | exact Nat.le_refl _⟩, ⟨by (with_reducible repeat (first | apply RA | apply RN | apply RD)); exact HO550.out⟩, ⟨by (with_reducible repeat (first | refine YN ?_ _ | refine YD ?_ | refine YA ?_ _)); exact BK547.out⟩, ⟨by repeat (first | (with_reducible first | exact HB.out | apply XA | apply XN | apply XD | refine XS ?_ GE547.out) | exact HB.out)⟩⟩
  ·rw [if_neg c6] at H;have c6b0 : decide (a0_0 < 1) = false := dN c6;clear c6
   (first | rw [c6b0] | (simp only [i64_w, i32_w]; rw [c6b0]) | skip)
   have H' := As H;clear H;obtain ⟨hcz8_0, hcz8_1, hcz8_2, hcz8_3, hcz8_4, hcz8_5, hcz8_6, hcz8_7, hfz8_0, hfz8_1, hfz8_2, hfz8_3, hfz8_4, hfz8_5, hfz8_6, hfz8_7⟩ := cz8 BK547.out
   go_wp2
   go_meet
   case rel => exact ⟨_, (decide (a0_0 > 9)), sw, H', ⟨by first | omega | exact Nat.le_refl _⟩, ⟨by (with_reducible repeat (first | apply RA | apply RN | apply RD)); exact HO550.out⟩, ⟨by (with_reducible repeat (first | refine YN ?_ _ | refine YD ?_ | refine YA ?_ _)); exact BK547.out⟩, ⟨by repeat (first | (with_reducible first | exact HB.out | apply XA | apply XN | apply XD | refine XS ?_ GE547.out) | exact HB.out)⟩⟩
 case rest =>
  clear HC2
  try clear c1
  try clear p2
  try clear c6
  try clear c6b0
  try clear p6
  try clear hcz7_0 hcz7_1 hcz7_2 hcz7_3 hcz7_4 hcz7_5 hcz7_6 hcz7_7
  try clear hcz8_0 hcz8_1 hcz8_2 hcz8_3 hcz8_4 hcz8_5 hcz8_6 hcz8_7
  try clear hfz7_0 hfz7_1 hfz7_2 hfz7_3 hfz7_4 hfz7_5 hfz7_6 hfz7_7
  try clear hfz8_0 hfz8_1 hfz8_2 hfz8_3 hfz8_4 hfz8_5 hfz8_6 hfz8_7
  obtain ⟨kq, x22_1, rfl, HA, HJ1, HO_4, BK547, HB⟩ := hcut
  cases kq with
  | zero => exact absurd HA.out (by simp [qT.j0])
  | succ kj1 =>
   have H := HA.out;clear HA;simp only [qT.j0] at H
   by_cases c9 : x22_1 = true
   ·subst c9
    have H1 : (some ((⟨#[]⟩ : ByteArray), false)) = some (r1, r2) := by rw [if_pos rfl] at H; exact H
    clear H;have H := H1;clear H1;simp only [Option.some.injEq, Prod.mk.injEq] at H;obtain ⟨rfl, rfl⟩ := H
    go_wp2
    go_ret2
    exact ⟨by first | rfl | (simp [errW_none, errW_some] <;> rfl) | (simp [*, errW_none, errW_some] <;> rfl), by repeat (first | (with_reducible first | exact HB.out | apply XA | apply XN | apply XD | refine XS ?_ GE547.out) | exact HB.out)⟩
   ·replace c9 := Bool.eq_false_iff.mpr c9;subst c9
    have H1 : (if 0 ≤ (wrap64 (a0_0 - 1)) then (if (wrap64 (a0_0 - 1)) < (y548.length : Int) then ((qS.f kj1 (rdOf ByteArray.empty y548 (wrap64 (a0_0 - 1)))).bind fun bt552 => (qT.l0 kj1 (rdOf ByteArray.empty y548 (wrap64 (a0_0 - 1))) bt552.2 0 0 a0_0 a0_1 a0_2 a0_3 a0_4 a0_5 a0_6 a0_7)) else (none)) else (none)) = some (r1, r2) := by rw [if_neg (show ¬ (false = true) by decide)] at H; exact H
    clear H;have H := H1;clear H1
    obtain ⟨ji10, hji10⟩ : ∃ j_ : Int, (wrap64 (a0_0 - 1)) = j_ := ⟨_, rfl⟩
    replace H : (if 0 ≤ (ji10) then (if (ji10) < (y548.length : Int) then ((qS.f kj1 (rdOf ByteArray.empty y548 (ji10))).bind fun bt552 => (qT.l0 kj1 (rdOf ByteArray.empty y548 (ji10)) bt552.2 0 0 a0_0 a0_1 a0_2 a0_3 a0_4 a0_5 a0_6 a0_7)) else (none)) else (none)) = some (r1, r2) := by first | (rw [hji10] at H; exact H) | (simp only [hji10] at H ⊢; exact H)
    have hji10w : (IntKind.i64.wrap (a0_0 - 1)) = ji10 := (i64_w _).trans hji10
    by_cases c11 : 0 ≤ (ji10)
    ·rw [if_pos c11] at H;have c11b0 : decide (0 ≤ (ji10)) = true := dY c11;clear c11
     by_cases c12 : (ji10) < (y548.length : Int)
     ·rw [if_pos c12] at H;have c12b0 : decide ((ji10) < (y548.length : Int)) = true := dY c12;clear c12;replace H := bE H;obtain ⟨⟨t552, t553⟩, A130, H⟩ := H;replace H : (qT.l0 kj1 (rdOf ByteArray.empty y548 (ji10)) t553 0 0 a0_0 a0_1 a0_2 a0_3 a0_4 a0_5 a0_6 a0_7) = some (r1, r2) := H;have A13 := As A130;clear A130;have H' := As H;clear H;obtain ⟨hcz14_0, hcz14_1, hcz14_2, hcz14_3, hcz14_4, hcz14_5, hcz14_6, hcz14_7, hfz14_0, hfz14_1, hfz14_2, hfz14_3, hfz14_4, hfz14_5, hfz14_6, hfz14_7⟩ := cz8 BK547.out;obtain ⟨Ao15, co15, eo15⟩ := Kd.R_slice HO_4.out;subst eo15;have p551 : 0 ≤ ((ji10) : Int) := dT hy;have q551 : (ji10) < (y548.length : Int) := dT hy;obtain ⟨ad551, e551, hx551_0⟩ := Kd.at_string (RR HO_4.out).2.2 (ji10) p551 q551
      cases e551
      replace p551 := eq_true p551;replace q551 := eq_true q551
      go_wp2_with (first | ((with_reducible refine gate_callee (f := 24) rfl ?_); refine goesL_ (some 31) rfl rfl Tryz.func24 kr rfl #[.string (rdOf ByteArray.empty y548 (ji10))] rfl (by (try simp only [List.map_toArray, List.map_cons, List.map_nil]); first | done | (simp only [hji10]; rfl) | rfl | (simp only [List.length_drop, List.length_take]; rfl)) ?_; (with_reducible refine (qS.calls kj1 (rdOf ByteArray.empty y548 (ji10)) _ _ _ A13.out).mono ?_); rintro e w16 ⟨rfl, hb⟩; refine ⟨_, rfl, ?_⟩; replace HO_4 := As (RB (ro HO_4.out) hb); replace BK547 := As (YB (g := gb547) (o := .cells #[.int .i64 a0_0, .string a0_1, .int .i64 a0_2, .int .i64 a0_3, .int .i64 a0_4, .int .i64 a0_5, .int .i64 a0_6, .string a0_7] 24 (0, 0)) (bk BK547.out) hb); replace HB := As (XT (be HB.out) hb); (try clear hb); (try clear hb2); (try clear hk); (try clear hi)))
      go_loopg [5, 8, 9] kj1 (fun kq v5 v8 v9 w' => ∃ (x5_2 : ByteArray) (x8_2 : Int) (x9_2 : Int), v5 = .string x5_2 ∧ v8 = .int .i64 x8_2 ∧ v9 = .int .i64 x9_2 ∧ Aside0 (qT.l0 kq x5_2 t553 x8_2 x9_2 a0_0 a0_1 a0_2 a0_3 a0_4 a0_5 a0_6 a0_7 = some (r1, r2)) ∧ Aside0 (kq ≤ kj1) ∧ Aside0 (w'.heap[gb547]? = some (.cells #[.int .i64 a0_0, .string a0_1, .int .i64 a0_2, .int .i64 a0_3, .int .i64 a0_4, .int .i64 a0_5, .int .i64 a0_6, .string a0_7] 24 (0, 0))) ∧ Aside0 (Below w.heap.size w w'))
      case atStart => exact ⟨(rdOf ByteArray.empty y548 (ji10)), (0), (0), (by first | rfl | (simp; done) | (simp only [← hji10] <;> (first | rfl | simp)) | (simp [*]; done)), sw, sw, H', ⟨Nat.le_refl _⟩, ⟨by (with_reducible repeat (first | refine YN ?_ _ | refine YD ?_ | refine YA ?_ _)); exact BK547.out⟩, ⟨by repeat (first | (with_reducible first | exact HB.out | apply XA | apply XN | apply XD | refine XS ?_ GE547.out) | exact HB.out)⟩⟩
      case round =>
       clear H'
       try clear c1
       try clear c2
       try clear p2
       try clear p5
       try clear q5
       try clear hx5
       try clear c6
       try clear c6b0
       try clear p6
       try clear c9
       try clear c11
       try clear c11b0
       try clear c12
       try clear c12b0
       try clear c15
       try clear hcz14_0 hcz14_1 hcz14_2 hcz14_3 hcz14_4 hcz14_5 hcz14_6 hcz14_7
       try clear hcz7_0 hcz7_1 hcz7_2 hcz7_3 hcz7_4 hcz7_5 hcz7_6 hcz7_7
       try clear hcz8_0 hcz8_1 hcz8_2 hcz8_3 hcz8_4 hcz8_5 hcz8_6 hcz8_7
       try clear hfz14_0 hfz14_1 hfz14_2 hfz14_3 hfz14_4 hfz14_5 hfz14_6 hfz14_7
       try clear hfz7_0 hfz7_1 hfz7_2 hfz7_3 hfz7_4 hfz7_5 hfz7_6 hfz7_7
       try clear hfz8_0 hfz8_1 hfz8_2 hfz8_3 hfz8_4 hfz8_5 hfz8_6 hfz8_7
       try clear hx551_0
       try clear p2
       try clear p551
       try clear p6
       try clear q551
       obtain ⟨x5_2, x8_2, x9_2, rfl, rfl, rfl, HA, HK2, BK547, HB⟩ := hrel
       cases gk with
       | zero => exact absurd HA.out (by simp [qT.l0])
       | succ k2 =>
        have H := HA.out;clear HA;simp only [qT.l0] at H
        by_cases c17 : x9_2 < (t553.size : Int)
        focus
         rw [if_pos c17] at H;have c17b0 : decide (x9_2 < (t553.size : Int)) = true := dY c17;clear c17
         by_cases c18 : 0 ≤ x9_2
         rotate_left
         ·rw [if_neg c18] at H;exact absurd H (by simp)
         rw [if_pos c18] at H;have c18b0 : decide (0 ≤ x9_2) = true := dY c18;clear c18
         by_cases c20 : (bt t553 x9_2) = 111
         focus
          rw [if_pos c20] at H;have c20b0 : ((bt t553 x9_2) == 111) = true := beq_iff_eq.mpr c20;have c20b1 : ((bt t553 x9_2) != 111) = false := bne_eq_false_iff_eq.mpr c20;clear c20
          by_cases c21 : x5_2.size + 1 ≤ 9223372036854775807
          rotate_left
          ·rw [if_neg c21] at H;exact absurd H (by simp)
          rw [if_pos c21] at H;have c21b0 := eq_true c21;have c21b1 : decide (x5_2.size + 1 ≤ 9223372036854775807) = true := dY c21
          try have c21b2 : (9223372036854775807 < x5_2.size + 1) = False := eq_false (Nat.not_lt.2 c21)
          by_cases c22 : (x5_2 ++ (⟨#[59]⟩ : ByteArray)).size + a0_1.size ≤ 9223372036854775807
          rotate_left
          ·rw [if_neg c22] at H;exact absurd H (by simp)
          rw [if_pos c22] at H;have c22b0 := eq_true c22;have c22b1 : decide ((x5_2 ++ (⟨#[59]⟩ : ByteArray)).size + a0_1.size ≤ 9223372036854775807) = true := dY c22
          try have c22b2 : (9223372036854775807 < (x5_2 ++ (⟨#[59]⟩ : ByteArray)).size + a0_1.size) = False := eq_false (Nat.not_lt.2 c22)
          have c22b3 : x5_2.size + 1 + a0_1.size ≤ 9223372036854775807 := by have z := c22; rw [ByteArray.size_append] at z; exact z
          have c22b4 : (9223372036854775807 < x5_2.size + 1 + a0_1.size) = False := eq_false (Nat.not_lt.2 c22b3);have H' := As H;clear H;have p19 : 0 ≤ (x9_2 : Int) := dT hy;have q19 : x9_2 < (t553.size : Int) := dT hy;have hx19 := bt_at t553 x9_2;replace p19 := eq_true p19;replace q19 := eq_true q19;obtain ⟨hcz23_0, hcz23_1, hcz23_2, hcz23_3, hcz23_4, hcz23_5, hcz23_6, hcz23_7, hfz23_0, hfz23_1, hfz23_2, hfz23_3, hfz23_4, hfz23_5, hfz23_6, hfz23_7⟩ := cz8 BK547.out
          have m21_ := trivial
         rotate_left
         focus
          rw [if_neg c20] at H;have c20b0 : ((bt t553 x9_2) == 111) = false := beq_eq_false_iff_ne.mpr c20;have c20b1 : ((bt t553 x9_2) != 111) = true := bne_iff_ne.mpr c20
          by_cases c24 : (bt t553 x9_2) = 116
          focus
           rw [if_pos c24] at H;have c24b0 : ((bt t553 x9_2) == 116) = true := beq_iff_eq.mpr c24;have c24b1 : ((bt t553 x9_2) != 116) = false := bne_eq_false_iff_eq.mpr c24;clear c24
           by_cases c25 : x5_2.size + 1 ≤ 9223372036854775807
           rotate_left
           ·rw [if_neg c25] at H;exact absurd H (by simp)
           rw [if_pos c25] at H;have c25b0 := eq_true c25;have c25b1 : decide (x5_2.size + 1 ≤ 9223372036854775807) = true := dY c25
           try have c25b2 : (9223372036854775807 < x5_2.size + 1) = False := eq_false (Nat.not_lt.2 c25)
           by_cases c26 : (x5_2 ++ (⟨#[59]⟩ : ByteArray)).size + a0_7.size ≤ 9223372036854775807
           rotate_left
           ·rw [if_neg c26] at H;exact absurd H (by simp)
           rw [if_pos c26] at H;have c26b0 := eq_true c26;have c26b1 : decide ((x5_2 ++ (⟨#[59]⟩ : ByteArray)).size + a0_7.size ≤ 9223372036854775807) = true := dY c26
           try have c26b2 : (9223372036854775807 < (x5_2 ++ (⟨#[59]⟩ : ByteArray)).size + a0_7.size) = False := eq_false (Nat.not_lt.2 c26)
           have c26b3 : x5_2.size + 1 + a0_7.size ≤ 9223372036854775807 := by have z := c26; rw [ByteArray.size_append] at z; exact z
           have c26b4 : (9223372036854775807 < x5_2.size + 1 + a0_7.size) = False := eq_false (Nat.not_lt.2 c26b3);have H' := As H;clear H;have p19 : 0 ≤ (x9_2 : Int) := dT hy;have q19 : x9_2 < (t553.size : Int) := dT hy;have hx19 := bt_at t553 x9_2;replace p19 := eq_true p19;replace q19 := eq_true q19;obtain ⟨hcz27_0, hcz27_1, hcz27_2, hcz27_3, hcz27_4, hcz27_5, hcz27_6, hcz27_7, hfz27_0, hfz27_1, hfz27_2, hfz27_3, hfz27_4, hfz27_5, hfz27_6, hfz27_7⟩ := cz8 BK547.out
           have m20_ := trivial
          rotate_left
          focus
           rw [if_neg c24] at H;have c24b0 : ((bt t553 x9_2) == 116) = false := beq_eq_false_iff_ne.mpr c24;have c24b1 : ((bt t553 x9_2) != 116) = true := bne_iff_ne.mpr c24
           by_cases c28 : (bt t553 x9_2) = 98
           focus
            rw [if_pos c28] at H;have c28b0 : ((bt t553 x9_2) == 98) = true := beq_iff_eq.mpr c28;have c28b1 : ((bt t553 x9_2) != 98) = false := bne_eq_false_iff_eq.mpr c28;clear c28
            by_cases c29 : x8_2 = (0 : Int)
            focus
             rw [if_pos c29] at H;have c29b0 : (x8_2 == (0 : Int)) = true := beq_iff_eq.mpr c29;have c29b1 : (x8_2 != (0 : Int)) = false := bne_eq_false_iff_eq.mpr c29
             have c29b2 : 0 ≤ x8_2 := by omega
             have c29b3 : x8_2 < 1 := by omega
             have c29b4 : x8_2 < 2 := by omega
             have c29b5 : x8_2 < 3 := by omega
             have c29b6 : x8_2 < 4 := by omega
             have c29b7 : x8_2 < 5 := by omega
             have c29b8 : x8_2 < 6 := by omega
             have c29b9 : (x8_2 : Int).toNat = 0 := by omega
             clear c29;replace H := bE H;obtain ⟨⟨t564, t565⟩, A300, H⟩ := H;replace H : (if t565 = 0 then (if x5_2.size + 1 ≤ 9223372036854775807 then (if (x5_2 ++ (⟨#[59]⟩ : ByteArray)).size + t564.size ≤ 9223372036854775807 then (qT.l0 k2 ((x5_2 ++ (⟨#[59]⟩ : ByteArray)) ++ t564) t553 (wrap64 (x8_2 + 1)) (wrap64 (x9_2 + 1)) a0_0 a0_1 a0_2 a0_3 a0_4 a0_5 a0_6 a0_7) else (none)) else (none)) else (some ((⟨#[]⟩ : ByteArray), false))) = some (r1, r2) := H;have A30 := As A300;clear A300
             by_cases c31 : t565 = 0
             focus
              rw [if_pos c31] at H;have c31b0 : (t565 == 0) = true := beq_iff_eq.mpr c31;have c31b1 : (t565 != 0) = false := bne_eq_false_iff_eq.mpr c31;clear c31
              by_cases c32 : x5_2.size + 1 ≤ 9223372036854775807
              rotate_left
              ·rw [if_neg c32] at H;exact absurd H (by simp)
              rw [if_pos c32] at H;have c32b0 := eq_true c32;have c32b1 : decide (x5_2.size + 1 ≤ 9223372036854775807) = true := dY c32
              try have c32b2 : (9223372036854775807 < x5_2.size + 1) = False := eq_false (Nat.not_lt.2 c32)
              by_cases c33 : (x5_2 ++ (⟨#[59]⟩ : ByteArray)).size + t564.size ≤ 9223372036854775807
              rotate_left
              ·rw [if_neg c33] at H;exact absurd H (by simp)
              rw [if_pos c33] at H;have c33b0 := eq_true c33;have c33b1 : decide ((x5_2 ++ (⟨#[59]⟩ : ByteArray)).size + t564.size ≤ 9223372036854775807) = true := dY c33
              try have c33b2 : (9223372036854775807 < (x5_2 ++ (⟨#[59]⟩ : ByteArray)).size + t564.size) = False := eq_false (Nat.not_lt.2 c33)
              have c33b3 : x5_2.size + 1 + t564.size ≤ 9223372036854775807 := by have z := c33; rw [ByteArray.size_append] at z; exact z
              have c33b4 : (9223372036854775807 < x5_2.size + 1 + t564.size) = False := eq_false (Nat.not_lt.2 c33b3);have H' := As H;clear H;have p19 : 0 ≤ (x9_2 : Int) := dT hy;have q19 : x9_2 < (t553.size : Int) := dT hy;have hx19 := bt_at t553 x9_2;replace p19 := eq_true p19;replace q19 := eq_true q19;obtain ⟨hcz34_0, hcz34_1, hcz34_2, hcz34_3, hcz34_4, hcz34_5, hcz34_6, hcz34_7, hfz34_0, hfz34_1, hfz34_2, hfz34_3, hfz34_4, hfz34_5, hfz34_6, hfz34_7⟩ := cz8 BK547.out
              have m19_ := trivial
             rotate_left
             rw [if_neg c31] at H;have c31b0 : (t565 == 0) = false := beq_eq_false_iff_ne.mpr c31;have c31b1 : (t565 != 0) = true := bne_iff_ne.mpr c31;simp only [Option.some.injEq, Prod.mk.injEq] at H;obtain ⟨rfl, rfl⟩ := H;have p19 : 0 ≤ (x9_2 : Int) := dT hy;have q19 : x9_2 < (t553.size : Int) := dT hy;have hx19 := bt_at t553 x9_2;replace p19 := eq_true p19;replace q19 := eq_true q19;obtain ⟨hcz35_0, hcz35_1, hcz35_2, hcz35_3, hcz35_4, hcz35_5, hcz35_6, hcz35_7, hfz35_0, hfz35_1, hfz35_2, hfz35_3, hfz35_4, hfz35_5, hfz35_6, hfz35_7⟩ := cz8 BK547.out
             have m18_ := trivial
            rotate_left 2
            focus
             rw [if_neg c29] at H;have c29b0 : (x8_2 == (0 : Int)) = false := beq_eq_false_iff_ne.mpr c29;have c29b1 : (x8_2 != (0 : Int)) = true := bne_iff_ne.mpr c29
             by_cases c36 : x8_2 = (1 : Int)
             focus
              rw [if_pos c36] at H;have c36b0 : (x8_2 == (1 : Int)) = true := beq_iff_eq.mpr c36;have c36b1 : (x8_2 != (1 : Int)) = false := bne_eq_false_iff_eq.mpr c36
              have c36b2 : 0 ≤ x8_2 := by omega
              have c36b3 : x8_2 < 2 := by omega
              have c36b4 : x8_2 < 3 := by omega
              have c36b5 : x8_2 < 4 := by omega
              have c36b6 : x8_2 < 5 := by omega
              have c36b7 : x8_2 < 6 := by omega
              have c36b8 : (x8_2 : Int).toNat = 1 := by omega
              clear c36;replace H := bE H;obtain ⟨⟨t566, t567⟩, A370, H⟩ := H;replace H : (if t567 = 0 then (if x5_2.size + 1 ≤ 9223372036854775807 then (if (x5_2 ++ (⟨#[59]⟩ : ByteArray)).size + t566.size ≤ 9223372036854775807 then (qT.l0 k2 ((x5_2 ++ (⟨#[59]⟩ : ByteArray)) ++ t566) t553 (wrap64 (x8_2 + 1)) (wrap64 (x9_2 + 1)) a0_0 a0_1 a0_2 a0_3 a0_4 a0_5 a0_6 a0_7) else (none)) else (none)) else (some ((⟨#[]⟩ : ByteArray), false))) = some (r1, r2) := H;have A37 := As A370;clear A370
              by_cases c38 : t567 = 0
              focus
               rw [if_pos c38] at H;have c38b0 : (t567 == 0) = true := beq_iff_eq.mpr c38;have c38b1 : (t567 != 0) = false := bne_eq_false_iff_eq.mpr c38;clear c38
               by_cases c39 : x5_2.size + 1 ≤ 9223372036854775807
               rotate_left
               ·rw [if_neg c39] at H;exact absurd H (by simp)
               rw [if_pos c39] at H;have c39b0 := eq_true c39;have c39b1 : decide (x5_2.size + 1 ≤ 9223372036854775807) = true := dY c39
               try have c39b2 : (9223372036854775807 < x5_2.size + 1) = False := eq_false (Nat.not_lt.2 c39)
               by_cases c40 : (x5_2 ++ (⟨#[59]⟩ : ByteArray)).size + t566.size ≤ 9223372036854775807
               rotate_left
               ·rw [if_neg c40] at H;exact absurd H (by simp)
               rw [if_pos c40] at H;have c40b0 := eq_true c40;have c40b1 : decide ((x5_2 ++ (⟨#[59]⟩ : ByteArray)).size + t566.size ≤ 9223372036854775807) = true := dY c40
               try have c40b2 : (9223372036854775807 < (x5_2 ++ (⟨#[59]⟩ : ByteArray)).size + t566.size) = False := eq_false (Nat.not_lt.2 c40)
               have c40b3 : x5_2.size + 1 + t566.size ≤ 9223372036854775807 := by have z := c40; rw [ByteArray.size_append] at z; exact z
               have c40b4 : (9223372036854775807 < x5_2.size + 1 + t566.size) = False := eq_false (Nat.not_lt.2 c40b3);have H' := As H;clear H;have p19 : 0 ≤ (x9_2 : Int) := dT hy;have q19 : x9_2 < (t553.size : Int) := dT hy;have hx19 := bt_at t553 x9_2;replace p19 := eq_true p19;replace q19 := eq_true q19;obtain ⟨hcz41_0, hcz41_1, hcz41_2, hcz41_3, hcz41_4, hcz41_5, hcz41_6, hcz41_7, hfz41_0, hfz41_1, hfz41_2, hfz41_3, hfz41_4, hfz41_5, hfz41_6, hfz41_7⟩ := cz8 BK547.out
               have m17_ := trivial
              rotate_left
              rw [if_neg c38] at H;have c38b0 : (t567 == 0) = false := beq_eq_false_iff_ne.mpr c38;have c38b1 : (t567 != 0) = true := bne_iff_ne.mpr c38;simp only [Option.some.injEq, Prod.mk.injEq] at H;obtain ⟨rfl, rfl⟩ := H;have p19 : 0 ≤ (x9_2 : Int) := dT hy;have q19 : x9_2 < (t553.size : Int) := dT hy;have hx19 := bt_at t553 x9_2;replace p19 := eq_true p19;replace q19 := eq_true q19;obtain ⟨hcz42_0, hcz42_1, hcz42_2, hcz42_3, hcz42_4, hcz42_5, hcz42_6, hcz42_7, hfz42_0, hfz42_1, hfz42_2, hfz42_3, hfz42_4, hfz42_5, hfz42_6, hfz42_7⟩ := cz8 BK547.out
              have m16_ := trivial
             rotate_left 2
             focus
              rw [if_neg c36] at H;have c36b0 : (x8_2 == (1 : Int)) = false := beq_eq_false_iff_ne.mpr c36;have c36b1 : (x8_2 != (1 : Int)) = true := bne_iff_ne.mpr c36
              by_cases c43 : x8_2 = (2 : Int)
              focus
               rw [if_pos c43] at H;have c43b0 : (x8_2 == (2 : Int)) = true := beq_iff_eq.mpr c43;have c43b1 : (x8_2 != (2 : Int)) = false := bne_eq_false_iff_eq.mpr c43
               have c43b2 : 0 ≤ x8_2 := by omega
               have c43b3 : x8_2 < 3 := by omega
               have c43b4 : x8_2 < 4 := by omega
               have c43b5 : x8_2 < 5 := by omega
               have c43b6 : x8_2 < 6 := by omega
               have c43b7 : (x8_2 : Int).toNat = 2 := by omega
               clear c43;replace H := bE H;obtain ⟨⟨t568, t569⟩, A440, H⟩ := H;replace H : (if t569 = 0 then (if x5_2.size + 1 ≤ 9223372036854775807 then (if (x5_2 ++ (⟨#[59]⟩ : ByteArray)).size + t568.size ≤ 9223372036854775807 then (qT.l0 k2 ((x5_2 ++ (⟨#[59]⟩ : ByteArray)) ++ t568) t553 (wrap64 (x8_2 + 1)) (wrap64 (x9_2 + 1)) a0_0 a0_1 a0_2 a0_3 a0_4 a0_5 a0_6 a0_7) else (none)) else (none)) else (some ((⟨#[]⟩ : ByteArray), false))) = some (r1, r2) := H;have A44 := As A440;clear A440
               by_cases c45 : t569 = 0
               focus
                rw [if_pos c45] at H;have c45b0 : (t569 == 0) = true := beq_iff_eq.mpr c45;have c45b1 : (t569 != 0) = false := bne_eq_false_iff_eq.mpr c45;clear c45
                by_cases c46 : x5_2.size + 1 ≤ 9223372036854775807
                rotate_left
                ·rw [if_neg c46] at H;exact absurd H (by simp)
                rw [if_pos c46] at H;have c46b0 := eq_true c46;have c46b1 : decide (x5_2.size + 1 ≤ 9223372036854775807) = true := dY c46
                try have c46b2 : (9223372036854775807 < x5_2.size + 1) = False := eq_false (Nat.not_lt.2 c46)
                by_cases c47 : (x5_2 ++ (⟨#[59]⟩ : ByteArray)).size + t568.size ≤ 9223372036854775807
                rotate_left
                ·rw [if_neg c47] at H;exact absurd H (by simp)
                rw [if_pos c47] at H;have c47b0 := eq_true c47;have c47b1 : decide ((x5_2 ++ (⟨#[59]⟩ : ByteArray)).size + t568.size ≤ 9223372036854775807) = true := dY c47
                try have c47b2 : (9223372036854775807 < (x5_2 ++ (⟨#[59]⟩ : ByteArray)).size + t568.size) = False := eq_false (Nat.not_lt.2 c47)
                have c47b3 : x5_2.size + 1 + t568.size ≤ 9223372036854775807 := by have z := c47; rw [ByteArray.size_append] at z; exact z
                have c47b4 : (9223372036854775807 < x5_2.size + 1 + t568.size) = False := eq_false (Nat.not_lt.2 c47b3);have H' := As H;clear H;have p19 : 0 ≤ (x9_2 : Int) := dT hy;have q19 : x9_2 < (t553.size : Int) := dT hy;have hx19 := bt_at t553 x9_2;replace p19 := eq_true p19;replace q19 := eq_true q19;obtain ⟨hcz48_0, hcz48_1, hcz48_2, hcz48_3, hcz48_4, hcz48_5, hcz48_6, hcz48_7, hfz48_0, hfz48_1, hfz48_2, hfz48_3, hfz48_4, hfz48_5, hfz48_6, hfz48_7⟩ := cz8 BK547.out
                have m15_ := trivial
               rotate_left
               rw [if_neg c45] at H;have c45b0 : (t569 == 0) = false := beq_eq_false_iff_ne.mpr c45;have c45b1 : (t569 != 0) = true := bne_iff_ne.mpr c45;simp only [Option.some.injEq, Prod.mk.injEq] at H;obtain ⟨rfl, rfl⟩ := H;have p19 : 0 ≤ (x9_2 : Int) := dT hy;have q19 : x9_2 < (t553.size : Int) := dT hy;have hx19 := bt_at t553 x9_2;replace p19 := eq_true p19;replace q19 := eq_true q19;obtain ⟨hcz49_0, hcz49_1, hcz49_2, hcz49_3, hcz49_4, hcz49_5, hcz49_6, hcz49_7, hfz49_0, hfz49_1, hfz49_2, hfz49_3, hfz49_4, hfz49_5, hfz49_6, hfz49_7⟩ := cz8 BK547.out
               have m14_ := trivial
              rotate_left 2
              focus
               rw [if_neg c43] at H;have c43b0 : (x8_2 == (2 : Int)) = false := beq_eq_false_iff_ne.mpr c43;have c43b1 : (x8_2 != (2 : Int)) = true := bne_iff_ne.mpr c43
               by_cases c50 : x8_2 = (3 : Int)
               focus
                rw [if_pos c50] at H;have c50b0 : (x8_2 == (3 : Int)) = true := beq_iff_eq.mpr c50;have c50b1 : (x8_2 != (3 : Int)) = false := bne_eq_false_iff_eq.mpr c50
                have c50b2 : 0 ≤ x8_2 := by omega
                have c50b3 : x8_2 < 4 := by omega
                have c50b4 : x8_2 < 5 := by omega
                have c50b5 : x8_2 < 6 := by omega
                have c50b6 : (x8_2 : Int).toNat = 3 := by omega
                clear c50;replace H := bE H;obtain ⟨⟨t570, t571⟩, A510, H⟩ := H;replace H : (if t571 = 0 then (if x5_2.size + 1 ≤ 9223372036854775807 then (if (x5_2 ++ (⟨#[59]⟩ : ByteArray)).size + t570.size ≤ 9223372036854775807 then (qT.l0 k2 ((x5_2 ++ (⟨#[59]⟩ : ByteArray)) ++ t570) t553 (wrap64 (x8_2 + 1)) (wrap64 (x9_2 + 1)) a0_0 a0_1 a0_2 a0_3 a0_4 a0_5 a0_6 a0_7) else (none)) else (none)) else (some ((⟨#[]⟩ : ByteArray), false))) = some (r1, r2) := H;have A51 := As A510;clear A510
                by_cases c52 : t571 = 0
                focus
                 rw [if_pos c52] at H;have c52b0 : (t571 == 0) = true := beq_iff_eq.mpr c52;have c52b1 : (t571 != 0) = false := bne_eq_false_iff_eq.mpr c52;clear c52
                 by_cases c53 : x5_2.size + 1 ≤ 9223372036854775807
                 rotate_left
                 ·rw [if_neg c53] at H;exact absurd H (by simp)
                 rw [if_pos c53] at H;have c53b0 := eq_true c53;have c53b1 : decide (x5_2.size + 1 ≤ 9223372036854775807) = true := dY c53
                 try have c53b2 : (9223372036854775807 < x5_2.size + 1) = False := eq_false (Nat.not_lt.2 c53)
                 by_cases c54 : (x5_2 ++ (⟨#[59]⟩ : ByteArray)).size + t570.size ≤ 9223372036854775807
                 rotate_left
                 ·rw [if_neg c54] at H;exact absurd H (by simp)
                 rw [if_pos c54] at H;have c54b0 := eq_true c54;have c54b1 : decide ((x5_2 ++ (⟨#[59]⟩ : ByteArray)).size + t570.size ≤ 9223372036854775807) = true := dY c54
                 try have c54b2 : (9223372036854775807 < (x5_2 ++ (⟨#[59]⟩ : ByteArray)).size + t570.size) = False := eq_false (Nat.not_lt.2 c54)
                 have c54b3 : x5_2.size + 1 + t570.size ≤ 9223372036854775807 := by have z := c54; rw [ByteArray.size_append] at z; exact z
                 have c54b4 : (9223372036854775807 < x5_2.size + 1 + t570.size) = False := eq_false (Nat.not_lt.2 c54b3);have H' := As H;clear H;have p19 : 0 ≤ (x9_2 : Int) := dT hy;have q19 : x9_2 < (t553.size : Int) := dT hy;have hx19 := bt_at t553 x9_2;replace p19 := eq_true p19;replace q19 := eq_true q19;obtain ⟨hcz55_0, hcz55_1, hcz55_2, hcz55_3, hcz55_4, hcz55_5, hcz55_6, hcz55_7, hfz55_0, hfz55_1, hfz55_2, hfz55_3, hfz55_4, hfz55_5, hfz55_6, hfz55_7⟩ := cz8 BK547.out
                 have m13_ := trivial
                rotate_left
                rw [if_neg c52] at H;have c52b0 : (t571 == 0) = false := beq_eq_false_iff_ne.mpr c52;have c52b1 : (t571 != 0) = true := bne_iff_ne.mpr c52;simp only [Option.some.injEq, Prod.mk.injEq] at H;obtain ⟨rfl, rfl⟩ := H;have p19 : 0 ≤ (x9_2 : Int) := dT hy;have q19 : x9_2 < (t553.size : Int) := dT hy;have hx19 := bt_at t553 x9_2;replace p19 := eq_true p19;replace q19 := eq_true q19;obtain ⟨hcz56_0, hcz56_1, hcz56_2, hcz56_3, hcz56_4, hcz56_5, hcz56_6, hcz56_7, hfz56_0, hfz56_1, hfz56_2, hfz56_3, hfz56_4, hfz56_5, hfz56_6, hfz56_7⟩ := cz8 BK547.out
                have m12_ := trivial
               rotate_left 2
               focus
                rw [if_neg c50] at H;have c50b0 : (x8_2 == (3 : Int)) = false := beq_eq_false_iff_ne.mpr c50;have c50b1 : (x8_2 != (3 : Int)) = true := bne_iff_ne.mpr c50
                by_cases c57 : x8_2 = (4 : Int)
                rotate_left
                ·rw [if_neg c57] at H;exact absurd H (by simp)
                rw [if_pos c57] at H;have c57b0 : (x8_2 == (4 : Int)) = true := beq_iff_eq.mpr c57;have c57b1 : (x8_2 != (4 : Int)) = false := bne_eq_false_iff_eq.mpr c57
                have c57b2 : 0 ≤ x8_2 := by omega
                have c57b3 : x8_2 < 5 := by omega
                have c57b4 : x8_2 < 6 := by omega
                have c57b5 : (x8_2 : Int).toNat = 4 := by omega
                clear c57;replace H := bE H;obtain ⟨⟨t572, t573⟩, A580, H⟩ := H;replace H : (if t573 = 0 then (if x5_2.size + 1 ≤ 9223372036854775807 then (if (x5_2 ++ (⟨#[59]⟩ : ByteArray)).size + t572.size ≤ 9223372036854775807 then (qT.l0 k2 ((x5_2 ++ (⟨#[59]⟩ : ByteArray)) ++ t572) t553 (wrap64 (x8_2 + 1)) (wrap64 (x9_2 + 1)) a0_0 a0_1 a0_2 a0_3 a0_4 a0_5 a0_6 a0_7) else (none)) else (none)) else (some ((⟨#[]⟩ : ByteArray), false))) = some (r1, r2) := H;have A58 := As A580;clear A580
                by_cases c59 : t573 = 0
                focus
                 rw [if_pos c59] at H;have c59b0 : (t573 == 0) = true := beq_iff_eq.mpr c59;have c59b1 : (t573 != 0) = false := bne_eq_false_iff_eq.mpr c59;clear c59
                 by_cases c60 : x5_2.size + 1 ≤ 9223372036854775807
                 rotate_left
                 ·rw [if_neg c60] at H;exact absurd H (by simp)
                 rw [if_pos c60] at H;have c60b0 := eq_true c60;have c60b1 : decide (x5_2.size + 1 ≤ 9223372036854775807) = true := dY c60
                 try have c60b2 : (9223372036854775807 < x5_2.size + 1) = False := eq_false (Nat.not_lt.2 c60)
                 by_cases c61 : (x5_2 ++ (⟨#[59]⟩ : ByteArray)).size + t572.size ≤ 9223372036854775807
                 rotate_left
                 ·rw [if_neg c61] at H;exact absurd H (by simp)
                 rw [if_pos c61] at H;have c61b0 := eq_true c61;have c61b1 : decide ((x5_2 ++ (⟨#[59]⟩ : ByteArray)).size + t572.size ≤ 9223372036854775807) = true := dY c61
                 try have c61b2 : (9223372036854775807 < (x5_2 ++ (⟨#[59]⟩ : ByteArray)).size + t572.size) = False := eq_false (Nat.not_lt.2 c61)
                 have c61b3 : x5_2.size + 1 + t572.size ≤ 9223372036854775807 := by have z := c61; rw [ByteArray.size_append] at z; exact z
                 have c61b4 : (9223372036854775807 < x5_2.size + 1 + t572.size) = False := eq_false (Nat.not_lt.2 c61b3);have H' := As H;clear H;have p19 : 0 ≤ (x9_2 : Int) := dT hy;have q19 : x9_2 < (t553.size : Int) := dT hy;have hx19 := bt_at t553 x9_2;replace p19 := eq_true p19;replace q19 := eq_true q19;obtain ⟨hcz62_0, hcz62_1, hcz62_2, hcz62_3, hcz62_4, hcz62_5, hcz62_6, hcz62_7, hfz62_0, hfz62_1, hfz62_2, hfz62_3, hfz62_4, hfz62_5, hfz62_6, hfz62_7⟩ := cz8 BK547.out
                 have m11_ := trivial
                rotate_left
                rw [if_neg c59] at H;have c59b0 : (t573 == 0) = false := beq_eq_false_iff_ne.mpr c59;have c59b1 : (t573 != 0) = true := bne_iff_ne.mpr c59;simp only [Option.some.injEq, Prod.mk.injEq] at H;obtain ⟨rfl, rfl⟩ := H;have p19 : 0 ≤ (x9_2 : Int) := dT hy;have q19 : x9_2 < (t553.size : Int) := dT hy;have hx19 := bt_at t553 x9_2;replace p19 := eq_true p19;replace q19 := eq_true q19;obtain ⟨hcz63_0, hcz63_1, hcz63_2, hcz63_3, hcz63_4, hcz63_5, hcz63_6, hcz63_7, hfz63_0, hfz63_1, hfz63_2, hfz63_3, hfz63_4, hfz63_5, hfz63_6, hfz63_7⟩ := cz8 BK547.out
                have m10_ := trivial
           rotate_left 10
           focus
            rw [if_neg c28] at H;have c28b0 : ((bt t553 x9_2) == 98) = false := beq_eq_false_iff_ne.mpr c28;have c28b1 : ((bt t553 x9_2) != 98) = true := bne_iff_ne.mpr c28
            by_cases c64 : x5_2.size + 1 ≤ 9223372036854775807
            rotate_left
            ·rw [if_neg c64] at H;exact absurd H (by simp)
            rw [if_pos c64] at H;have c64b0 := eq_true c64;have c64b1 : decide (x5_2.size + 1 ≤ 9223372036854775807) = true := dY c64
            try have c64b2 : (9223372036854775807 < x5_2.size + 1) = False := eq_false (Nat.not_lt.2 c64)
            by_cases c65 : x8_2 = (0 : Int)
            focus
             rw [if_pos c65] at H;have c65b0 : (x8_2 == (0 : Int)) = true := beq_iff_eq.mpr c65;have c65b1 : (x8_2 != (0 : Int)) = false := bne_eq_false_iff_eq.mpr c65
             have c65b2 : 0 ≤ x8_2 := by omega
             have c65b3 : x8_2 < 1 := by omega
             have c65b4 : x8_2 < 2 := by omega
             have c65b5 : x8_2 < 3 := by omega
             have c65b6 : x8_2 < 4 := by omega
             have c65b7 : x8_2 < 5 := by omega
             have c65b8 : x8_2 < 6 := by omega
             have c65b9 : (x8_2 : Int).toNat = 0 := by omega
             clear c65;replace H := bE H;obtain ⟨t574, A660, H⟩ := H;replace H : (if (x5_2 ++ (⟨#[59]⟩ : ByteArray)).size + t574.size ≤ 9223372036854775807 then (qT.l0 k2 ((x5_2 ++ (⟨#[59]⟩ : ByteArray)) ++ t574) t553 (wrap64 (x8_2 + 1)) (wrap64 (x9_2 + 1)) a0_0 a0_1 a0_2 a0_3 a0_4 a0_5 a0_6 a0_7) else (none)) = some (r1, r2) := H;have A66 := As A660;clear A660
             by_cases c67 : (x5_2 ++ (⟨#[59]⟩ : ByteArray)).size + t574.size ≤ 9223372036854775807
             rotate_left
             ·rw [if_neg c67] at H;exact absurd H (by simp)
             rw [if_pos c67] at H;have c67b0 := eq_true c67;have c67b1 : decide ((x5_2 ++ (⟨#[59]⟩ : ByteArray)).size + t574.size ≤ 9223372036854775807) = true := dY c67
             try have c67b2 : (9223372036854775807 < (x5_2 ++ (⟨#[59]⟩ : ByteArray)).size + t574.size) = False := eq_false (Nat.not_lt.2 c67)
             have c67b3 : x5_2.size + 1 + t574.size ≤ 9223372036854775807 := by have z := c67; rw [ByteArray.size_append] at z; exact z
             have c67b4 : (9223372036854775807 < x5_2.size + 1 + t574.size) = False := eq_false (Nat.not_lt.2 c67b3);have H' := As H;clear H;have p19 : 0 ≤ (x9_2 : Int) := dT hy;have q19 : x9_2 < (t553.size : Int) := dT hy;have hx19 := bt_at t553 x9_2;replace p19 := eq_true p19;replace q19 := eq_true q19;obtain ⟨hcz68_0, hcz68_1, hcz68_2, hcz68_3, hcz68_4, hcz68_5, hcz68_6, hcz68_7, hfz68_0, hfz68_1, hfz68_2, hfz68_3, hfz68_4, hfz68_5, hfz68_6, hfz68_7⟩ := cz8 BK547.out
            rotate_left
            focus
             rw [if_neg c65] at H;have c65b0 : (x8_2 == (0 : Int)) = false := beq_eq_false_iff_ne.mpr c65;have c65b1 : (x8_2 != (0 : Int)) = true := bne_iff_ne.mpr c65
             by_cases c69 : x8_2 = (1 : Int)
             focus
              rw [if_pos c69] at H;have c69b0 : (x8_2 == (1 : Int)) = true := beq_iff_eq.mpr c69;have c69b1 : (x8_2 != (1 : Int)) = false := bne_eq_false_iff_eq.mpr c69
              have c69b2 : 0 ≤ x8_2 := by omega
              have c69b3 : x8_2 < 2 := by omega
              have c69b4 : x8_2 < 3 := by omega
              have c69b5 : x8_2 < 4 := by omega
              have c69b6 : x8_2 < 5 := by omega
              have c69b7 : x8_2 < 6 := by omega
              have c69b8 : (x8_2 : Int).toNat = 1 := by omega
              clear c69;replace H := bE H;obtain ⟨t575, A700, H⟩ := H;replace H : (if (x5_2 ++ (⟨#[59]⟩ : ByteArray)).size + t575.size ≤ 9223372036854775807 then (qT.l0 k2 ((x5_2 ++ (⟨#[59]⟩ : ByteArray)) ++ t575) t553 (wrap64 (x8_2 + 1)) (wrap64 (x9_2 + 1)) a0_0 a0_1 a0_2 a0_3 a0_4 a0_5 a0_6 a0_7) else (none)) = some (r1, r2) := H;have A70 := As A700;clear A700
              by_cases c71 : (x5_2 ++ (⟨#[59]⟩ : ByteArray)).size + t575.size ≤ 9223372036854775807
              rotate_left
              ·rw [if_neg c71] at H;exact absurd H (by simp)
              rw [if_pos c71] at H;have c71b0 := eq_true c71;have c71b1 : decide ((x5_2 ++ (⟨#[59]⟩ : ByteArray)).size + t575.size ≤ 9223372036854775807) = true := dY c71
              try have c71b2 : (9223372036854775807 < (x5_2 ++ (⟨#[59]⟩ : ByteArray)).size + t575.size) = False := eq_false (Nat.not_lt.2 c71)
              have c71b3 : x5_2.size + 1 + t575.size ≤ 9223372036854775807 := by have z := c71; rw [ByteArray.size_append] at z; exact z
              have c71b4 : (9223372036854775807 < x5_2.size + 1 + t575.size) = False := eq_false (Nat.not_lt.2 c71b3);have H' := As H;clear H;have p19 : 0 ≤ (x9_2 : Int) := dT hy;have q19 : x9_2 < (t553.size : Int) := dT hy;have hx19 := bt_at t553 x9_2;replace p19 := eq_true p19;replace q19 := eq_true q19;obtain ⟨hcz72_0, hcz72_1, hcz72_2, hcz72_3, hcz72_4, hcz72_5, hcz72_6, hcz72_7, hfz72_0, hfz72_1, hfz72_2, hfz72_3, hfz72_4, hfz72_5, hfz72_6, hfz72_7⟩ := cz8 BK547.out
             rotate_left
             focus
              rw [if_neg c69] at H;have c69b0 : (x8_2 == (1 : Int)) = false := beq_eq_false_iff_ne.mpr c69;have c69b1 : (x8_2 != (1 : Int)) = true := bne_iff_ne.mpr c69
              by_cases c73 : x8_2 = (2 : Int)
              focus
               rw [if_pos c73] at H;have c73b0 : (x8_2 == (2 : Int)) = true := beq_iff_eq.mpr c73;have c73b1 : (x8_2 != (2 : Int)) = false := bne_eq_false_iff_eq.mpr c73
               have c73b2 : 0 ≤ x8_2 := by omega
               have c73b3 : x8_2 < 3 := by omega
               have c73b4 : x8_2 < 4 := by omega
               have c73b5 : x8_2 < 5 := by omega
               have c73b6 : x8_2 < 6 := by omega
               have c73b7 : (x8_2 : Int).toNat = 2 := by omega
               clear c73;replace H := bE H;obtain ⟨t576, A740, H⟩ := H;replace H : (if (x5_2 ++ (⟨#[59]⟩ : ByteArray)).size + t576.size ≤ 9223372036854775807 then (qT.l0 k2 ((x5_2 ++ (⟨#[59]⟩ : ByteArray)) ++ t576) t553 (wrap64 (x8_2 + 1)) (wrap64 (x9_2 + 1)) a0_0 a0_1 a0_2 a0_3 a0_4 a0_5 a0_6 a0_7) else (none)) = some (r1, r2) := H;have A74 := As A740;clear A740
               by_cases c75 : (x5_2 ++ (⟨#[59]⟩ : ByteArray)).size + t576.size ≤ 9223372036854775807
               rotate_left
               ·rw [if_neg c75] at H;exact absurd H (by simp)
               rw [if_pos c75] at H;have c75b0 := eq_true c75;have c75b1 : decide ((x5_2 ++ (⟨#[59]⟩ : ByteArray)).size + t576.size ≤ 9223372036854775807) = true := dY c75
               try have c75b2 : (9223372036854775807 < (x5_2 ++ (⟨#[59]⟩ : ByteArray)).size + t576.size) = False := eq_false (Nat.not_lt.2 c75)
               have c75b3 : x5_2.size + 1 + t576.size ≤ 9223372036854775807 := by have z := c75; rw [ByteArray.size_append] at z; exact z
               have c75b4 : (9223372036854775807 < x5_2.size + 1 + t576.size) = False := eq_false (Nat.not_lt.2 c75b3);have H' := As H;clear H;have p19 : 0 ≤ (x9_2 : Int) := dT hy;have q19 : x9_2 < (t553.size : Int) := dT hy;have hx19 := bt_at t553 x9_2;replace p19 := eq_true p19;replace q19 := eq_true q19;obtain ⟨hcz76_0, hcz76_1, hcz76_2, hcz76_3, hcz76_4, hcz76_5, hcz76_6, hcz76_7, hfz76_0, hfz76_1, hfz76_2, hfz76_3, hfz76_4, hfz76_5, hfz76_6, hfz76_7⟩ := cz8 BK547.out
              rotate_left
              focus
               rw [if_neg c73] at H;have c73b0 : (x8_2 == (2 : Int)) = false := beq_eq_false_iff_ne.mpr c73;have c73b1 : (x8_2 != (2 : Int)) = true := bne_iff_ne.mpr c73
               by_cases c77 : x8_2 = (3 : Int)
               focus
                rw [if_pos c77] at H;have c77b0 : (x8_2 == (3 : Int)) = true := beq_iff_eq.mpr c77;have c77b1 : (x8_2 != (3 : Int)) = false := bne_eq_false_iff_eq.mpr c77
                have c77b2 : 0 ≤ x8_2 := by omega
                have c77b3 : x8_2 < 4 := by omega
                have c77b4 : x8_2 < 5 := by omega
                have c77b5 : x8_2 < 6 := by omega
                have c77b6 : (x8_2 : Int).toNat = 3 := by omega
                clear c77;replace H := bE H;obtain ⟨t577, A780, H⟩ := H;replace H : (if (x5_2 ++ (⟨#[59]⟩ : ByteArray)).size + t577.size ≤ 9223372036854775807 then (qT.l0 k2 ((x5_2 ++ (⟨#[59]⟩ : ByteArray)) ++ t577) t553 (wrap64 (x8_2 + 1)) (wrap64 (x9_2 + 1)) a0_0 a0_1 a0_2 a0_3 a0_4 a0_5 a0_6 a0_7) else (none)) = some (r1, r2) := H;have A78 := As A780;clear A780
                by_cases c79 : (x5_2 ++ (⟨#[59]⟩ : ByteArray)).size + t577.size ≤ 9223372036854775807
                rotate_left
                ·rw [if_neg c79] at H;exact absurd H (by simp)
                rw [if_pos c79] at H;have c79b0 := eq_true c79;have c79b1 : decide ((x5_2 ++ (⟨#[59]⟩ : ByteArray)).size + t577.size ≤ 9223372036854775807) = true := dY c79
                try have c79b2 : (9223372036854775807 < (x5_2 ++ (⟨#[59]⟩ : ByteArray)).size + t577.size) = False := eq_false (Nat.not_lt.2 c79)
                have c79b3 : x5_2.size + 1 + t577.size ≤ 9223372036854775807 := by have z := c79; rw [ByteArray.size_append] at z; exact z
                have c79b4 : (9223372036854775807 < x5_2.size + 1 + t577.size) = False := eq_false (Nat.not_lt.2 c79b3);have H' := As H;clear H;have p19 : 0 ≤ (x9_2 : Int) := dT hy;have q19 : x9_2 < (t553.size : Int) := dT hy;have hx19 := bt_at t553 x9_2;replace p19 := eq_true p19;replace q19 := eq_true q19;obtain ⟨hcz80_0, hcz80_1, hcz80_2, hcz80_3, hcz80_4, hcz80_5, hcz80_6, hcz80_7, hfz80_0, hfz80_1, hfz80_2, hfz80_3, hfz80_4, hfz80_5, hfz80_6, hfz80_7⟩ := cz8 BK547.out
               rotate_left
               focus
                rw [if_neg c77] at H;have c77b0 : (x8_2 == (3 : Int)) = false := beq_eq_false_iff_ne.mpr c77;have c77b1 : (x8_2 != (3 : Int)) = true := bne_iff_ne.mpr c77
                by_cases c81 : x8_2 = (4 : Int)
                rotate_left
                ·rw [if_neg c81] at H;exact absurd H (by simp)
                rw [if_pos c81] at H;have c81b0 : (x8_2 == (4 : Int)) = true := beq_iff_eq.mpr c81;have c81b1 : (x8_2 != (4 : Int)) = false := bne_eq_false_iff_eq.mpr c81
                have c81b2 : 0 ≤ x8_2 := by omega
                have c81b3 : x8_2 < 5 := by omega
                have c81b4 : x8_2 < 6 := by omega
                have c81b5 : (x8_2 : Int).toNat = 4 := by omega
                clear c81;replace H := bE H;obtain ⟨t578, A820, H⟩ := H;replace H : (if (x5_2 ++ (⟨#[59]⟩ : ByteArray)).size + t578.size ≤ 9223372036854775807 then (qT.l0 k2 ((x5_2 ++ (⟨#[59]⟩ : ByteArray)) ++ t578) t553 (wrap64 (x8_2 + 1)) (wrap64 (x9_2 + 1)) a0_0 a0_1 a0_2 a0_3 a0_4 a0_5 a0_6 a0_7) else (none)) = some (r1, r2) := H;have A82 := As A820;clear A820
                by_cases c83 : (x5_2 ++ (⟨#[59]⟩ : ByteArray)).size + t578.size ≤ 9223372036854775807
                rotate_left
                ·rw [if_neg c83] at H;exact absurd H (by simp)
                rw [if_pos c83] at H;have c83b0 := eq_true c83;have c83b1 : decide ((x5_2 ++ (⟨#[59]⟩ : ByteArray)).size + t578.size ≤ 9223372036854775807) = true := dY c83
                try have c83b2 : (9223372036854775807 < (x5_2 ++ (⟨#[59]⟩ : ByteArray)).size + t578.size) = False := eq_false (Nat.not_lt.2 c83)
                have c83b3 : x5_2.size + 1 + t578.size ≤ 9223372036854775807 := by have z := c83; rw [ByteArray.size_append] at z; exact z
                have c83b4 : (9223372036854775807 < x5_2.size + 1 + t578.size) = False := eq_false (Nat.not_lt.2 c83b3);have H' := As H;clear H;have p19 : 0 ≤ (x9_2 : Int) := dT hy;have q19 : x9_2 < (t553.size : Int) := dT hy;have hx19 := bt_at t553 x9_2;replace p19 := eq_true p19;replace q19 := eq_true q19;obtain ⟨hcz84_0, hcz84_1, hcz84_2, hcz84_3, hcz84_4, hcz84_5, hcz84_6, hcz84_7, hfz84_0, hfz84_1, hfz84_2, hfz84_3, hfz84_4, hfz84_5, hfz84_6, hfz84_7⟩ := cz8 BK547.out
        rotate_left 17
        focus
         rw [if_neg c17] at H;have c17b0 : decide (x9_2 < (t553.size : Int)) = false := dN c17;clear c17;replace H := bE H;obtain ⟨⟨t554, t555, t556, t557, t558, t559, t560, t561, t562⟩, A850, H⟩ := H;replace H : (if t562 = 0 then (if t554 = a0_0 then (if t555.toList = a0_1.toList then (if t556 = a0_2 then (if t557 = a0_3 then (if t558 = a0_4 then (if t559 = a0_5 then (if t560 = a0_6 then (if t561.toList = a0_7.toList then (some (x5_2, true)) else (some ((⟨#[]⟩ : ByteArray), false))) else (some ((⟨#[]⟩ : ByteArray), false))) else (some ((⟨#[]⟩ : ByteArray), false))) else (some ((⟨#[]⟩ : ByteArray), false))) else (some ((⟨#[]⟩ : ByteArray), false))) else (some ((⟨#[]⟩ : ByteArray), false))) else (some ((⟨#[]⟩ : ByteArray), false))) else (some ((⟨#[]⟩ : ByteArray), false))) else (some ((⟨#[]⟩ : ByteArray), false))) = some (r1, r2) := H;have A85 := As A850;clear A850
         by_cases c86 : t562 = 0
         focus
          rw [if_pos c86] at H;have c86b0 : (t562 == 0) = true := beq_iff_eq.mpr c86;have c86b1 : (t562 != 0) = false := bne_eq_false_iff_eq.mpr c86;clear c86
          by_cases c87 : t554 = a0_0
          focus
           rw [if_pos c87] at H;have c87b0 : (t554 == a0_0) = true := beq_iff_eq.mpr c87;have c87b1 : (t554 != a0_0) = false := bne_eq_false_iff_eq.mpr c87;clear c87
           by_cases c88 : t555.toList = a0_1.toList
           focus
            rw [if_pos c88] at H;have c88b0 : (t555.toList == a0_1.toList) = true := beq_iff_eq.mpr c88;have c88b1 : (t555.toList != a0_1.toList) = false := bne_eq_false_iff_eq.mpr c88;clear c88
            by_cases c89 : t556 = a0_2
            focus
             rw [if_pos c89] at H;have c89b0 : (t556 == a0_2) = true := beq_iff_eq.mpr c89;have c89b1 : (t556 != a0_2) = false := bne_eq_false_iff_eq.mpr c89;clear c89
             by_cases c90 : t557 = a0_3
             focus
              rw [if_pos c90] at H;have c90b0 : (t557 == a0_3) = true := beq_iff_eq.mpr c90;have c90b1 : (t557 != a0_3) = false := bne_eq_false_iff_eq.mpr c90;clear c90
              by_cases c91 : t558 = a0_4
              focus
               rw [if_pos c91] at H;have c91b0 : (t558 == a0_4) = true := beq_iff_eq.mpr c91;have c91b1 : (t558 != a0_4) = false := bne_eq_false_iff_eq.mpr c91;clear c91
               by_cases c92 : t559 = a0_5
               focus
                rw [if_pos c92] at H;have c92b0 : (t559 == a0_5) = true := beq_iff_eq.mpr c92;have c92b1 : (t559 != a0_5) = false := bne_eq_false_iff_eq.mpr c92;clear c92
                by_cases c93 : t560 = a0_6
                focus
                 rw [if_pos c93] at H;have c93b0 : (t560 == a0_6) = true := beq_iff_eq.mpr c93;have c93b1 : (t560 != a0_6) = false := bne_eq_false_iff_eq.mpr c93;clear c93
                 by_cases c94 : t561.toList = a0_7.toList
                 rw [if_pos c94] at H;have c94b0 : (t561.toList == a0_7.toList) = true := beq_iff_eq.mpr c94;have c94b1 : (t561.toList != a0_7.toList) = false := bne_eq_false_iff_eq.mpr c94;clear c94;simp only [Option.some.injEq, Prod.mk.injEq] at H;obtain ⟨rfl, rfl⟩ := H
                 have m9_ := trivial
                 rotate_left
                 rw [if_neg c94] at H;have c94b0 : (t561.toList == a0_7.toList) = false := beq_eq_false_iff_ne.mpr c94;have c94b1 : (t561.toList != a0_7.toList) = true := bne_iff_ne.mpr c94;simp only [Option.some.injEq, Prod.mk.injEq] at H;obtain ⟨rfl, rfl⟩ := H
                 have m8_ := trivial
                rotate_left 2
                rw [if_neg c93] at H;have c93b0 : (t560 == a0_6) = false := beq_eq_false_iff_ne.mpr c93;have c93b1 : (t560 != a0_6) = true := bne_iff_ne.mpr c93;simp only [Option.some.injEq, Prod.mk.injEq] at H;obtain ⟨rfl, rfl⟩ := H
                have m7_ := trivial
               rotate_left 3
               rw [if_neg c92] at H;have c92b0 : (t559 == a0_5) = false := beq_eq_false_iff_ne.mpr c92;have c92b1 : (t559 != a0_5) = true := bne_iff_ne.mpr c92;simp only [Option.some.injEq, Prod.mk.injEq] at H;obtain ⟨rfl, rfl⟩ := H
               have m6_ := trivial
              rotate_left 4
              rw [if_neg c91] at H;have c91b0 : (t558 == a0_4) = false := beq_eq_false_iff_ne.mpr c91;have c91b1 : (t558 != a0_4) = true := bne_iff_ne.mpr c91;simp only [Option.some.injEq, Prod.mk.injEq] at H;obtain ⟨rfl, rfl⟩ := H
              have m5_ := trivial
             rotate_left 5
             rw [if_neg c90] at H;have c90b0 : (t557 == a0_3) = false := beq_eq_false_iff_ne.mpr c90;have c90b1 : (t557 != a0_3) = true := bne_iff_ne.mpr c90;simp only [Option.some.injEq, Prod.mk.injEq] at H;obtain ⟨rfl, rfl⟩ := H
             have m4_ := trivial
            rotate_left 6
            rw [if_neg c89] at H;have c89b0 : (t556 == a0_2) = false := beq_eq_false_iff_ne.mpr c89;have c89b1 : (t556 != a0_2) = true := bne_iff_ne.mpr c89;simp only [Option.some.injEq, Prod.mk.injEq] at H;obtain ⟨rfl, rfl⟩ := H
            have m3_ := trivial
           rotate_left 7
           rw [if_neg c88] at H;have c88b0 : (t555.toList == a0_1.toList) = false := beq_eq_false_iff_ne.mpr c88;have c88b1 : (t555.toList != a0_1.toList) = true := bne_iff_ne.mpr c88;simp only [Option.some.injEq, Prod.mk.injEq] at H;obtain ⟨rfl, rfl⟩ := H
           have m2_ := trivial
          rotate_left 8
          rw [if_neg c87] at H;have c87b0 : (t554 == a0_0) = false := beq_eq_false_iff_ne.mpr c87;have c87b1 : (t554 != a0_0) = true := bne_iff_ne.mpr c87;simp only [Option.some.injEq, Prod.mk.injEq] at H;obtain ⟨rfl, rfl⟩ := H
          have m1_ := trivial
         rotate_left 9
         rw [if_neg c86] at H;have c86b0 : (t562 == 0) = false := beq_eq_false_iff_ne.mpr c86;have c86b1 : (t562 != 0) = true := bne_iff_ne.mpr c86;simp only [Option.some.injEq, Prod.mk.injEq] at H;obtain ⟨rfl, rfl⟩ := H
        all_goals try
         first | (clear m1_; have m1_ := trivial) | (clear m2_; have m2_ := trivial) | (clear m3_; have m3_ := trivial) | (clear m4_; have m4_ := trivial) | (clear m5_; have m5_ := trivial) | (clear m6_; have m6_ := trivial) | (clear m7_; have m7_ := trivial) | (clear m8_; have m8_ := trivial) | (clear m9_; have m9_ := trivial)
         go_wp2_with (first | ((with_reducible refine gate_callee (f := 11) rfl ?_); refine goesL_ (some 87) rfl rfl Tryz.func11 kr rfl #[.string x5_2] rfl sa ?_; (with_reducible refine (qP.calls k2 x5_2 _ _ _ _ _ _ _ _ _ _ A85.out).mono ?_); rintro e w135 ⟨rfl, hb⟩; refine ⟨_, rfl, ?_⟩; replace BK547 := As (YB (g := gb547) (o := .cells #[.int .i64 a0_0, .string a0_1, .int .i64 a0_2, .int .i64 a0_3, .int .i64 a0_4, .int .i64 a0_5, .int .i64 a0_6, .string a0_7] 24 (0, 0)) (bk BK547.out) hb); replace HB := As (XT (be HB.out) hb); (try clear hb); (try clear hb2); (try clear hk); (try clear hi)) | ((with_reducible refine gate_dst (N := 12) rfl ?_); refine box_event ?hg (N := 12) ?hd (cs := #[.int .i64 0, .string (⟨#[]⟩ : ByteArray), .int .i64 0, .int .i64 0, .int .i64 0, .int .i64 0, .int .i64 0, .string (⟨#[]⟩ : ByteArray)]) (t := 24) ?hr ?_; (case hd => rfl); (case hg => rfl); (case hr => first | (go_simp; done) | (go_simp; rfl)); intro gb563 hg w136 hbox hb; have BK563 := As (hbox); have GW563 := As ((gz hg (be HB.out) : w.heap.size ≤ gb563)); have GE563 := As ((gz hg (be HB.out) : w.heap.size ≤ gb563)); replace HB := As (XT (be HB.out) hb); have NB547_563 := As ((nl hg (bk BK547.out) : gb547 ≠ gb563)); have NB563_547 := As ((ng hg (bk BK547.out) : gb563 ≠ gb547)); replace BK547 := As (YB (g := gb547) (o := .cells #[.int .i64 a0_0, .string a0_1, .int .i64 a0_2, .int .i64 a0_3, .int .i64 a0_4, .int .i64 a0_5, .int .i64 a0_6, .string a0_7] 24 (0, 0)) (bk BK547.out) hb); clear hb hbox hg; have hnb137 := NB563_547.out; have hnc137 := NB547_563.out; obtain ⟨hcz138_0, hcz138_1, hcz138_2, hcz138_3, hcz138_4, hcz138_5, hcz138_6, hcz138_7, hfz138_0, hfz138_1, hfz138_2, hfz138_3, hfz138_4, hfz138_5, hfz138_6, hfz138_7⟩ := cz8 BK563.out; obtain ⟨hcz139_0, hcz139_1, hcz139_2, hcz139_3, hcz139_4, hcz139_5, hcz139_6, hcz139_7, hfz139_0, hfz139_1, hfz139_2, hfz139_3, hfz139_4, hfz139_5, hfz139_6, hfz139_7⟩ := cz8 BK547.out))
         go_ret2
         exact ⟨by first | rfl | (simp [errW_none, errW_some] <;> rfl) | (simp only [← hji10]; first | rfl | (simp [errW_none, errW_some] <;> rfl)) | (simp [*, errW_none, errW_some] <;> rfl), by repeat (first | (with_reducible first | exact HB.out | apply XA | apply XN | apply XD | refine XS ?_ GE547.out | refine XS ?_ GE563.out) | exact HB.out)⟩
        all_goals try
         first | (clear m10_; have m10_ := trivial) | (clear m11_; have m11_ := trivial)
         go_wp2_with (first | ((with_reducible refine gate_callee (f := 29) rfl ?_); refine goesL_ (some 74) rfl rfl Tryz.func29 kr rfl #[.int .i64 a0_6, .string (⟨#[97, 99, 102]⟩ : ByteArray)] rfl sa ?_; (with_reducible refine (vL.calls k2 a0_6 (⟨#[97, 99, 102]⟩ : ByteArray) _ _ _ A58.out).mono ?_); rintro e w' ⟨rfl, ⟨nd, rfl⟩⟩; refine ⟨_, rfl, ?_⟩))
        all_goals try
         first | (clear m12_; have m12_ := trivial) | (clear m13_; have m13_ := trivial)
         go_wp2_with (first | ((with_reducible refine gate_callee (f := 29) rfl ?_); refine goesL_ (some 74) rfl rfl Tryz.func29 kr rfl #[.int .i64 a0_5, .string (⟨#[97, 99, 102]⟩ : ByteArray)] rfl sa ?_; (with_reducible refine (vL.calls k2 a0_5 (⟨#[97, 99, 102]⟩ : ByteArray) _ _ _ A51.out).mono ?_); rintro e w' ⟨rfl, ⟨nd, rfl⟩⟩; refine ⟨_, rfl, ?_⟩))
        all_goals try
         first | (clear m14_; have m14_ := trivial) | (clear m15_; have m15_ := trivial)
         go_wp2_with (first | ((with_reducible refine gate_callee (f := 29) rfl ?_); refine goesL_ (some 74) rfl rfl Tryz.func29 kr rfl #[.int .i64 a0_4, .string (⟨#[97, 99, 102]⟩ : ByteArray)] rfl sa ?_; (with_reducible refine (vL.calls k2 a0_4 (⟨#[97, 99, 102]⟩ : ByteArray) _ _ _ A44.out).mono ?_); rintro e w' ⟨rfl, ⟨nd, rfl⟩⟩; refine ⟨_, rfl, ?_⟩))
        all_goals try
         first | (clear m16_; have m16_ := trivial) | (clear m17_; have m17_ := trivial)
         go_wp2_with (first | ((with_reducible refine gate_callee (f := 29) rfl ?_); refine goesL_ (some 74) rfl rfl Tryz.func29 kr rfl #[.int .i64 a0_3, .string (⟨#[97, 99, 102]⟩ : ByteArray)] rfl sa ?_; (with_reducible refine (vL.calls k2 a0_3 (⟨#[97, 99, 102]⟩ : ByteArray) _ _ _ A37.out).mono ?_); rintro e w' ⟨rfl, ⟨nd, rfl⟩⟩; refine ⟨_, rfl, ?_⟩))
        all_goals try
         first | (clear m18_; have m18_ := trivial) | (clear m19_; have m19_ := trivial)
         go_wp2_with (first | ((with_reducible refine gate_callee (f := 29) rfl ?_); refine goesL_ (some 74) rfl rfl Tryz.func29 kr rfl #[.int .i64 a0_2, .string (⟨#[97, 99, 102]⟩ : ByteArray)] rfl sa ?_; (with_reducible refine (vL.calls k2 a0_2 (⟨#[97, 99, 102]⟩ : ByteArray) _ _ _ A30.out).mono ?_); rintro e w' ⟨rfl, ⟨nd, rfl⟩⟩; refine ⟨_, rfl, ?_⟩))
        all_goals try
         first | (clear m20_; have m20_ := trivial) | (clear m21_; have m21_ := trivial)
         go_wp2
         go_roundg k2
         case measure => have := HJ1.out; have := HK2.out; omega
        ·go_wp2_with (first | ((with_reducible refine gate_callee (f := 11) rfl ?_); refine goesL_ (some 87) rfl rfl Tryz.func11 kr rfl #[.string x5_2] rfl sa ?_; (with_reducible refine (qP.calls k2 x5_2 _ _ _ _ _ _ _ _ _ _ A85.out).mono ?_); rintro e w140 ⟨rfl, hb⟩; refine ⟨_, rfl, ?_⟩; replace BK547 := As (YB (g := gb547) (o := .cells #[.int .i64 a0_0, .string a0_1, .int .i64 a0_2, .int .i64 a0_3, .int .i64 a0_4, .int .i64 a0_5, .int .i64 a0_6, .string a0_7] 24 (0, 0)) (bk BK547.out) hb); replace HB := As (XT (be HB.out) hb); (try clear hb); (try clear hb2); (try clear hk); (try clear hi)) | ((with_reducible refine gate_dst (N := 12) rfl ?_); refine box_event ?hg (N := 12) ?hd (cs := #[.int .i64 0, .string (⟨#[]⟩ : ByteArray), .int .i64 0, .int .i64 0, .int .i64 0, .int .i64 0, .int .i64 0, .string (⟨#[]⟩ : ByteArray)]) (t := 24) ?hr ?_; (case hd => rfl); (case hg => rfl); (case hr => first | (go_simp; done) | (go_simp; rfl)); intro gb563 hg w141 hbox hb; have BK563 := As (hbox); have GW563 := As ((gz hg (be HB.out) : w.heap.size ≤ gb563)); have GE563 := As ((gz hg (be HB.out) : w.heap.size ≤ gb563)); replace HB := As (XT (be HB.out) hb); have NB547_563 := As ((nl hg (bk BK547.out) : gb547 ≠ gb563)); have NB563_547 := As ((ng hg (bk BK547.out) : gb563 ≠ gb547)); replace BK547 := As (YB (g := gb547) (o := .cells #[.int .i64 a0_0, .string a0_1, .int .i64 a0_2, .int .i64 a0_3, .int .i64 a0_4, .int .i64 a0_5, .int .i64 a0_6, .string a0_7] 24 (0, 0)) (bk BK547.out) hb); clear hb hbox hg; have hnb142 := NB563_547.out; have hnc142 := NB547_563.out; obtain ⟨hcz143_0, hcz143_1, hcz143_2, hcz143_3, hcz143_4, hcz143_5, hcz143_6, hcz143_7, hfz143_0, hfz143_1, hfz143_2, hfz143_3, hfz143_4, hfz143_5, hfz143_6, hfz143_7⟩ := cz8 BK563.out))
         go_ret2
         exact ⟨by first | rfl | (simp [errW_none, errW_some] <;> rfl) | (simp only [← hji10]; first | rfl | (simp [errW_none, errW_some] <;> rfl)) | (simp [*, errW_none, errW_some] <;> rfl), by repeat (first | (with_reducible first | exact HB.out | apply XA | apply XN | apply XD | refine XS ?_ GE547.out | refine XS ?_ GE563.out) | exact HB.out)⟩
        ·go_wp2_with (first | ((with_reducible refine gate_callee (f := 30) rfl ?_); refine goesL_ (some 49) rfl rfl Tryz.func30 kr rfl #[.int .i64 a0_6] rfl sa ?_; (with_reducible refine (qd.calls k2 a0_6 _ _ A82.out).mono ?_); rintro e w' ⟨rfl, ⟨nd, rfl⟩⟩; refine ⟨_, rfl, ?_⟩))
         go_roundg k2
         case measure => have := HJ1.out; have := HK2.out; omega
         case rel => exact ⟨((x5_2 ++ (⟨#[59]⟩ : ByteArray)) ++ t578), (wrap64 (x8_2 + 1)), (wrap64 (x9_2 + 1)), sw, sw, sw, H', ⟨by have := HJ1.out; have := HK2.out; omega⟩, ⟨by (with_reducible repeat (first | refine YN ?_ _ | refine YD ?_ | refine YA ?_ _)); exact BK547.out⟩, ⟨by repeat (first | (with_reducible first | exact HB.out | apply XA | apply XN | apply XD | refine XS ?_ GE547.out) | exact HB.out)⟩⟩
        ·go_wp2_with (first | ((with_reducible refine gate_callee (f := 30) rfl ?_); refine goesL_ (some 49) rfl rfl Tryz.func30 kr rfl #[.int .i64 a0_5] rfl sa ?_; (with_reducible refine (qd.calls k2 a0_5 _ _ A78.out).mono ?_); rintro e w' ⟨rfl, ⟨nd, rfl⟩⟩; refine ⟨_, rfl, ?_⟩))
         go_roundg k2
         case measure => have := HJ1.out; have := HK2.out; omega
         case rel => exact ⟨((x5_2 ++ (⟨#[59]⟩ : ByteArray)) ++ t577), (wrap64 (x8_2 + 1)), (wrap64 (x9_2 + 1)), sw, sw, sw, H', ⟨by have := HJ1.out; have := HK2.out; omega⟩, ⟨by (with_reducible repeat (first | refine YN ?_ _ | refine YD ?_ | refine YA ?_ _)); exact BK547.out⟩, ⟨by repeat (first | (with_reducible first | exact HB.out | apply XA | apply XN | apply XD | refine XS ?_ GE547.out) | exact HB.out)⟩⟩
        ·go_wp2_with (first | ((with_reducible refine gate_callee (f := 30) rfl ?_); refine goesL_ (some 49) rfl rfl Tryz.func30 kr rfl #[.int .i64 a0_4] rfl sa ?_; (with_reducible refine (qd.calls k2 a0_4 _ _ A74.out).mono ?_); rintro e w' ⟨rfl, ⟨nd, rfl⟩⟩; refine ⟨_, rfl, ?_⟩))
         go_roundg k2
         case measure => have := HJ1.out; have := HK2.out; omega
         case rel => exact ⟨((x5_2 ++ (⟨#[59]⟩ : ByteArray)) ++ t576), (wrap64 (x8_2 + 1)), (wrap64 (x9_2 + 1)), sw, sw, sw, H', ⟨by have := HJ1.out; have := HK2.out; omega⟩, ⟨by (with_reducible repeat (first | refine YN ?_ _ | refine YD ?_ | refine YA ?_ _)); exact BK547.out⟩, ⟨by repeat (first | (with_reducible first | exact HB.out | apply XA | apply XN | apply XD | refine XS ?_ GE547.out) | exact HB.out)⟩⟩
        ·go_wp2_with (first | ((with_reducible refine gate_callee (f := 30) rfl ?_); refine goesL_ (some 49) rfl rfl Tryz.func30 kr rfl #[.int .i64 a0_3] rfl sa ?_; (with_reducible refine (qd.calls k2 a0_3 _ _ A70.out).mono ?_); rintro e w' ⟨rfl, ⟨nd, rfl⟩⟩; refine ⟨_, rfl, ?_⟩))
         go_roundg k2
         case measure => have := HJ1.out; have := HK2.out; omega
         case rel => exact ⟨((x5_2 ++ (⟨#[59]⟩ : ByteArray)) ++ t575), (wrap64 (x8_2 + 1)), (wrap64 (x9_2 + 1)), sw, sw, sw, H', ⟨by have := HJ1.out; have := HK2.out; omega⟩, ⟨by (with_reducible repeat (first | refine YN ?_ _ | refine YD ?_ | refine YA ?_ _)); exact BK547.out⟩, ⟨by repeat (first | (with_reducible first | exact HB.out | apply XA | apply XN | apply XD | refine XS ?_ GE547.out) | exact HB.out)⟩⟩
        ·go_wp2_with (first | ((with_reducible refine gate_callee (f := 30) rfl ?_); refine goesL_ (some 49) rfl rfl Tryz.func30 kr rfl #[.int .i64 a0_2] rfl sa ?_; (with_reducible refine (qd.calls k2 a0_2 _ _ A66.out).mono ?_); rintro e w' ⟨rfl, ⟨nd, rfl⟩⟩; refine ⟨_, rfl, ?_⟩))
         go_roundg k2
         case measure => have := HJ1.out; have := HK2.out; omega
         case rel => exact ⟨((x5_2 ++ (⟨#[59]⟩ : ByteArray)) ++ t574), (wrap64 (x8_2 + 1)), (wrap64 (x9_2 + 1)), sw, sw, sw, H', ⟨by have := HJ1.out; have := HK2.out; omega⟩, ⟨by (with_reducible repeat (first | refine YN ?_ _ | refine YD ?_ | refine YA ?_ _)); exact BK547.out⟩, ⟨by repeat (first | (with_reducible first | exact HB.out | apply XA | apply XN | apply XD | refine XS ?_ GE547.out) | exact HB.out)⟩⟩
        ·go_ret2
         exact ⟨by first | rfl | (simp [errW_none, errW_some] <;> rfl) | (simp only [← hji10]; first | rfl | (simp [errW_none, errW_some] <;> rfl)) | (simp [*, errW_none, errW_some] <;> rfl), by repeat (first | (with_reducible first | exact HB.out | apply XA | apply XN | apply XD | refine XS ?_ GE547.out) | exact HB.out)⟩
        ·go_roundg k2
         case measure => have := HJ1.out; have := HK2.out; omega
         case rel => exact ⟨((x5_2 ++ (⟨#[59]⟩ : ByteArray)) ++ t572), (wrap64 (x8_2 + 1)), (wrap64 (x9_2 + 1)), sw, sw, sw, H', ⟨by have := HJ1.out; have := HK2.out; omega⟩, ⟨by (with_reducible repeat (first | refine YN ?_ _ | refine YD ?_ | refine YA ?_ _)); exact BK547.out⟩, ⟨by repeat (first | (with_reducible first | exact HB.out | apply XA | apply XN | apply XD | refine XS ?_ GE547.out) | exact HB.out)⟩⟩
        ·go_ret2
         exact ⟨by first | rfl | (simp [errW_none, errW_some] <;> rfl) | (simp only [← hji10]; first | rfl | (simp [errW_none, errW_some] <;> rfl)) | (simp [*, errW_none, errW_some] <;> rfl), by repeat (first | (with_reducible first | exact HB.out | apply XA | apply XN | apply XD | refine XS ?_ GE547.out) | exact HB.out)⟩
        ·go_roundg k2
         case measure => have := HJ1.out; have := HK2.out; omega
         case rel => exact ⟨((x5_2 ++ (⟨#[59]⟩ : ByteArray)) ++ t570), (wrap64 (x8_2 + 1)), (wrap64 (x9_2 + 1)), sw, sw, sw, H', ⟨by have := HJ1.out; have := HK2.out; omega⟩, ⟨by (with_reducible repeat (first | refine YN ?_ _ | refine YD ?_ | refine YA ?_ _)); exact BK547.out⟩, ⟨by repeat (first | (with_reducible first | exact HB.out | apply XA | apply XN | apply XD | refine XS ?_ GE547.out) | exact HB.out)⟩⟩
        ·go_ret2
         exact ⟨by first | rfl | (simp [errW_none, errW_some] <;> rfl) | (simp only [← hji10]; first | rfl | (simp [errW_none, errW_some] <;> rfl)) | (simp [*, errW_none, errW_some] <;> rfl), by repeat (first | (with_reducible first | exact HB.out | apply XA | apply XN | apply XD | refine XS ?_ GE547.out) | exact HB.out)⟩
        ·go_roundg k2
         case measure => have := HJ1.out; have := HK2.out; omega
         case rel => exact ⟨((x5_2 ++ (⟨#[59]⟩ : ByteArray)) ++ t568), (wrap64 (x8_2 + 1)), (wrap64 (x9_2 + 1)), sw, sw, sw, H', ⟨by have := HJ1.out; have := HK2.out; omega⟩, ⟨by (with_reducible repeat (first | refine YN ?_ _ | refine YD ?_ | refine YA ?_ _)); exact BK547.out⟩, ⟨by repeat (first | (with_reducible first | exact HB.out | apply XA | apply XN | apply XD | refine XS ?_ GE547.out) | exact HB.out)⟩⟩
        ·go_ret2
         exact ⟨by first | rfl | (simp [errW_none, errW_some] <;> rfl) | (simp only [← hji10]; first | rfl | (simp [errW_none, errW_some] <;> rfl)) | (simp [*, errW_none, errW_some] <;> rfl), by repeat (first | (with_reducible first | exact HB.out | apply XA | apply XN | apply XD | refine XS ?_ GE547.out) | exact HB.out)⟩
        ·go_roundg k2
         case measure => have := HJ1.out; have := HK2.out; omega
         case rel => exact ⟨((x5_2 ++ (⟨#[59]⟩ : ByteArray)) ++ t566), (wrap64 (x8_2 + 1)), (wrap64 (x9_2 + 1)), sw, sw, sw, H', ⟨by have := HJ1.out; have := HK2.out; omega⟩, ⟨by (with_reducible repeat (first | refine YN ?_ _ | refine YD ?_ | refine YA ?_ _)); exact BK547.out⟩, ⟨by repeat (first | (with_reducible first | exact HB.out | apply XA | apply XN | apply XD | refine XS ?_ GE547.out) | exact HB.out)⟩⟩
        ·go_ret2
         exact ⟨by first | rfl | (simp [errW_none, errW_some] <;> rfl) | (simp only [← hji10]; first | rfl | (simp [errW_none, errW_some] <;> rfl)) | (simp [*, errW_none, errW_some] <;> rfl), by repeat (first | (with_reducible first | exact HB.out | apply XA | apply XN | apply XD | refine XS ?_ GE547.out) | exact HB.out)⟩
        ·go_roundg k2
         case measure => have := HJ1.out; have := HK2.out; omega
         case rel => exact ⟨((x5_2 ++ (⟨#[59]⟩ : ByteArray)) ++ t564), (wrap64 (x8_2 + 1)), (wrap64 (x9_2 + 1)), sw, sw, sw, H', ⟨by have := HJ1.out; have := HK2.out; omega⟩, ⟨by (with_reducible repeat (first | refine YN ?_ _ | refine YD ?_ | refine YA ?_ _)); exact BK547.out⟩, ⟨by repeat (first | (with_reducible first | exact HB.out | apply XA | apply XN | apply XD | refine XS ?_ GE547.out) | exact HB.out)⟩⟩
        ·case rel => exact ⟨((x5_2 ++ (⟨#[59]⟩ : ByteArray)) ++ a0_7), (x8_2), (wrap64 (x9_2 + 1)), sw, sw, sw, H', ⟨by have := HJ1.out; have := HK2.out; omega⟩, ⟨by (with_reducible repeat (first | refine YN ?_ _ | refine YD ?_ | refine YA ?_ _)); exact BK547.out⟩, ⟨by repeat (first | (with_reducible first | exact HB.out | apply XA | apply XN | apply XD | refine XS ?_ GE547.out) | exact HB.out)⟩⟩
        ·case rel => exact ⟨((x5_2 ++ (⟨#[59]⟩ : ByteArray)) ++ a0_1), (x8_2), (wrap64 (x9_2 + 1)), sw, sw, sw, H', ⟨by have := HJ1.out; have := HK2.out; omega⟩, ⟨by (with_reducible repeat (first | refine YN ?_ _ | refine YD ?_ | refine YA ?_ _)); exact BK547.out⟩, ⟨by repeat (first | (with_reducible first | exact HB.out | apply XA | apply XN | apply XD | refine XS ?_ GE547.out) | exact HB.out)⟩⟩
     ·rw [if_neg c12] at H;exact absurd H (by simp)
    ·rw [if_neg c11] at H;exact absurd H (by simp)

end Go.Proofs.YtdakfmldbddokaaGreatDoor.P
-- SHRUNK
-- PACKED
-- PACKED2
