-- written by myprint.py (this claim's own program, after the kit's print)
import Derived.Test.YtgmdaaenhmclfaaPx0
import Derived.Test.YtgmdaaenhmclfaaPx2
import Derived.Test.YtgmdaaenhmclfaaPx3
import Derived.Test.YtgmdaaenhmclfaaPx4
import Derived.Test.YtgmdaaenhmclfaaPx7
import Derived.Test.YtgmdaaenhmclfaaDnPass
import Derived.Test.YtgmdaaenhmclfaaDnProblem
namespace Go.Proofs.Ytgmdaaenhmclfaa.P
open Go.RowKit Go.Proofs.YtgmdaaenhmclfaaW.PrintWords Go.Proofs.YtgmdaaenhmclfaaW.PrintLast Go.Proofs.YtgmdaaenhmclfaaW.PrintMore
attribute [local go_sem] max2_int min2_int max_two min_two max_three min_three max_four min_four   -- for this text's walks alone
set_option linter.unusedVariables false
set_option linter.unusedSimpArgs false

/-! ### belvederelaw18_DownOver: function 4 -/
mutual
def lawDO.l0 : Nat → List (S40) → List Int → Int → Int → Option (Bool)
 | 0, _, _, _, _ => none
 | k + 1, x0, x4, x5, x9A => if x5 < 70 then (if x4.length < 17592186044416 then (lawDO.l0 k x0 (x4 ++ [(-1)]) (wrap64 (x5 + 1)) x9A) else (none)) else (lawDO.l1 k x0 x4 0 0 x9A ([] : List (S31)))
def lawDO.l1 : Nat → List (S40) → List Int → Int → Int → Int → List (S31) → Option (Bool)
 | 0, _, _, _, _, _, _ => none
 | k + 1, x0, x4, x6, x7, x9A, x9B => if x7 < (x0.length : Int) then (if x7 < 60 then (if 0 ≤ x7 then (if (wrap64 (Int.tmod (IntKind.u64.wrap ((rd_T40 x0 x7).f0)) 7)) = 4 then (lawDO.j2 k x0 x4 (mx x6 (Int.tmod ((rd_T40 x0 x7).f2) 1000)) x7 (wrap64 (Int.tmod (IntKind.u64.wrap ((rd_T40 x0 x7).f0)) 7)) ((wrap64 (Int.tmod (IntKind.u64.wrap ((rd_T40 x0 x7).f0)) 7)) == 4) x9A x9B ((rd_T40 x0 x7).f0) ((rd_T40 x0 x7).f1.f0) ((rd_T40 x0 x7).f1.f1) ((rd_T40 x0 x7).f1.f2) ((rd_T40 x0 x7).f1.f3) ((rd_T40 x0 x7).f1.f4) ((rd_T40 x0 x7).f1.f5) ((rd_T40 x0 x7).f1.f6) ((rd_T40 x0 x7).f1.f7) ((rd_T40 x0 x7).f2)) else (lawDO.j2 k x0 x4 (mx x6 (Int.tmod ((rd_T40 x0 x7).f2) 1000)) x7 (wrap64 (Int.tmod (IntKind.u64.wrap ((rd_T40 x0 x7).f0)) 7)) ((wrap64 (Int.tmod (IntKind.u64.wrap ((rd_T40 x0 x7).f0)) 7)) == 5) x9A x9B ((rd_T40 x0 x7).f0) ((rd_T40 x0 x7).f1.f0) ((rd_T40 x0 x7).f1.f1) ((rd_T40 x0 x7).f1.f2) ((rd_T40 x0 x7).f1.f3) ((rd_T40 x0 x7).f1.f4) ((rd_T40 x0 x7).f1.f5) ((rd_T40 x0 x7).f1.f6) ((rd_T40 x0 x7).f1.f7) ((rd_T40 x0 x7).f2))) else (none)) else ((belvederelaw18_sure.f k).bind fun t196 => (some t196))) else ((belvederelaw18_sure.f k).bind fun t233 => (some t233))
def lawDO.j5 : Nat → List (S40) → List Int → Int → Int → Int → List (S31) → Option (Bool)
 | 0, _, _, _, _, _, _ => none
 | k + 1, x0, x4, x6, x7, x9A, x9B => (down_Check.f k x9A x9B).bind fun t223 => (if t223.isNone = true then (lawDO.l4 k x0 x4 x6 x7 0 x9A x9B) else (none))
def lawDO.l4 : Nat → List (S40) → List Int → Int → Int → Int → Int → List (S31) → Option (Bool)
 | 0, _, _, _, _, _, _, _ => none
 | k + 1, x0, x4, x6, x7, x16, x9A, x9B => if x16 < (x9B.length : Int) then (if 0 ≤ x16 then (if ((rd_T31 x9B x16).f0) < 1 then (none) else (if ((rd_T31 x9B x16).f0) > 65 then (none) else (if 0 ≤ ((rd_T31 x9B x16).f0) then (if ((rd_T31 x9B x16).f0) < (x4.length : Int) then (if (rd x4 ((rd_T31 x9B x16).f0)) ≥ 0 then (if ((rd_T31 x9B x16).f7) = (rd x4 ((rd_T31 x9B x16).f0)) then (lawDO.l4 k x0 (x4.set (((rd_T31 x9B x16).f0) : Int).toNat ((rd_T31 x9B x16).f7)) x6 x7 (wrap64 (x16 + 1)) x9A x9B) else (none)) else (lawDO.l4 k x0 (x4.set (((rd_T31 x9B x16).f0) : Int).toNat ((rd_T31 x9B x16).f7)) x6 x7 (wrap64 (x16 + 1)) x9A x9B)) else (none)) else (none)))) else (none)) else (lawDO.l1 k x0 x4 x6 (wrap64 (x7 + 1)) x9A x9B)
def lawDO.j2 : Nat → List (S40) → List Int → Int → Int → Int → Bool → Int → List (S31) → Int → Int → Int → Int → Int → Bool → Int → Int → Int → Int → Option (Bool)
 | 0, _, _, _, _, _, _, _, _, _, _, _, _, _, _, _, _, _, _ => none
 | k + 1, x0, x4, x6, x7, x48, x60, x9A, x9B, x199000, x199001, x199002, x199003, x199004, x199005, x199006, x199007, x199008, x199009 => if x60 = true then ((down_Problem.f k x9A x9B x199002 x6).bind fun bt199 => (lawDO.j5 k x0 x4 x6 x7 bt199.1 bt199.2)) else (if x48 = 6 then (lawDO.l2 k x0 x4 x6 x7 0 x9A x9B 0 0 0 0) else ((down_Add.f k x9A x9B x199001 x199002 x199003 x199004 x199005 x199006 x199007 x199008).bind fun bt215 => (if bt215.2.2.2.isNone = true then (lawDO.j5 k x0 x4 x6 x7 bt215.1 bt215.2.1) else (lawDO.j5 k x0 x4 x6 x7 x9A x9B))))
def lawDO.l2 : Nat → List (S40) → List Int → Int → Int → Int → Int → List (S31) → Int → Int → Int → Int → Option (Bool)
 | 0, _, _, _, _, _, _, _, _, _, _, _ => none
 | k + 1, x0, x4, x6, x7, x10, x9A, x9B, x9C, x9D, x9E, x9F => if x10 < 4 then ((down_Depth.f k x9A x9B x10 x6).bind fun t204 => (if x10 = (0 : Int) then (lawDO.l2 k x0 x4 x6 x7 (wrap64 (x10 + 1)) x9A x9B t204 x9D x9E x9F) else (if x10 = (1 : Int) then (lawDO.l2 k x0 x4 x6 x7 (wrap64 (x10 + 1)) x9A x9B x9C t204 x9E x9F) else (if x10 = (2 : Int) then (lawDO.l2 k x0 x4 x6 x7 (wrap64 (x10 + 1)) x9A x9B x9C x9D t204 x9F) else (if x10 = (3 : Int) then (lawDO.l2 k x0 x4 x6 x7 (wrap64 (x10 + 1)) x9A x9B x9C x9D x9E t204) else (none)))))) else ((down_Pass.f k x9A x9B x6).bind fun bt205 => (lawDO.l3 k x0 x4 x6 x7 0 x9C x9D x9E x9F bt205.1 bt205.2))
def lawDO.l3 : Nat → List (S40) → List Int → Int → Int → Int → Int → Int → Int → Int → Int → List (S31) → Option (Bool)
 | 0, _, _, _, _, _, _, _, _, _, _, _ => none
 | k + 1, x0, x4, x6, x7, x12, x9C, x9D, x9E, x9F, x9G, x9H => if x12 < 4 then ((down_Depth.f k x9G x9H x12 x6).bind fun t210 => (if x12 = (0 : Int) then (if t210 < x9C then (none) else (lawDO.l3 k x0 x4 x6 x7 (wrap64 (x12 + 1)) x9C x9D x9E x9F x9G x9H)) else (if x12 = (1 : Int) then (if t210 < x9D then (none) else (lawDO.l3 k x0 x4 x6 x7 (wrap64 (x12 + 1)) x9C x9D x9E x9F x9G x9H)) else (if x12 = (2 : Int) then (if t210 < x9E then (none) else (lawDO.l3 k x0 x4 x6 x7 (wrap64 (x12 + 1)) x9C x9D x9E x9F x9G x9H)) else (if x12 = (3 : Int) then (if t210 < x9F then (none) else (lawDO.l3 k x0 x4 x6 x7 (wrap64 (x12 + 1)) x9C x9D x9E x9F x9G x9H)) else (none)))))) else ((down_Pass.f k x9G x9H x6).bind fun bt211 => (if (bt211.2.length : Int) = (x9H.length : Int) then (lawDO.j5 k x0 x4 x6 x7 x9G x9H) else (none)))
end
def lawDO.f (k : Nat) (l0 : List (S40)) : Option (Bool) := lawDO.l0 k l0 ([] : List Int) 0 0
theorem lawDO.mono_l : ∀ k, (∀ y0 y1 y2 y3, LeO (lawDO.l0 k y0 y1 y2 y3) (lawDO.l0 (k + 1) y0 y1 y2 y3)) ∧ (∀ y0 y1 y2 y3 y4 y5, LeO (lawDO.l1 k y0 y1 y2 y3 y4 y5) (lawDO.l1 (k + 1) y0 y1 y2 y3 y4 y5)) ∧ (∀ y0 y1 y2 y3 y4 y5, LeO (lawDO.j5 k y0 y1 y2 y3 y4 y5) (lawDO.j5 (k + 1) y0 y1 y2 y3 y4 y5)) ∧ (∀ y0 y1 y2 y3 y4 y5 y6, LeO (lawDO.l4 k y0 y1 y2 y3 y4 y5 y6) (lawDO.l4 (k + 1) y0 y1 y2 y3 y4 y5 y6)) ∧ (∀ y0 y1 y2 y3 y4 y5 y6 y7 y8 y9 y10 y11 y12 y13 y14 y15 y16 y17, LeO (lawDO.j2 k y0 y1 y2 y3 y4 y5 y6 y7 y8 y9 y10 y11 y12 y13 y14 y15 y16 y17) (lawDO.j2 (k + 1) y0 y1 y2 y3 y4 y5 y6 y7 y8 y9 y10 y11 y12 y13 y14 y15 y16 y17)) ∧ (∀ y0 y1 y2 y3 y4 y5 y6 y7 y8 y9 y10, LeO (lawDO.l2 k y0 y1 y2 y3 y4 y5 y6 y7 y8 y9 y10) (lawDO.l2 (k + 1) y0 y1 y2 y3 y4 y5 y6 y7 y8 y9 y10)) ∧ (∀ y0 y1 y2 y3 y4 y5 y6 y7 y8 y9 y10, LeO (lawDO.l3 k y0 y1 y2 y3 y4 y5 y6 y7 y8 y9 y10) (lawDO.l3 (k + 1) y0 y1 y2 y3 y4 y5 y6 y7 y8 y9 y10))
 | 0 => ⟨fun _ _ _ _ r h => by simp [lawDO.l0] at h, fun _ _ _ _ _ _ r h => by simp [lawDO.l1] at h, fun _ _ _ _ _ _ r h => by simp [lawDO.j5] at h, fun _ _ _ _ _ _ _ r h => by simp [lawDO.l4] at h, fun _ _ _ _ _ _ _ _ _ _ _ _ _ _ _ _ _ _ r h => by simp [lawDO.j2] at h, fun _ _ _ _ _ _ _ _ _ _ _ r h => by simp [lawDO.l2] at h, fun _ _ _ _ _ _ _ _ _ _ _ r h => by simp [lawDO.l3] at h⟩
 | k + 1 => by
  obtain ⟨ih0, ih1, ih2, ih3, ih4, ih5, ih6⟩ := lawDO.mono_l k
  refine ⟨?_, ?_, ?_, ?_, ?_, ?_, ?_⟩
  ·intro y0 y1 y2 y3
   unfold lawDO.l0
   repeat' first
   | (with_reducible exact ih0 _ _ _ _)
   | (with_reducible exact ih1 _ _ _ _ _ _)
   | (with_reducible exact ih2 _ _ _ _ _ _)
   | (with_reducible exact ih3 _ _ _ _ _ _ _)
   | (with_reducible exact ih4 _ _ _ _ _ _ _ _ _ _ _ _ _ _ _ _ _ _)
   | (with_reducible exact ih5 _ _ _ _ _ _ _ _ _ _ _)
   | (with_reducible exact ih6 _ _ _ _ _ _ _ _ _ _ _)
   | (with_reducible exact belvederelaw18_sure.mono _)
   | (with_reducible exact down_Add.mono _ _ _ _ _ _ _ _ _ _ _)
   | (with_reducible exact down_Check.mono _ _ _)
   | (with_reducible exact down_Depth.mono _ _ _ _ _)
   | (with_reducible exact down_Pass.mono _ _ _ _)
   | (with_reducible exact down_Problem.mono _ _ _ _ _)
   | (with_reducible exact LeO.refl _)
   | (with_reducible exact LeO.none _)
   | (with_reducible refine LeO.ite ?_ ?_)
   | (with_reducible refine LeO.bind ?_ (fun _ => ?_))
   | exact ih0 _ _ _ _
   | exact ih1 _ _ _ _ _ _
   | exact ih2 _ _ _ _ _ _
   | exact ih3 _ _ _ _ _ _ _
   | exact ih4 _ _ _ _ _ _ _ _ _ _ _ _ _ _ _ _ _ _
   | exact ih5 _ _ _ _ _ _ _ _ _ _ _
   | exact ih6 _ _ _ _ _ _ _ _ _ _ _
   | exact belvederelaw18_sure.mono _
   | exact down_Add.mono _ _ _ _ _ _ _ _ _ _ _
   | exact down_Check.mono _ _ _
   | exact down_Depth.mono _ _ _ _ _
   | exact down_Pass.mono _ _ _ _
   | exact down_Problem.mono _ _ _ _ _
   | exact LeO.none _
   | refine LeO.ite ?_ ?_
   | refine LeO.bind ?_ (fun _ => ?_)
  ·intro y0 y1 y2 y3 y4 y5
   unfold lawDO.l1
   repeat' first
   | (with_reducible exact ih0 _ _ _ _)
   | (with_reducible exact ih1 _ _ _ _ _ _)
   | (with_reducible exact ih2 _ _ _ _ _ _)
   | (with_reducible exact ih3 _ _ _ _ _ _ _)
   | (with_reducible exact ih4 _ _ _ _ _ _ _ _ _ _ _ _ _ _ _ _ _ _)
   | (with_reducible exact ih5 _ _ _ _ _ _ _ _ _ _ _)
   | (with_reducible exact ih6 _ _ _ _ _ _ _ _ _ _ _)
   | (with_reducible exact belvederelaw18_sure.mono _)
   | (with_reducible exact down_Add.mono _ _ _ _ _ _ _ _ _ _ _)
   | (with_reducible exact down_Check.mono _ _ _)
   | (with_reducible exact down_Depth.mono _ _ _ _ _)
   | (with_reducible exact down_Pass.mono _ _ _ _)
   | (with_reducible exact down_Problem.mono _ _ _ _ _)
   | (with_reducible exact LeO.refl _)
   | (with_reducible exact LeO.none _)
   | (with_reducible refine LeO.ite ?_ ?_)
   | (with_reducible refine LeO.bind ?_ (fun _ => ?_))
   | exact ih0 _ _ _ _
   | exact ih1 _ _ _ _ _ _
   | exact ih2 _ _ _ _ _ _
   | exact ih3 _ _ _ _ _ _ _
   | exact ih4 _ _ _ _ _ _ _ _ _ _ _ _ _ _ _ _ _ _
   | exact ih5 _ _ _ _ _ _ _ _ _ _ _
   | exact ih6 _ _ _ _ _ _ _ _ _ _ _
   | exact belvederelaw18_sure.mono _
   | exact down_Add.mono _ _ _ _ _ _ _ _ _ _ _
   | exact down_Check.mono _ _ _
   | exact down_Depth.mono _ _ _ _ _
   | exact down_Pass.mono _ _ _ _
   | exact down_Problem.mono _ _ _ _ _
   | exact LeO.none _
   | refine LeO.ite ?_ ?_
   | refine LeO.bind ?_ (fun _ => ?_)
  ·intro y0 y1 y2 y3 y4 y5
   unfold lawDO.j5
   repeat' first
   | (with_reducible exact ih0 _ _ _ _)
   | (with_reducible exact ih1 _ _ _ _ _ _)
   | (with_reducible exact ih2 _ _ _ _ _ _)
   | (with_reducible exact ih3 _ _ _ _ _ _ _)
   | (with_reducible exact ih4 _ _ _ _ _ _ _ _ _ _ _ _ _ _ _ _ _ _)
   | (with_reducible exact ih5 _ _ _ _ _ _ _ _ _ _ _)
   | (with_reducible exact ih6 _ _ _ _ _ _ _ _ _ _ _)
   | (with_reducible exact belvederelaw18_sure.mono _)
   | (with_reducible exact down_Add.mono _ _ _ _ _ _ _ _ _ _ _)
   | (with_reducible exact down_Check.mono _ _ _)
   | (with_reducible exact down_Depth.mono _ _ _ _ _)
   | (with_reducible exact down_Pass.mono _ _ _ _)
   | (with_reducible exact down_Problem.mono _ _ _ _ _)
   | (with_reducible exact LeO.refl _)
   | (with_reducible exact LeO.none _)
   | (with_reducible refine LeO.ite ?_ ?_)
   | (with_reducible refine LeO.bind ?_ (fun _ => ?_))
   | exact ih0 _ _ _ _
   | exact ih1 _ _ _ _ _ _
   | exact ih2 _ _ _ _ _ _
   | exact ih3 _ _ _ _ _ _ _
   | exact ih4 _ _ _ _ _ _ _ _ _ _ _ _ _ _ _ _ _ _
   | exact ih5 _ _ _ _ _ _ _ _ _ _ _
   | exact ih6 _ _ _ _ _ _ _ _ _ _ _
   | exact belvederelaw18_sure.mono _
   | exact down_Add.mono _ _ _ _ _ _ _ _ _ _ _
   | exact down_Check.mono _ _ _
   | exact down_Depth.mono _ _ _ _ _
   | exact down_Pass.mono _ _ _ _
   | exact down_Problem.mono _ _ _ _ _
   | exact LeO.none _
   | refine LeO.ite ?_ ?_
   | refine LeO.bind ?_ (fun _ => ?_)
  ·intro y0 y1 y2 y3 y4 y5 y6
   unfold lawDO.l4
   repeat' first
   | (with_reducible exact ih0 _ _ _ _)
   | (with_reducible exact ih1 _ _ _ _ _ _)
   | (with_reducible exact ih2 _ _ _ _ _ _)
   | (with_reducible exact ih3 _ _ _ _ _ _ _)
   | (with_reducible exact ih4 _ _ _ _ _ _ _ _ _ _ _ _ _ _ _ _ _ _)
   | (with_reducible exact ih5 _ _ _ _ _ _ _ _ _ _ _)
   | (with_reducible exact ih6 _ _ _ _ _ _ _ _ _ _ _)
   | (with_reducible exact belvederelaw18_sure.mono _)
   | (with_reducible exact down_Add.mono _ _ _ _ _ _ _ _ _ _ _)
   | (with_reducible exact down_Check.mono _ _ _)
   | (with_reducible exact down_Depth.mono _ _ _ _ _)
   | (with_reducible exact down_Pass.mono _ _ _ _)
   | (with_reducible exact down_Problem.mono _ _ _ _ _)
   | (with_reducible exact LeO.refl _)
   | (with_reducible exact LeO.none _)
   | (with_reducible refine LeO.ite ?_ ?_)
   | (with_reducible refine LeO.bind ?_ (fun _ => ?_))
   | exact ih0 _ _ _ _
   | exact ih1 _ _ _ _ _ _
   | exact ih2 _ _ _ _ _ _
   | exact ih3 _ _ _ _ _ _ _
   | exact ih4 _ _ _ _ _ _ _ _ _ _ _ _ _ _ _ _ _ _
   | exact ih5 _ _ _ _ _ _ _ _ _ _ _
   | exact ih6 _ _ _ _ _ _ _ _ _ _ _
   | exact belvederelaw18_sure.mono _
   | exact down_Add.mono _ _ _ _ _ _ _ _ _ _ _
   | exact down_Check.mono _ _ _
   | exact down_Depth.mono _ _ _ _ _
   | exact down_Pass.mono _ _ _ _
   | exact down_Problem.mono _ _ _ _ _
   | exact LeO.none _
   | refine LeO.ite ?_ ?_
   | refine LeO.bind ?_ (fun _ => ?_)
  ·intro y0 y1 y2 y3 y4 y5 y6 y7 y8 y9 y10 y11 y12 y13 y14 y15 y16 y17
   unfold lawDO.j2
   repeat' first
   | (with_reducible exact ih0 _ _ _ _)
   | (with_reducible exact ih1 _ _ _ _ _ _)
   | (with_reducible exact ih2 _ _ _ _ _ _)
   | (with_reducible exact ih3 _ _ _ _ _ _ _)
   | (with_reducible exact ih4 _ _ _ _ _ _ _ _ _ _ _ _ _ _ _ _ _ _)
   | (with_reducible exact ih5 _ _ _ _ _ _ _ _ _ _ _)
   | (with_reducible exact ih6 _ _ _ _ _ _ _ _ _ _ _)
   | (with_reducible exact belvederelaw18_sure.mono _)
   | (with_reducible exact down_Add.mono _ _ _ _ _ _ _ _ _ _ _)
   | (with_reducible exact down_Check.mono _ _ _)
   | (with_reducible exact down_Depth.mono _ _ _ _ _)
   | (with_reducible exact down_Pass.mono _ _ _ _)
   | (with_reducible exact down_Problem.mono _ _ _ _ _)
   | (with_reducible exact LeO.refl _)
   | (with_reducible exact LeO.none _)
   | (with_reducible refine LeO.ite ?_ ?_)
   | (with_reducible refine LeO.bind ?_ (fun _ => ?_))
   | exact ih0 _ _ _ _
   | exact ih1 _ _ _ _ _ _
   | exact ih2 _ _ _ _ _ _
   | exact ih3 _ _ _ _ _ _ _
   | exact ih4 _ _ _ _ _ _ _ _ _ _ _ _ _ _ _ _ _ _
   | exact ih5 _ _ _ _ _ _ _ _ _ _ _
   | exact ih6 _ _ _ _ _ _ _ _ _ _ _
   | exact belvederelaw18_sure.mono _
   | exact down_Add.mono _ _ _ _ _ _ _ _ _ _ _
   | exact down_Check.mono _ _ _
   | exact down_Depth.mono _ _ _ _ _
   | exact down_Pass.mono _ _ _ _
   | exact down_Problem.mono _ _ _ _ _
   | exact LeO.none _
   | refine LeO.ite ?_ ?_
   | refine LeO.bind ?_ (fun _ => ?_)
  ·intro y0 y1 y2 y3 y4 y5 y6 y7 y8 y9 y10
   unfold lawDO.l2
   repeat' first
   | (with_reducible exact ih0 _ _ _ _)
   | (with_reducible exact ih1 _ _ _ _ _ _)
   | (with_reducible exact ih2 _ _ _ _ _ _)
   | (with_reducible exact ih3 _ _ _ _ _ _ _)
   | (with_reducible exact ih4 _ _ _ _ _ _ _ _ _ _ _ _ _ _ _ _ _ _)
   | (with_reducible exact ih5 _ _ _ _ _ _ _ _ _ _ _)
   | (with_reducible exact ih6 _ _ _ _ _ _ _ _ _ _ _)
   | (with_reducible exact belvederelaw18_sure.mono _)
   | (with_reducible exact down_Add.mono _ _ _ _ _ _ _ _ _ _ _)
   | (with_reducible exact down_Check.mono _ _ _)
   | (with_reducible exact down_Depth.mono _ _ _ _ _)
   | (with_reducible exact down_Pass.mono _ _ _ _)
   | (with_reducible exact down_Problem.mono _ _ _ _ _)
   | (with_reducible exact LeO.refl _)
   | (with_reducible exact LeO.none _)
   | (with_reducible refine LeO.ite ?_ ?_)
   | (with_reducible refine LeO.bind ?_ (fun _ => ?_))
   | exact ih0 _ _ _ _
   | exact ih1 _ _ _ _ _ _
   | exact ih2 _ _ _ _ _ _
   | exact ih3 _ _ _ _ _ _ _
   | exact ih4 _ _ _ _ _ _ _ _ _ _ _ _ _ _ _ _ _ _
   | exact ih5 _ _ _ _ _ _ _ _ _ _ _
   | exact ih6 _ _ _ _ _ _ _ _ _ _ _
   | exact belvederelaw18_sure.mono _
   | exact down_Add.mono _ _ _ _ _ _ _ _ _ _ _
   | exact down_Check.mono _ _ _
   | exact down_Depth.mono _ _ _ _ _
   | exact down_Pass.mono _ _ _ _
   | exact down_Problem.mono _ _ _ _ _
   | exact LeO.none _
   | refine LeO.ite ?_ ?_
   | refine LeO.bind ?_ (fun _ => ?_)
  ·intro y0 y1 y2 y3 y4 y5 y6 y7 y8 y9 y10
   unfold lawDO.l3
   repeat' first
   | (with_reducible exact ih0 _ _ _ _)
   | (with_reducible exact ih1 _ _ _ _ _ _)
   | (with_reducible exact ih2 _ _ _ _ _ _)
   | (with_reducible exact ih3 _ _ _ _ _ _ _)
   | (with_reducible exact ih4 _ _ _ _ _ _ _ _ _ _ _ _ _ _ _ _ _ _)
   | (with_reducible exact ih5 _ _ _ _ _ _ _ _ _ _ _)
   | (with_reducible exact ih6 _ _ _ _ _ _ _ _ _ _ _)
   | (with_reducible exact belvederelaw18_sure.mono _)
   | (with_reducible exact down_Add.mono _ _ _ _ _ _ _ _ _ _ _)
   | (with_reducible exact down_Check.mono _ _ _)
   | (with_reducible exact down_Depth.mono _ _ _ _ _)
   | (with_reducible exact down_Pass.mono _ _ _ _)
   | (with_reducible exact down_Problem.mono _ _ _ _ _)
   | (with_reducible exact LeO.refl _)
   | (with_reducible exact LeO.none _)
   | (with_reducible refine LeO.ite ?_ ?_)
   | (with_reducible refine LeO.bind ?_ (fun _ => ?_))
   | exact ih0 _ _ _ _
   | exact ih1 _ _ _ _ _ _
   | exact ih2 _ _ _ _ _ _
   | exact ih3 _ _ _ _ _ _ _
   | exact ih4 _ _ _ _ _ _ _ _ _ _ _ _ _ _ _ _ _ _
   | exact ih5 _ _ _ _ _ _ _ _ _ _ _
   | exact ih6 _ _ _ _ _ _ _ _ _ _ _
   | exact belvederelaw18_sure.mono _
   | exact down_Add.mono _ _ _ _ _ _ _ _ _ _ _
   | exact down_Check.mono _ _ _
   | exact down_Depth.mono _ _ _ _ _
   | exact down_Pass.mono _ _ _ _
   | exact down_Problem.mono _ _ _ _ _
   | exact LeO.none _
   | refine LeO.ite ?_ ?_
   | refine LeO.bind ?_ (fun _ => ?_)
theorem lawDO.mono : ∀ a0 k, LeO (lawDO.f k a0) (lawDO.f (k + 1) a0) := by
 intro a0 k
 obtain ⟨ih0, ih1, ih2, ih3, ih4, ih5, ih6⟩ := lawDO.mono_l k
 unfold lawDO.f
 repeat' first
   | (with_reducible exact ih0 _ _ _ _)
   | (with_reducible exact ih1 _ _ _ _ _ _)
   | (with_reducible exact ih2 _ _ _ _ _ _)
   | (with_reducible exact ih3 _ _ _ _ _ _ _)
   | (with_reducible exact ih4 _ _ _ _ _ _ _ _ _ _ _ _ _ _ _ _ _ _)
   | (with_reducible exact ih5 _ _ _ _ _ _ _ _ _ _ _)
   | (with_reducible exact ih6 _ _ _ _ _ _ _ _ _ _ _)
   | (with_reducible exact belvederelaw18_sure.mono _)
   | (with_reducible exact down_Add.mono _ _ _ _ _ _ _ _ _ _ _)
   | (with_reducible exact down_Check.mono _ _ _)
   | (with_reducible exact down_Depth.mono _ _ _ _ _)
   | (with_reducible exact down_Pass.mono _ _ _ _)
   | (with_reducible exact down_Problem.mono _ _ _ _ _)
   | (with_reducible exact LeO.refl _)
   | (with_reducible exact LeO.none _)
   | (with_reducible refine LeO.ite ?_ ?_)
   | (with_reducible refine LeO.bind ?_ (fun _ => ?_))
   | exact ih0 _ _ _ _
   | exact ih1 _ _ _ _ _ _
   | exact ih2 _ _ _ _ _ _
   | exact ih3 _ _ _ _ _ _ _
   | exact ih4 _ _ _ _ _ _ _ _ _ _ _ _ _ _ _ _ _ _
   | exact ih5 _ _ _ _ _ _ _ _ _ _ _
   | exact ih6 _ _ _ _ _ _ _ _ _ _ _
   | exact belvederelaw18_sure.mono _
   | exact down_Add.mono _ _ _ _ _ _ _ _ _ _ _
   | exact down_Check.mono _ _ _
   | exact down_Depth.mono _ _ _ _ _
   | exact down_Pass.mono _ _ _ _
   | exact down_Problem.mono _ _ _ _ _
   | exact LeO.none _
   | refine LeO.ite ?_ ?_
   | refine LeO.bind ?_ (fun _ => ?_)
def lawDO.T30 : Bool × List (List Nat × List Nat) := (true, [([], []), ([], []), ([], []), ([0, 1, 2], [0, 1, 2]), ([], []), ([4], [4]), ([5], [5]), ([3, 6], [3, 6])])
def lawDO.B30 : List Nat := [0, 0, 0, 7, 0, 16, 48, 127]
theorem lawDO.tab30 : rtab .any (opsOf Try.f4 30) = lawDO.T30 := by kernel_rfl
theorem lawDO.bits30 : waitsOk lawDO.T30.2 lawDO.B30 = true := by kernel_rfl
def lawDO.T33 : Bool × List (List Nat × List Nat) := (true, [([], []), ([], []), ([0, 1], [0, 1]), ([2], [2]), ([3], [3]), ([], []), ([5], [5]), ([6], [6]), ([4, 7], [4, 7])])
def lawDO.B33 : List Nat := [0, 0, 3, 7, 15, 0, 32, 96, 255]
theorem lawDO.tab33 : rtab .any (opsOf Try.f4 33) = lawDO.T33 := by kernel_rfl
theorem lawDO.bits33 : waitsOk lawDO.T33.2 lawDO.B33 = true := by kernel_rfl
def lawDO.T43 : Bool × List (List Nat × List Nat) := (true, [([], []), ([], []), ([0, 1], [0, 1]), ([2], [2]), ([3], [3]), ([4], [4]), ([5], [5]), ([6, 5], [5, 6]), ([5], [5]), ([7, 8, 5], [5, 7, 8]), ([9, 5], [5, 9]), ([10, 5], [5, 10]), ([5], [5]), ([5], [5]), ([12, 13, 5], [5, 12, 13]), ([14, 5], [5, 14]), ([11, 15, 5], [5, 11, 15]), ([5, 16], [5, 16])])
def lawDO.B43 : List Nat := [0, 0, 3, 7, 15, 31, 63, 127, 63, 511, 1023, 2047, 63, 63, 12351, 28735, 65535, 131071]
theorem lawDO.tab43 : rtab .any (opsOf Try.f4 43) = lawDO.T43 := by kernel_rfl
theorem lawDO.bits43 : waitsOk lawDO.T43.2 lawDO.B43 = true := by kernel_rfl
set_option maxHeartbeats 8000000 in
set_option maxRecDepth 100000 in
theorem lawDO.calls (k : Nat) (A0 : Option Addr) (c0 : Nat) (l0 : List (S40)) (r : Bool) (w : World) (hr0 : Kd.C k40 w A0 l0.length l0) (hc0 : l0.length ≤ c0) (h : lawDO.f k l0 = some r) :
  Calls Try.prog 4 #[.slice A0 l0.length c0] w fun e w' => e = .returned (.bool r) ∧ Below w.heap.size w w' := by
 have hu25 := Try.underlying25
 have hu40 := Try.underlying40
 have hu41 := Try.underlying41
 have hu38 := Try.underlying38
 have hu27 := Try.underlying27
 have hu52 := Try.underlying52
 have hfd25_1 : ∀ (a0_ : Int) (A1_ : Option Addr) (l1_ c1_ : Nat) (W_ : World), (Instr.field 25 (.agg #[.int .i64 a0_, .slice A1_ l1_ c1_]) 1).run Try.prog W_ = .ok (.slice A1_ l1_ c1_) W_ := by intros; kernel_rfl
 have HR0 := Aside0.mk hr0
 have HC0 := Aside0.mk hc0
 clear hr0 hc0
 have HB := Aside0.mk (Below.refl w.heap.size w)
 have H : (lawDO.l0 k l0 ([] : List Int) 0 0) = some r := h
 clear h
 have H' := Aside0.mk H
 clear H
 go_enter Try.func4, Try.ntmps4
 go_wp2_with (first | ((with_reducible refine gate_dst (N := 3) rfl ?_); refine box_event ?hg (N := 3) ?hd (cs := #[.int .i64 0, .slice none 0 0]) (t := 25) ?hr ?_; (case hd => rfl); (case hg => rfl); (case hr => first | (go_simp; done) | (go_simp; rfl)); intro gb192 hg w2 hbox hb; have n0_ := Aside0.mk (below_step (by repeat (first | (with_reducible first | exact HB.out | apply below_alloc | apply pw_below_drewN | apply below_drew1) | exact HB.out)) hb); have n1_ := Aside0.mk (hbox); have n2_ := Aside0.mk ((by rw [hg]; exact (below_size (by repeat (first | (with_reducible first | exact HB.out | apply below_alloc | apply pw_below_drewN | apply below_drew1) | exact HB.out))) : w.heap.size ≤ gb192)); have n3_ := Aside0.mk ((by rw [hg]; exact (below_size (by repeat (first | (with_reducible first | exact HB.out | apply below_alloc | apply pw_below_drewN | apply below_drew1) | exact HB.out))) : w.heap.size ≤ gb192)); clear HB; have HB := n0_; have BK192 := n1_; have GW192 := n2_; have GE192 := n3_; clear n0_ n1_ n2_ n3_; clear hb hbox hg))
 go_loopg [4, 5] k (fun kq v4 v5 w' => ∃ (x4_1 : List Int) (x5_1 : Int), v5 = .int .i64 x5_1 ∧ Aside0 (lawDO.l0 kq l0 x4_1 x5_1 0 = some r) ∧ Aside0 (kq ≤ k) ∧ Aside0 (Kd.R (Kd.int .i64) 3 w' w.heap.size (fun _ => True) v4 x4_1) ∧ Aside0 (w'.heap[gb192]? = some (.cells #[.int .i64 0, (.slice none 0 0)] 25 (0, 0))) ∧ Aside0 (Below w.heap.size w w'))
 case atStart => exact ⟨(([] : List Int)), (0), (by first | rfl | (simp; done) | (simp [*]; done) | (simp; unfold wrap64; omega)), H', ⟨Nat.le_refl _⟩, ⟨by first | exact Kd.R_nil _ _ _ _ _ | exact Kd.N_nil _ _ _ _ _ | exact Kd.V_nil _ _ _ _ _ | exact Kd.Q_nil _ _ _ _ _ | exact Kd.S_nil _ _ _ _ _⟩, ⟨by (with_reducible repeat (first | refine blk_drewN ?_ _ | refine blk_drew ?_ | refine blk_alloc ?_ _)); exact BK192.out⟩, ⟨by repeat (first | (with_reducible first | exact HB.out | apply below_alloc | apply pw_below_drewN | apply below_drew1 | refine below_set ?_ GE192.out) | exact HB.out)⟩⟩
 case round =>
  clear H'
  try clear p2
  obtain ⟨x4_1, x5_1, rfl, HA, HK1, HO_4, BK192, HB⟩ := hrel
  cases gk with
  | zero => exact absurd HA.out (by simp [lawDO.l0])
  | succ k1 =>
   have H := HA.out
   clear HA
   simp only [lawDO.l0] at H
   by_cases c3 : x5_1 < 70
   ·rw [if_pos c3] at H
    have c3b0 : decide (x5_1 < 70) = true := decide_eq_true c3
    clear c3
    by_cases c4 : x4_1.length < 17592186044416
    ·rw [if_pos c4] at H
     have LMc4 := Aside0.mk c4
     clear c4
     obtain ⟨y193, hy193⟩ : ∃ y_ : List Int, y_ = (x4_1 ++ [(-1)]) := ⟨_, rfl⟩
     replace H : (lawDO.l0 k1 l0 y193 (wrap64 (x5_1 + 1)) 0) = some r := by first | (rw [hy193]; with_reducible exact H) | (have H2_ := (Option.bind_some _ _).symm.trans H; rw [hy193]; with_reducible exact H2_) | (have H2_ := (Option.bind_some _ _).symm.trans H; with_reducible exact H2_) | with_reducible exact H | (rw [hy193]; exact H) | exact H
     have Ny193 := Aside0.mk hy193
     clear hy193
     have H' := Aside0.mk H
     clear H
     go_wp2_with (first | ((with_reducible refine gate_builtin (b := .append) (xs := #[.tmp 22, .tmp 23]) rfl ?_); at_builtin; refine Kd.R_append (Kd.int .i64) (w0 := w) w.heap.size rfl (.tmp 22) (.tmp 23) 22 3 (.int .i64 0) 8 rfl Try.underlying22 info3 rfl (by decide) (by omega) u4 x4_1 (-1) [.int .i64 (-1)] (fun _ => True) (fun _ => False) rfl rfl ?aP (fun _ hk => hk.elim) ?aF ?aO ?aB ?aS ?aL ?_; (case aP => exact rfl); (case aB => exact (by repeat (first | (with_reducible first | exact HB.out | apply below_alloc | apply pw_below_drewN | apply below_drew1 | refine below_set ?_ GE192.out) | exact HB.out))); (case aF => exact (fun _ _ => trivial)); (case aO => exact (by (with_reducible repeat (first | apply Kd.R_alloc | apply Kd.R_drewN | apply Kd.R_drew)); exact HO_4.out)); (case aS => exact (below_size (by repeat (first | (with_reducible first | exact HB.out | apply below_alloc | apply pw_below_drewN | apply below_drew1 | refine below_set ?_ GE192.out) | exact HB.out)))); (case aL => have := LMc4.out; omega); intro v194 w5 ho hb hg hat; rw [← Ny193.out] at ho; have n0_ := Aside0.mk (blk_grown (g := gb192) (o := .cells #[.int .i64 0, .slice none 0 0] 25 (0, 0)) (by (with_reducible repeat (first | refine blk_drewN ?_ _ | refine blk_drew ?_ | refine blk_alloc ?_ _)); exact BK192.out) hg (Kd.R_ne HO_4.out BK192.out (by decide))); have n1_ := Aside0.mk (hb); have n2_ := Aside0.mk (ho); clear BK192; clear HB; clear HO_4; have BK192 := n0_; have HB := n1_; have HO195 := n2_; clear n0_ n1_ n2_; clear ho hb hg hat))
     go_roundg k1
     case measure => have := HK1.out; omega
     case rel => exact ⟨(y193), (wrap64 (x5_1 + 1)), (by first | rfl | (simp; done) | (simp [*]; done) | (simp; unfold wrap64; omega)), H', ⟨by have := HK1.out; omega⟩, ⟨by (with_reducible repeat (first | apply Kd.R_alloc | apply Kd.R_drewN | apply Kd.R_drew)); exact HO195.out⟩, ⟨by (with_reducible repeat (first | refine blk_drewN ?_ _ | refine blk_drew ?_ | refine blk_alloc ?_ _)); exact BK192.out⟩, ⟨by repeat (first | (with_reducible first | exact HB.out | apply below_alloc | apply pw_below_drewN | apply below_drew1 | refine below_set ?_ GE192.out) | exact HB.out)⟩⟩
    ·rw [if_neg c4] at H
     exact absurd H (by simp)
   ·rw [if_neg c3] at H
    have c3b0 : decide (x5_1 < 70) = false := decide_eq_false c3
    clear c3
    have H' := Aside0.mk H
    clear H
    go_wp2
    go_loopg [6, 7] k1 (fun kq v6 v7 w' => ∃ (x4_2 : List Int) (x6_2 : Int) (x7_2 : Int) (x9A_2 : Int) (x9B_2 : List (S31)) (u9B : Value), v6 = .int .i64 x6_2 ∧ v7 = .int .i64 x7_2 ∧ Aside0 (lawDO.l1 kq l0 x4_2 x6_2 x7_2 x9A_2 x9B_2 = some r) ∧ Aside0 (kq ≤ k1) ∧ Aside0 (Kd.R (Kd.int .i64) 3 w' w.heap.size (fun _ => True) u4 x4_2) ∧ Aside0 (Kd.R k31 31 w' w.heap.size (fun _ => True) u9B x9B_2) ∧ Aside0 (w'.heap[gb192]? = some (.cells #[.int .i64 x9A_2, u9B] 25 (0, 0))) ∧ Aside0 (Below w.heap.size w w'))
    case atStart => exact ⟨(x4_1), (0), (0), (0), (([] : List (S31))), (.slice none 0 0), (by first | rfl | (simp; done) | (simp [*]; done) | (simp; unfold wrap64; omega)), (by first | rfl | (simp; done) | (simp [*]; done) | (simp; unfold wrap64; omega)), H', ⟨Nat.le_refl _⟩, ⟨by (with_reducible repeat (first | apply Kd.R_alloc | apply Kd.R_drewN | apply Kd.R_drew)); exact HO_4.out⟩, ⟨by first | exact Kd.R_nil _ _ _ _ _ | exact Kd.N_nil _ _ _ _ _ | exact Kd.V_nil _ _ _ _ _ | exact Kd.Q_nil _ _ _ _ _ | exact Kd.S_nil _ _ _ _ _⟩, ⟨by (with_reducible repeat (first | refine blk_drewN ?_ _ | refine blk_drew ?_ | refine blk_alloc ?_ _)); exact BK192.out⟩, ⟨by repeat (first | (with_reducible first | exact HB.out | apply below_alloc | apply pw_below_drewN | apply below_drew1 | refine below_set ?_ GE192.out) | exact HB.out)⟩⟩
    case round =>
     clear H'
     try clear p2
     try clear c3
     try clear c3b0
     try clear c4
     try clear p2
     obtain ⟨x4_2, x6_2, x7_2, x9A_2, x9B_2, u9B, rfl, rfl, HA, HK2, HO_4, HO_9B, BK192, HB⟩ := hrel
     cases gk with
     | zero => exact absurd HA.out (by simp [lawDO.l1])
     | succ k2 =>
      have H := HA.out
      clear HA
      simp only [lawDO.l1] at H
      by_cases c6 : x7_2 < (l0.length : Int)
      ·rw [if_pos c6] at H
       have c6b0 : decide (x7_2 < (l0.length : Int)) = true := decide_eq_true c6
       clear c6
       by_cases c7 : x7_2 < 60
       ·rw [if_pos c7] at H
        have c7b0 : decide (x7_2 < 60) = true := decide_eq_true c7
        clear c7
        by_cases c8 : 0 ≤ x7_2
        ·rw [if_pos c8] at H
         have c8b0 : decide (0 ≤ x7_2) = true := decide_eq_true c8
         clear c8
         obtain ⟨ji9, hji9⟩ : ∃ j_ : Int, (mx x6_2 (Int.tmod ((rd_T40 l0 x7_2).f2) 1000)) = j_ := ⟨_, rfl⟩
         replace H : (if (wrap64 (Int.tmod (IntKind.u64.wrap ((rd_T40 l0 x7_2).f0)) 7)) = 4 then (lawDO.j2 k2 l0 x4_2 ji9 x7_2 (wrap64 (Int.tmod (IntKind.u64.wrap ((rd_T40 l0 x7_2).f0)) 7)) ((wrap64 (Int.tmod (IntKind.u64.wrap ((rd_T40 l0 x7_2).f0)) 7)) == 4) x9A_2 x9B_2 ((rd_T40 l0 x7_2).f0) ((rd_T40 l0 x7_2).f1.f0) ((rd_T40 l0 x7_2).f1.f1) ((rd_T40 l0 x7_2).f1.f2) ((rd_T40 l0 x7_2).f1.f3) ((rd_T40 l0 x7_2).f1.f4) ((rd_T40 l0 x7_2).f1.f5) ((rd_T40 l0 x7_2).f1.f6) ((rd_T40 l0 x7_2).f1.f7) ((rd_T40 l0 x7_2).f2)) else (lawDO.j2 k2 l0 x4_2 ji9 x7_2 (wrap64 (Int.tmod (IntKind.u64.wrap ((rd_T40 l0 x7_2).f0)) 7)) ((wrap64 (Int.tmod (IntKind.u64.wrap ((rd_T40 l0 x7_2).f0)) 7)) == 5) x9A_2 x9B_2 ((rd_T40 l0 x7_2).f0) ((rd_T40 l0 x7_2).f1.f0) ((rd_T40 l0 x7_2).f1.f1) ((rd_T40 l0 x7_2).f1.f2) ((rd_T40 l0 x7_2).f1.f3) ((rd_T40 l0 x7_2).f1.f4) ((rd_T40 l0 x7_2).f1.f5) ((rd_T40 l0 x7_2).f1.f6) ((rd_T40 l0 x7_2).f1.f7) ((rd_T40 l0 x7_2).f2))) = some r := by first | (rw [hji9] at H; exact H) | (simp only [hji9] at H ⊢; exact H)
         have hji9_ : (if x6_2 < (Int.tmod ((rd_T40 l0 x7_2).f2) 1000) then (Int.tmod ((rd_T40 l0 x7_2).f2) 1000) else x6_2) = ji9 := hji9
         have HC10 := Aside0.mk H
         clear H
         have p197 : 0 ≤ (x7_2 : Int) := of_decide_eq_true (by first | (with_reducible assumption) | assumption)
         have q197 : x7_2 < (l0.length : Int) := of_decide_eq_true (by first | (with_reducible assumption) | assumption)
         obtain ⟨ad197, e197, hx197_0, hx197_1, hx197_2, hx197_3, hx197_4, hx197_5, hx197_6, hx197_7, hx197_8, hx197_9⟩ := at_T40 HR0.out x7_2 p197 q197
         cases e197
         replace hx197_0 := (HB.out.cell (World.block_lt_of_cell? w _ hx197_0)).trans hx197_0
         replace hx197_1 := (HB.out.cell (World.block_lt_of_cell? w _ hx197_1)).trans hx197_1
         replace hx197_2 := (HB.out.cell (World.block_lt_of_cell? w _ hx197_2)).trans hx197_2
         replace hx197_3 := (HB.out.cell (World.block_lt_of_cell? w _ hx197_3)).trans hx197_3
         replace hx197_4 := (HB.out.cell (World.block_lt_of_cell? w _ hx197_4)).trans hx197_4
         replace hx197_5 := (HB.out.cell (World.block_lt_of_cell? w _ hx197_5)).trans hx197_5
         replace hx197_6 := (HB.out.cell (World.block_lt_of_cell? w _ hx197_6)).trans hx197_6
         replace hx197_7 := (HB.out.cell (World.block_lt_of_cell? w _ hx197_7)).trans hx197_7
         replace hx197_8 := (HB.out.cell (World.block_lt_of_cell? w _ hx197_8)).trans hx197_8
         replace hx197_9 := (HB.out.cell (World.block_lt_of_cell? w _ hx197_9)).trans hx197_9
         replace p197 := eq_true p197
         replace q197 := eq_true q197
         go_upto_block 4 with (first | ((with_reducible refine gate_dst (N := 8) rfl ?_); refine box_event ?hg (N := 8) ?hd (cs := #[.int .i64 0, .int .i64 0, .int .i64 0, .int .i64 0, .int .i64 0, .bool false, .int .i64 0, .int .i64 0, .int .i64 0, .int .i64 0]) (t := 40) ?hr ?_; (case hd => rfl); (case hg => rfl); (case hr => first | (go_simp; done) | (go_simp; rfl)); intro gb198 hg w11 hbox hb; have n0_ := Aside0.mk (Kd.R_below (by (with_reducible repeat (first | apply Kd.R_alloc | apply Kd.R_drewN | apply Kd.R_drew)); exact HO_4.out) hb); have n1_ := Aside0.mk (Kd.R_below (by (with_reducible repeat (first | apply Kd.R_alloc | apply Kd.R_drewN | apply Kd.R_drew)); exact HO_9B.out) hb); have n2_ := Aside0.mk (blk_below (g := gb192) (o := .cells #[.int .i64 x9A_2, u9B] 25 (0, 0)) (by (with_reducible repeat (first | refine blk_drewN ?_ _ | refine blk_drew ?_ | refine blk_alloc ?_ _)); exact BK192.out) hb); have n3_ := Aside0.mk (below_step (by repeat (first | (with_reducible first | exact HB.out | apply below_alloc | apply pw_below_drewN | apply below_drew1 | refine below_set ?_ GE192.out) | exact HB.out)) hb); have n4_ := Aside0.mk (hbox); have n5_ := Aside0.mk ((by rw [hg]; exact (below_size (by repeat (first | (with_reducible first | exact HB.out | apply below_alloc | apply pw_below_drewN | apply below_drew1 | refine below_set ?_ GE192.out) | exact HB.out))) : w.heap.size ≤ gb198)); have n6_ := Aside0.mk ((by rw [hg]; exact (below_size (by repeat (first | (with_reducible first | exact HB.out | apply below_alloc | apply pw_below_drewN | apply below_drew1 | refine below_set ?_ GE192.out) | exact HB.out))) : w.heap.size ≤ gb198)); have n7_ := Aside0.mk ((by rw [hg]; exact Nat.ne_of_lt (blk_lt (g := gb192) (o := .cells #[.int .i64 x9A_2, u9B] 25 (0, 0)) (by (with_reducible repeat (first | refine blk_drewN ?_ _ | refine blk_drew ?_ | refine blk_alloc ?_ _)); exact BK192.out)) : gb192 ≠ gb198)); have n8_ := Aside0.mk ((by rw [hg]; exact Nat.ne_of_gt (blk_lt (g := gb192) (o := .cells #[.int .i64 x9A_2, u9B] 25 (0, 0)) (by (with_reducible repeat (first | refine blk_drewN ?_ _ | refine blk_drew ?_ | refine blk_alloc ?_ _)); exact BK192.out)) : gb198 ≠ gb192)); clear HO_4; clear HO_9B; clear BK192; clear HB; have HO_4 := n0_; have HO_9B := n1_; have BK192 := n2_; have HB := n3_; have BK198 := n4_; have GW198 := n5_; have GE198 := n6_; have NB192_198 := n7_; have NB198_192 := n8_; clear n0_ n1_ n2_ n3_ n4_ n5_ n6_ n7_ n8_; clear hb hbox hg; have hnb12 := NB198_192.out; have hnc12 := NB192_198.out; have hcz13_0 : w11.cell? ⟨gb198, 0, none⟩ = some (.int .i64 0) := (blk_cell BK198.out 0).trans rfl; have hcz13_1 : w11.cell? ⟨gb198, 1, none⟩ = some (.int .i64 0) := (blk_cell BK198.out 1).trans rfl; have hcz13_2 : w11.cell? ⟨gb198, 2, none⟩ = some (.int .i64 0) := (blk_cell BK198.out 2).trans rfl; have hcz13_3 : w11.cell? ⟨gb198, 3, none⟩ = some (.int .i64 0) := (blk_cell BK198.out 3).trans rfl; have hcz13_4 : w11.cell? ⟨gb198, 4, none⟩ = some (.int .i64 0) := (blk_cell BK198.out 4).trans rfl; have hcz13_5 : w11.cell? ⟨gb198, 5, none⟩ = some (.bool false) := (blk_cell BK198.out 5).trans rfl; have hcz13_6 : w11.cell? ⟨gb198, 6, none⟩ = some (.int .i64 0) := (blk_cell BK198.out 6).trans rfl; have hcz13_7 : w11.cell? ⟨gb198, 7, none⟩ = some (.int .i64 0) := (blk_cell BK198.out 7).trans rfl; have hcz13_8 : w11.cell? ⟨gb198, 8, none⟩ = some (.int .i64 0) := (blk_cell BK198.out 8).trans rfl; have hcz13_9 : w11.cell? ⟨gb198, 9, none⟩ = some (.int .i64 0) := (blk_cell BK198.out 9).trans rfl; have hfz13_0 := blk_frozen BK198.out 0; have hfz13_1 := blk_frozen BK198.out 1; have hfz13_2 := blk_frozen BK198.out 2; have hfz13_3 := blk_frozen BK198.out 3; have hfz13_4 := blk_frozen BK198.out 4; have hfz13_5 := blk_frozen BK198.out 5; have hfz13_6 := blk_frozen BK198.out 6; have hfz13_7 := blk_frozen BK198.out 7; have hfz13_8 := blk_frozen BK198.out 8; have hfz13_9 := blk_frozen BK198.out 9))
         (try simp only [Act.put, List.setIfInBounds_toArray, List.set_cons_zero, List.set_cons_succ])
         go_cut [] (fun wc => ∃ (kq : Nat) (x9A_9 : Int) (x9B_9 : List (S31)) (u9B : Value), Aside0 (lawDO.j5 kq l0 x4_2 ji9 x7_2 x9A_9 x9B_9 = some r) ∧ Aside0 (kq ≤ k2) ∧ Aside0 (Kd.R (Kd.int .i64) 3 wc w.heap.size (fun _ => True) u4 x4_2) ∧ Aside0 (Kd.R k31 31 wc w.heap.size (fun _ => True) u9B x9B_9) ∧ Aside0 (wc.heap[gb192]? = some (.cells #[.int .i64 x9A_9, u9B] 25 (0, 0))) ∧ Aside0 (wc.heap[gb198]? = some (.cells #[.int .i64 ((rd_T40 l0 x7_2).f0), .int .i64 ((rd_T40 l0 x7_2).f1.f0), .int .i64 ((rd_T40 l0 x7_2).f1.f1), .int .i64 ((rd_T40 l0 x7_2).f1.f2), .int .i64 ((rd_T40 l0 x7_2).f1.f3), .bool ((rd_T40 l0 x7_2).f1.f4), .int .i64 ((rd_T40 l0 x7_2).f1.f5), .int .i64 ((rd_T40 l0 x7_2).f1.f6), .int .i64 ((rd_T40 l0 x7_2).f1.f7), .int .i64 ((rd_T40 l0 x7_2).f2)] 40 (0, 0))) ∧ Aside0 (Below w.heap.size w wc))
         case first =>
          have H := HC10.out
          clear HC10
          have HC14 := Aside0.mk H
          clear H
          go_upto_if 60 with (fail)
          go_cut [60] (fun v60 wc => ∃ (kq : Nat) (x60_13 : Bool), v60 = .bool x60_13 ∧ Aside0 (lawDO.j2 kq l0 x4_2 ji9 x7_2 (wrap64 (Int.tmod (IntKind.u64.wrap ((rd_T40 l0 x7_2).f0)) 7)) x60_13 x9A_2 x9B_2 ((rd_T40 l0 x7_2).f0) ((rd_T40 l0 x7_2).f1.f0) ((rd_T40 l0 x7_2).f1.f1) ((rd_T40 l0 x7_2).f1.f2) ((rd_T40 l0 x7_2).f1.f3) ((rd_T40 l0 x7_2).f1.f4) ((rd_T40 l0 x7_2).f1.f5) ((rd_T40 l0 x7_2).f1.f6) ((rd_T40 l0 x7_2).f1.f7) ((rd_T40 l0 x7_2).f2) = some r) ∧ Aside0 (kq ≤ k2) ∧ Aside0 (Kd.R (Kd.int .i64) 3 wc w.heap.size (fun _ => True) u4 x4_2) ∧ Aside0 (Kd.R k31 31 wc w.heap.size (fun _ => True) u9B x9B_2) ∧ Aside0 (wc.heap[gb192]? = some (.cells #[.int .i64 x9A_2, u9B] 25 (0, 0))) ∧ Aside0 (wc.heap[gb198]? = some (.cells #[.int .i64 ((rd_T40 l0 x7_2).f0), .int .i64 ((rd_T40 l0 x7_2).f1.f0), .int .i64 ((rd_T40 l0 x7_2).f1.f1), .int .i64 ((rd_T40 l0 x7_2).f1.f2), .int .i64 ((rd_T40 l0 x7_2).f1.f3), .bool ((rd_T40 l0 x7_2).f1.f4), .int .i64 ((rd_T40 l0 x7_2).f1.f5), .int .i64 ((rd_T40 l0 x7_2).f1.f6), .int .i64 ((rd_T40 l0 x7_2).f1.f7), .int .i64 ((rd_T40 l0 x7_2).f2)] 40 (0, 0))) ∧ Aside0 (Below w.heap.size w wc))
          case first =>
           have H := HC14.out
           clear HC14
           by_cases c15 : (wrap64 (Int.tmod (IntKind.u64.wrap ((rd_T40 l0 x7_2).f0)) 7)) = 4
           ·rw [if_pos c15] at H
            have c15b0 : ((wrap64 (Int.tmod (IntKind.u64.wrap ((rd_T40 l0 x7_2).f0)) 7)) == 4) = true := beq_iff_eq.mpr c15
            have c15b1 : ((wrap64 (Int.tmod (IntKind.u64.wrap ((rd_T40 l0 x7_2).f0)) 7)) != 4) = false := bne_eq_false_iff_eq.mpr c15
            clear c15
            (first | rw [c15b0] | (simp only [i64_w, i32_w]; rw [c15b0]) | skip)
            have H' := Aside0.mk H
            clear H
            go_wp2
            go_meet
            case rel => exact ⟨_, (((wrap64 (Int.tmod (IntKind.u64.wrap ((rd_T40 l0 x7_2).f0)) 7)) == 4)), (by first | rfl | (simp; done) | (simp [*]; done) | (simp; unfold wrap64; omega)), H', ⟨by have := HK1.out; have := HK2.out; first | omega | exact Nat.le_refl _⟩, ⟨by (with_reducible repeat (first | apply Kd.R_alloc | apply Kd.R_drewN | apply Kd.R_drew)); exact Kd.R_mono (Kd.R_far (p := ⟨gb198, 9, none⟩) (Kd.R_far (p := ⟨gb198, 8, none⟩) (Kd.R_far (p := ⟨gb198, 7, none⟩) (Kd.R_far (p := ⟨gb198, 6, none⟩) (Kd.R_far (p := ⟨gb198, 5, none⟩) (Kd.R_far (p := ⟨gb198, 4, none⟩) (Kd.R_far (p := ⟨gb198, 3, none⟩) (Kd.R_far (p := ⟨gb198, 2, none⟩) (Kd.R_far (p := ⟨gb198, 1, none⟩) (Kd.R_far (p := ⟨gb198, 0, none⟩) (Kd.R_types HO_4.out BK198.out (by decide)) (fun _ hk => hk.2) (.int .i64 ((rd_T40 l0 x7_2).f0))) (fun _ hk => hk.2) (.int .i64 ((rd_T40 l0 x7_2).f1.f0))) (fun _ hk => hk.2) (.int .i64 ((rd_T40 l0 x7_2).f1.f1))) (fun _ hk => hk.2) (.int .i64 ((rd_T40 l0 x7_2).f1.f2))) (fun _ hk => hk.2) (.int .i64 ((rd_T40 l0 x7_2).f1.f3))) (fun _ hk => hk.2) (.bool ((rd_T40 l0 x7_2).f1.f4))) (fun _ hk => hk.2) (.int .i64 ((rd_T40 l0 x7_2).f1.f5))) (fun _ hk => hk.2) (.int .i64 ((rd_T40 l0 x7_2).f1.f6))) (fun _ hk => hk.2) (.int .i64 ((rd_T40 l0 x7_2).f1.f7))) (fun _ hk => hk.2) (.int .i64 ((rd_T40 l0 x7_2).f2))) (fun _ hk => trivial)⟩, ⟨by (with_reducible repeat (first | apply Kd.R_alloc | apply Kd.R_drewN | apply Kd.R_drew)); exact Kd.R_mono (Kd.R_far (p := ⟨gb198, 9, none⟩) (Kd.R_far (p := ⟨gb198, 8, none⟩) (Kd.R_far (p := ⟨gb198, 7, none⟩) (Kd.R_far (p := ⟨gb198, 6, none⟩) (Kd.R_far (p := ⟨gb198, 5, none⟩) (Kd.R_far (p := ⟨gb198, 4, none⟩) (Kd.R_far (p := ⟨gb198, 3, none⟩) (Kd.R_far (p := ⟨gb198, 2, none⟩) (Kd.R_far (p := ⟨gb198, 1, none⟩) (Kd.R_far (p := ⟨gb198, 0, none⟩) (Kd.R_types HO_9B.out BK198.out (by decide)) (fun _ hk => hk.2) (.int .i64 ((rd_T40 l0 x7_2).f0))) (fun _ hk => hk.2) (.int .i64 ((rd_T40 l0 x7_2).f1.f0))) (fun _ hk => hk.2) (.int .i64 ((rd_T40 l0 x7_2).f1.f1))) (fun _ hk => hk.2) (.int .i64 ((rd_T40 l0 x7_2).f1.f2))) (fun _ hk => hk.2) (.int .i64 ((rd_T40 l0 x7_2).f1.f3))) (fun _ hk => hk.2) (.bool ((rd_T40 l0 x7_2).f1.f4))) (fun _ hk => hk.2) (.int .i64 ((rd_T40 l0 x7_2).f1.f5))) (fun _ hk => hk.2) (.int .i64 ((rd_T40 l0 x7_2).f1.f6))) (fun _ hk => hk.2) (.int .i64 ((rd_T40 l0 x7_2).f1.f7))) (fun _ hk => hk.2) (.int .i64 ((rd_T40 l0 x7_2).f2))) (fun _ hk => trivial)⟩, ⟨by (with_reducible repeat (first | refine blk_drewN ?_ _ | refine blk_drew ?_ | refine blk_alloc ?_ _)); refine blk_far ?_ NB192_198.out _; (with_reducible repeat (first | refine blk_drewN ?_ _ | refine blk_drew ?_ | refine blk_alloc ?_ _)); refine blk_far ?_ NB192_198.out _; (with_reducible repeat (first | refine blk_drewN ?_ _ | refine blk_drew ?_ | refine blk_alloc ?_ _)); refine blk_far ?_ NB192_198.out _; (with_reducible repeat (first | refine blk_drewN ?_ _ | refine blk_drew ?_ | refine blk_alloc ?_ _)); refine blk_far ?_ NB192_198.out _; (with_reducible repeat (first | refine blk_drewN ?_ _ | refine blk_drew ?_ | refine blk_alloc ?_ _)); refine blk_far ?_ NB192_198.out _; (with_reducible repeat (first | refine blk_drewN ?_ _ | refine blk_drew ?_ | refine blk_alloc ?_ _)); refine blk_far ?_ NB192_198.out _; (with_reducible repeat (first | refine blk_drewN ?_ _ | refine blk_drew ?_ | refine blk_alloc ?_ _)); refine blk_far ?_ NB192_198.out _; (with_reducible repeat (first | refine blk_drewN ?_ _ | refine blk_drew ?_ | refine blk_alloc ?_ _)); refine blk_far ?_ NB192_198.out _; (with_reducible repeat (first | refine blk_drewN ?_ _ | refine blk_drew ?_ | refine blk_alloc ?_ _)); refine blk_far ?_ NB192_198.out _; (with_reducible repeat (first | refine blk_drewN ?_ _ | refine blk_drew ?_ | refine blk_alloc ?_ _)); refine blk_far ?_ NB192_198.out _; (with_reducible repeat (first | refine blk_drewN ?_ _ | refine blk_drew ?_ | refine blk_alloc ?_ _)); exact BK192.out⟩, ⟨by (with_reducible repeat (first | refine blk_drewN ?_ _ | refine blk_drew ?_ | refine blk_alloc ?_ _)); refine blk_put (cs := #[.int .i64 ((rd_T40 l0 x7_2).f0), .int .i64 ((rd_T40 l0 x7_2).f1.f0), .int .i64 ((rd_T40 l0 x7_2).f1.f1), .int .i64 ((rd_T40 l0 x7_2).f1.f2), .int .i64 ((rd_T40 l0 x7_2).f1.f3), .bool ((rd_T40 l0 x7_2).f1.f4), .int .i64 ((rd_T40 l0 x7_2).f1.f5), .int .i64 ((rd_T40 l0 x7_2).f1.f6), .int .i64 ((rd_T40 l0 x7_2).f1.f7), .int .i64 0]) ?_ 9 _ rfl; (with_reducible repeat (first | refine blk_drewN ?_ _ | refine blk_drew ?_ | refine blk_alloc ?_ _)); refine blk_put (cs := #[.int .i64 ((rd_T40 l0 x7_2).f0), .int .i64 ((rd_T40 l0 x7_2).f1.f0), .int .i64 ((rd_T40 l0 x7_2).f1.f1), .int .i64 ((rd_T40 l0 x7_2).f1.f2), .int .i64 ((rd_T40 l0 x7_2).f1.f3), .bool ((rd_T40 l0 x7_2).f1.f4), .int .i64 ((rd_T40 l0 x7_2).f1.f5), .int .i64 ((rd_T40 l0 x7_2).f1.f6), .int .i64 0, .int .i64 0]) ?_ 8 _ rfl; (with_reducible repeat (first | refine blk_drewN ?_ _ | refine blk_drew ?_ | refine blk_alloc ?_ _)); refine blk_put (cs := #[.int .i64 ((rd_T40 l0 x7_2).f0), .int .i64 ((rd_T40 l0 x7_2).f1.f0), .int .i64 ((rd_T40 l0 x7_2).f1.f1), .int .i64 ((rd_T40 l0 x7_2).f1.f2), .int .i64 ((rd_T40 l0 x7_2).f1.f3), .bool ((rd_T40 l0 x7_2).f1.f4), .int .i64 ((rd_T40 l0 x7_2).f1.f5), .int .i64 0, .int .i64 0, .int .i64 0]) ?_ 7 _ rfl; (with_reducible repeat (first | refine blk_drewN ?_ _ | refine blk_drew ?_ | refine blk_alloc ?_ _)); refine blk_put (cs := #[.int .i64 ((rd_T40 l0 x7_2).f0), .int .i64 ((rd_T40 l0 x7_2).f1.f0), .int .i64 ((rd_T40 l0 x7_2).f1.f1), .int .i64 ((rd_T40 l0 x7_2).f1.f2), .int .i64 ((rd_T40 l0 x7_2).f1.f3), .bool ((rd_T40 l0 x7_2).f1.f4), .int .i64 0, .int .i64 0, .int .i64 0, .int .i64 0]) ?_ 6 _ rfl; (with_reducible repeat (first | refine blk_drewN ?_ _ | refine blk_drew ?_ | refine blk_alloc ?_ _)); refine blk_put (cs := #[.int .i64 ((rd_T40 l0 x7_2).f0), .int .i64 ((rd_T40 l0 x7_2).f1.f0), .int .i64 ((rd_T40 l0 x7_2).f1.f1), .int .i64 ((rd_T40 l0 x7_2).f1.f2), .int .i64 ((rd_T40 l0 x7_2).f1.f3), .bool false, .int .i64 0, .int .i64 0, .int .i64 0, .int .i64 0]) ?_ 5 _ rfl; (with_reducible repeat (first | refine blk_drewN ?_ _ | refine blk_drew ?_ | refine blk_alloc ?_ _)); refine blk_put (cs := #[.int .i64 ((rd_T40 l0 x7_2).f0), .int .i64 ((rd_T40 l0 x7_2).f1.f0), .int .i64 ((rd_T40 l0 x7_2).f1.f1), .int .i64 ((rd_T40 l0 x7_2).f1.f2), .int .i64 0, .bool false, .int .i64 0, .int .i64 0, .int .i64 0, .int .i64 0]) ?_ 4 _ rfl; (with_reducible repeat (first | refine blk_drewN ?_ _ | refine blk_drew ?_ | refine blk_alloc ?_ _)); refine blk_put (cs := #[.int .i64 ((rd_T40 l0 x7_2).f0), .int .i64 ((rd_T40 l0 x7_2).f1.f0), .int .i64 ((rd_T40 l0 x7_2).f1.f1), .int .i64 0, .int .i64 0, .bool false, .int .i64 0, .int .i64 0, .int .i64 0, .int .i64 0]) ?_ 3 _ rfl; (with_reducible repeat (first | refine blk_drewN ?_ _ | refine blk_drew ?_ | refine blk_alloc ?_ _)); refine blk_put (cs := #[.int .i64 ((rd_T40 l0 x7_2).f0), .int .i64 ((rd_T40 l0 x7_2).f1.f0), .int .i64 0, .int .i64 0, .int .i64 0, .bool false, .int .i64 0, .int .i64 0, .int .i64 0, .int .i64 0]) ?_ 2 _ rfl; (with_reducible repeat (first | refine blk_drewN ?_ _ | refine blk_drew ?_ | refine blk_alloc ?_ _)); refine blk_put (cs := #[.int .i64 ((rd_T40 l0 x7_2).f0), .int .i64 0, .int .i64 0, .int .i64 0, .int .i64 0, .bool false, .int .i64 0, .int .i64 0, .int .i64 0, .int .i64 0]) ?_ 1 _ rfl; (with_reducible repeat (first | refine blk_drewN ?_ _ | refine blk_drew ?_ | refine blk_alloc ?_ _)); refine blk_put (cs := #[.int .i64 0, .int .i64 0, .int .i64 0, .int .i64 0, .int .i64 0, .bool false, .int .i64 0, .int .i64 0, .int .i64 0, .int .i64 0]) ?_ 0 _ rfl; (with_reducible repeat (first | refine blk_drewN ?_ _ | refine blk_drew ?_ | refine blk_alloc ?_ _)); exact BK198.out⟩, ⟨by repeat (first | (with_reducible first | exact HB.out | apply below_alloc | apply pw_below_drewN | apply below_drew1 | refine below_set ?_ GE192.out | refine below_set ?_ GE198.out) | exact HB.out)⟩⟩
           ·rw [if_neg c15] at H
            have c15b0 : ((wrap64 (Int.tmod (IntKind.u64.wrap ((rd_T40 l0 x7_2).f0)) 7)) == 4) = false := beq_eq_false_iff_ne.mpr c15
            have c15b1 : ((wrap64 (Int.tmod (IntKind.u64.wrap ((rd_T40 l0 x7_2).f0)) 7)) != 4) = true := bne_iff_ne.mpr c15
            (first | rw [c15b0] | (simp only [i64_w, i32_w]; rw [c15b0]) | skip)
            have H' := Aside0.mk H
            clear H
            go_wp2
            go_meet
            case rel => exact ⟨_, (((wrap64 (Int.tmod (IntKind.u64.wrap ((rd_T40 l0 x7_2).f0)) 7)) == 5)), (by first | rfl | (simp; done) | (simp [*]; done) | (simp; unfold wrap64; omega)), H', ⟨by have := HK1.out; have := HK2.out; first | omega | exact Nat.le_refl _⟩, ⟨by (with_reducible repeat (first | apply Kd.R_alloc | apply Kd.R_drewN | apply Kd.R_drew)); exact Kd.R_mono (Kd.R_far (p := ⟨gb198, 9, none⟩) (Kd.R_far (p := ⟨gb198, 8, none⟩) (Kd.R_far (p := ⟨gb198, 7, none⟩) (Kd.R_far (p := ⟨gb198, 6, none⟩) (Kd.R_far (p := ⟨gb198, 5, none⟩) (Kd.R_far (p := ⟨gb198, 4, none⟩) (Kd.R_far (p := ⟨gb198, 3, none⟩) (Kd.R_far (p := ⟨gb198, 2, none⟩) (Kd.R_far (p := ⟨gb198, 1, none⟩) (Kd.R_far (p := ⟨gb198, 0, none⟩) (Kd.R_types HO_4.out BK198.out (by decide)) (fun _ hk => hk.2) (.int .i64 ((rd_T40 l0 x7_2).f0))) (fun _ hk => hk.2) (.int .i64 ((rd_T40 l0 x7_2).f1.f0))) (fun _ hk => hk.2) (.int .i64 ((rd_T40 l0 x7_2).f1.f1))) (fun _ hk => hk.2) (.int .i64 ((rd_T40 l0 x7_2).f1.f2))) (fun _ hk => hk.2) (.int .i64 ((rd_T40 l0 x7_2).f1.f3))) (fun _ hk => hk.2) (.bool ((rd_T40 l0 x7_2).f1.f4))) (fun _ hk => hk.2) (.int .i64 ((rd_T40 l0 x7_2).f1.f5))) (fun _ hk => hk.2) (.int .i64 ((rd_T40 l0 x7_2).f1.f6))) (fun _ hk => hk.2) (.int .i64 ((rd_T40 l0 x7_2).f1.f7))) (fun _ hk => hk.2) (.int .i64 ((rd_T40 l0 x7_2).f2))) (fun _ hk => trivial)⟩, ⟨by (with_reducible repeat (first | apply Kd.R_alloc | apply Kd.R_drewN | apply Kd.R_drew)); exact Kd.R_mono (Kd.R_far (p := ⟨gb198, 9, none⟩) (Kd.R_far (p := ⟨gb198, 8, none⟩) (Kd.R_far (p := ⟨gb198, 7, none⟩) (Kd.R_far (p := ⟨gb198, 6, none⟩) (Kd.R_far (p := ⟨gb198, 5, none⟩) (Kd.R_far (p := ⟨gb198, 4, none⟩) (Kd.R_far (p := ⟨gb198, 3, none⟩) (Kd.R_far (p := ⟨gb198, 2, none⟩) (Kd.R_far (p := ⟨gb198, 1, none⟩) (Kd.R_far (p := ⟨gb198, 0, none⟩) (Kd.R_types HO_9B.out BK198.out (by decide)) (fun _ hk => hk.2) (.int .i64 ((rd_T40 l0 x7_2).f0))) (fun _ hk => hk.2) (.int .i64 ((rd_T40 l0 x7_2).f1.f0))) (fun _ hk => hk.2) (.int .i64 ((rd_T40 l0 x7_2).f1.f1))) (fun _ hk => hk.2) (.int .i64 ((rd_T40 l0 x7_2).f1.f2))) (fun _ hk => hk.2) (.int .i64 ((rd_T40 l0 x7_2).f1.f3))) (fun _ hk => hk.2) (.bool ((rd_T40 l0 x7_2).f1.f4))) (fun _ hk => hk.2) (.int .i64 ((rd_T40 l0 x7_2).f1.f5))) (fun _ hk => hk.2) (.int .i64 ((rd_T40 l0 x7_2).f1.f6))) (fun _ hk => hk.2) (.int .i64 ((rd_T40 l0 x7_2).f1.f7))) (fun _ hk => hk.2) (.int .i64 ((rd_T40 l0 x7_2).f2))) (fun _ hk => trivial)⟩, ⟨by (with_reducible repeat (first | refine blk_drewN ?_ _ | refine blk_drew ?_ | refine blk_alloc ?_ _)); refine blk_far ?_ NB192_198.out _; (with_reducible repeat (first | refine blk_drewN ?_ _ | refine blk_drew ?_ | refine blk_alloc ?_ _)); refine blk_far ?_ NB192_198.out _; (with_reducible repeat (first | refine blk_drewN ?_ _ | refine blk_drew ?_ | refine blk_alloc ?_ _)); refine blk_far ?_ NB192_198.out _; (with_reducible repeat (first | refine blk_drewN ?_ _ | refine blk_drew ?_ | refine blk_alloc ?_ _)); refine blk_far ?_ NB192_198.out _; (with_reducible repeat (first | refine blk_drewN ?_ _ | refine blk_drew ?_ | refine blk_alloc ?_ _)); refine blk_far ?_ NB192_198.out _; (with_reducible repeat (first | refine blk_drewN ?_ _ | refine blk_drew ?_ | refine blk_alloc ?_ _)); refine blk_far ?_ NB192_198.out _; (with_reducible repeat (first | refine blk_drewN ?_ _ | refine blk_drew ?_ | refine blk_alloc ?_ _)); refine blk_far ?_ NB192_198.out _; (with_reducible repeat (first | refine blk_drewN ?_ _ | refine blk_drew ?_ | refine blk_alloc ?_ _)); refine blk_far ?_ NB192_198.out _; (with_reducible repeat (first | refine blk_drewN ?_ _ | refine blk_drew ?_ | refine blk_alloc ?_ _)); refine blk_far ?_ NB192_198.out _; (with_reducible repeat (first | refine blk_drewN ?_ _ | refine blk_drew ?_ | refine blk_alloc ?_ _)); refine blk_far ?_ NB192_198.out _; (with_reducible repeat (first | refine blk_drewN ?_ _ | refine blk_drew ?_ | refine blk_alloc ?_ _)); exact BK192.out⟩, ⟨by (with_reducible repeat (first | refine blk_drewN ?_ _ | refine blk_drew ?_ | refine blk_alloc ?_ _)); refine blk_put (cs := #[.int .i64 ((rd_T40 l0 x7_2).f0), .int .i64 ((rd_T40 l0 x7_2).f1.f0), .int .i64 ((rd_T40 l0 x7_2).f1.f1), .int .i64 ((rd_T40 l0 x7_2).f1.f2), .int .i64 ((rd_T40 l0 x7_2).f1.f3), .bool ((rd_T40 l0 x7_2).f1.f4), .int .i64 ((rd_T40 l0 x7_2).f1.f5), .int .i64 ((rd_T40 l0 x7_2).f1.f6), .int .i64 ((rd_T40 l0 x7_2).f1.f7), .int .i64 0]) ?_ 9 _ rfl; (with_reducible repeat (first | refine blk_drewN ?_ _ | refine blk_drew ?_ | refine blk_alloc ?_ _)); refine blk_put (cs := #[.int .i64 ((rd_T40 l0 x7_2).f0), .int .i64 ((rd_T40 l0 x7_2).f1.f0), .int .i64 ((rd_T40 l0 x7_2).f1.f1), .int .i64 ((rd_T40 l0 x7_2).f1.f2), .int .i64 ((rd_T40 l0 x7_2).f1.f3), .bool ((rd_T40 l0 x7_2).f1.f4), .int .i64 ((rd_T40 l0 x7_2).f1.f5), .int .i64 ((rd_T40 l0 x7_2).f1.f6), .int .i64 0, .int .i64 0]) ?_ 8 _ rfl; (with_reducible repeat (first | refine blk_drewN ?_ _ | refine blk_drew ?_ | refine blk_alloc ?_ _)); refine blk_put (cs := #[.int .i64 ((rd_T40 l0 x7_2).f0), .int .i64 ((rd_T40 l0 x7_2).f1.f0), .int .i64 ((rd_T40 l0 x7_2).f1.f1), .int .i64 ((rd_T40 l0 x7_2).f1.f2), .int .i64 ((rd_T40 l0 x7_2).f1.f3), .bool ((rd_T40 l0 x7_2).f1.f4), .int .i64 ((rd_T40 l0 x7_2).f1.f5), .int .i64 0, .int .i64 0, .int .i64 0]) ?_ 7 _ rfl; (with_reducible repeat (first | refine blk_drewN ?_ _ | refine blk_drew ?_ | refine blk_alloc ?_ _)); refine blk_put (cs := #[.int .i64 ((rd_T40 l0 x7_2).f0), .int .i64 ((rd_T40 l0 x7_2).f1.f0), .int .i64 ((rd_T40 l0 x7_2).f1.f1), .int .i64 ((rd_T40 l0 x7_2).f1.f2), .int .i64 ((rd_T40 l0 x7_2).f1.f3), .bool ((rd_T40 l0 x7_2).f1.f4), .int .i64 0, .int .i64 0, .int .i64 0, .int .i64 0]) ?_ 6 _ rfl; (with_reducible repeat (first | refine blk_drewN ?_ _ | refine blk_drew ?_ | refine blk_alloc ?_ _)); refine blk_put (cs := #[.int .i64 ((rd_T40 l0 x7_2).f0), .int .i64 ((rd_T40 l0 x7_2).f1.f0), .int .i64 ((rd_T40 l0 x7_2).f1.f1), .int .i64 ((rd_T40 l0 x7_2).f1.f2), .int .i64 ((rd_T40 l0 x7_2).f1.f3), .bool false, .int .i64 0, .int .i64 0, .int .i64 0, .int .i64 0]) ?_ 5 _ rfl; (with_reducible repeat (first | refine blk_drewN ?_ _ | refine blk_drew ?_ | refine blk_alloc ?_ _)); refine blk_put (cs := #[.int .i64 ((rd_T40 l0 x7_2).f0), .int .i64 ((rd_T40 l0 x7_2).f1.f0), .int .i64 ((rd_T40 l0 x7_2).f1.f1), .int .i64 ((rd_T40 l0 x7_2).f1.f2), .int .i64 0, .bool false, .int .i64 0, .int .i64 0, .int .i64 0, .int .i64 0]) ?_ 4 _ rfl; (with_reducible repeat (first | refine blk_drewN ?_ _ | refine blk_drew ?_ | refine blk_alloc ?_ _)); refine blk_put (cs := #[.int .i64 ((rd_T40 l0 x7_2).f0), .int .i64 ((rd_T40 l0 x7_2).f1.f0), .int .i64 ((rd_T40 l0 x7_2).f1.f1), .int .i64 0, .int .i64 0, .bool false, .int .i64 0, .int .i64 0, .int .i64 0, .int .i64 0]) ?_ 3 _ rfl; (with_reducible repeat (first | refine blk_drewN ?_ _ | refine blk_drew ?_ | refine blk_alloc ?_ _)); refine blk_put (cs := #[.int .i64 ((rd_T40 l0 x7_2).f0), .int .i64 ((rd_T40 l0 x7_2).f1.f0), .int .i64 0, .int .i64 0, .int .i64 0, .bool false, .int .i64 0, .int .i64 0, .int .i64 0, .int .i64 0]) ?_ 2 _ rfl; (with_reducible repeat (first | refine blk_drewN ?_ _ | refine blk_drew ?_ | refine blk_alloc ?_ _)); refine blk_put (cs := #[.int .i64 ((rd_T40 l0 x7_2).f0), .int .i64 0, .int .i64 0, .int .i64 0, .int .i64 0, .bool false, .int .i64 0, .int .i64 0, .int .i64 0, .int .i64 0]) ?_ 1 _ rfl; (with_reducible repeat (first | refine blk_drewN ?_ _ | refine blk_drew ?_ | refine blk_alloc ?_ _)); refine blk_put (cs := #[.int .i64 0, .int .i64 0, .int .i64 0, .int .i64 0, .int .i64 0, .bool false, .int .i64 0, .int .i64 0, .int .i64 0, .int .i64 0]) ?_ 0 _ rfl; (with_reducible repeat (first | refine blk_drewN ?_ _ | refine blk_drew ?_ | refine blk_alloc ?_ _)); exact BK198.out⟩, ⟨by repeat (first | (with_reducible first | exact HB.out | apply below_alloc | apply pw_below_drewN | apply below_drew1 | refine below_set ?_ GE192.out | refine below_set ?_ GE198.out) | exact HB.out)⟩⟩
          case rest =>
           clear HC14
           try clear c1
           try clear p1
           try clear q1
           try clear hx1
           try clear p2
           try clear c3
           try clear c3b0
           try clear c4
           try clear c6
           try clear c6b0
           try clear p6
           try clear c7
           try clear c7b0
           try clear c8
           try clear c8b0
           try clear c12
           try clear c15
           try clear c15b0
           try clear c15b1
           try clear hcz13_0
           try clear hcz13_1
           try clear hcz13_2
           try clear hcz13_3
           try clear hcz13_4
           try clear hcz13_5
           try clear hcz13_6
           try clear hcz13_7
           try clear hcz13_8
           try clear hcz13_9
           try clear hfz13_0
           try clear hfz13_1
           try clear hfz13_2
           try clear hfz13_3
           try clear hfz13_4
           try clear hfz13_5
           try clear hfz13_6
           try clear hfz13_7
           try clear hfz13_8
           try clear hfz13_9
           try clear hx197_0
           try clear hx197_1
           try clear hx197_2
           try clear hx197_3
           try clear hx197_4
           try clear hx197_5
           try clear hx197_6
           try clear hx197_7
           try clear hx197_8
           try clear hx197_9
           try clear p197
           try clear p2
           try clear q197
           obtain ⟨kq, x60_13, rfl, HA, HJ13, HO_4, HO_9B, BK192, BK198, HB⟩ := hcut
           cases kq with
           | zero => exact absurd HA.out (by simp [lawDO.j2])
           | succ kj13 =>
            have H := HA.out
            clear HA
            simp only [lawDO.j2] at H
            by_cases c16 : x60_13 = true
            ·subst c16
             have H1 : ((down_Problem.f kj13 x9A_2 x9B_2 ((rd_T40 l0 x7_2).f1.f1) ji9).bind fun bt199 => (lawDO.j5 kj13 l0 x4_2 ji9 x7_2 bt199.1 bt199.2)) = some r := by rw [if_pos rfl] at H; exact H
             clear H
             have H := H1
             clear H1
             replace H := Option.bind_eq_some_iff.mp H
             obtain ⟨⟨t199, t200⟩, A170, H⟩ := H
             replace H : (lawDO.j5 kj13 l0 x4_2 ji9 x7_2 t199 t200) = some r := H
             have A17 := Aside0.mk A170
             clear A170
             have H' := Aside0.mk H
             clear H
             have hnb18 := NB192_198.out
             have hnc18 := NB198_192.out
             have hcz19_0 : wc.cell? ⟨gb192, 0, none⟩ = some (.int .i64 x9A_2) := (blk_cell BK192.out 0).trans rfl
             have hcz19_1 : wc.cell? ⟨gb192, 1, none⟩ = some (u9B) := (blk_cell BK192.out 1).trans rfl
             have hfz19_0 := blk_frozen BK192.out 0
             have hfz19_1 := blk_frozen BK192.out 1
             have hcz20_0 : wc.cell? ⟨gb198, 0, none⟩ = some (.int .i64 ((rd_T40 l0 x7_2).f0)) := (blk_cell BK198.out 0).trans rfl
             have hcz20_1 : wc.cell? ⟨gb198, 1, none⟩ = some (.int .i64 ((rd_T40 l0 x7_2).f1.f0)) := (blk_cell BK198.out 1).trans rfl
             have hcz20_2 : wc.cell? ⟨gb198, 2, none⟩ = some (.int .i64 ((rd_T40 l0 x7_2).f1.f1)) := (blk_cell BK198.out 2).trans rfl
             have hcz20_3 : wc.cell? ⟨gb198, 3, none⟩ = some (.int .i64 ((rd_T40 l0 x7_2).f1.f2)) := (blk_cell BK198.out 3).trans rfl
             have hcz20_4 : wc.cell? ⟨gb198, 4, none⟩ = some (.int .i64 ((rd_T40 l0 x7_2).f1.f3)) := (blk_cell BK198.out 4).trans rfl
             have hcz20_5 : wc.cell? ⟨gb198, 5, none⟩ = some (.bool ((rd_T40 l0 x7_2).f1.f4)) := (blk_cell BK198.out 5).trans rfl
             have hcz20_6 : wc.cell? ⟨gb198, 6, none⟩ = some (.int .i64 ((rd_T40 l0 x7_2).f1.f5)) := (blk_cell BK198.out 6).trans rfl
             have hcz20_7 : wc.cell? ⟨gb198, 7, none⟩ = some (.int .i64 ((rd_T40 l0 x7_2).f1.f6)) := (blk_cell BK198.out 7).trans rfl
             have hcz20_8 : wc.cell? ⟨gb198, 8, none⟩ = some (.int .i64 ((rd_T40 l0 x7_2).f1.f7)) := (blk_cell BK198.out 8).trans rfl
             have hcz20_9 : wc.cell? ⟨gb198, 9, none⟩ = some (.int .i64 ((rd_T40 l0 x7_2).f2)) := (blk_cell BK198.out 9).trans rfl
             have hfz20_0 := blk_frozen BK198.out 0
             have hfz20_1 := blk_frozen BK198.out 1
             have hfz20_2 := blk_frozen BK198.out 2
             have hfz20_3 := blk_frozen BK198.out 3
             have hfz20_4 := blk_frozen BK198.out 4
             have hfz20_5 := blk_frozen BK198.out 5
             have hfz20_6 := blk_frozen BK198.out 6
             have hfz20_7 := blk_frozen BK198.out 7
             have hfz20_8 := blk_frozen BK198.out 8
             have hfz20_9 := blk_frozen BK198.out 9
             obtain ⟨Ao21, co21, eo21⟩ := Kd.R_slice HO_9B.out
             subst eo21
             go_wp2_with (first | ((with_reducible refine gate_callee (f := 8) rfl ?_); refine goesL_ (some 68) rfl rfl Try.func8 (by kernel_rfl) rfl #[.agg #[.int .i64 x9A_2, .slice Ao21 x9B_2.length co21], .int .i64 ((rd_T40 l0 x7_2).f1.f1), .int .i64 ji9] rfl (by (try simp only [List.map_toArray, List.map_cons, List.map_nil]); first | done | (simp only [hji9]; rfl) | rfl | (simp only [List.length_drop, List.length_take]; rfl)) ?_; (with_reducible refine (down_Problem.calls kj13 x9A_2 _ _ x9B_2 ((rd_T40 l0 x7_2).f1.f1) ji9 t199 t200 _ ?side1 ?side2 A17.out).mono ?_); (case side1 => repeat (first | exact (Kd.R_reads' HO_9B.out).2.2 | (with_reducible refine Kd.C_alloc ?_ _) | (with_reducible refine Kd.C_drewN ?_ _) | (with_reducible refine Kd.C_drew ?_))); (case side2 => exact (Kd.R_reads' HO_9B.out).2.1); rintro e w22 ⟨v201, rfl, ho0, hb⟩; refine ⟨_, rfl, ?_⟩; have n0_ := Aside0.mk (Kd.R_below (by (with_reducible repeat (first | apply Kd.R_alloc | apply Kd.R_drewN | apply Kd.R_drew)); exact HO_4.out) hb); have n1_ := Aside0.mk (Kd.R_elder' (by (with_reducible repeat (first | apply Kd.R_alloc | apply Kd.R_drewN | apply Kd.R_drew)); exact HO_9B.out) (Kd.R_base ho0) hb); have n2_ := Aside0.mk (Kd.R_lower (Kd.R_new' ho0 (Kd.R_lt (by (with_reducible repeat (first | apply Kd.R_alloc | apply Kd.R_drewN | apply Kd.R_drew)); exact HO_9B.out))) (below_size (by repeat (first | (with_reducible first | exact HB.out | apply below_alloc | apply pw_below_drewN | apply below_drew1 | refine below_set ?_ GE192.out | refine below_set ?_ GE198.out) | exact HB.out)))); have n3_ := Aside0.mk (blk_below (g := gb192) (o := .cells #[.int .i64 x9A_2, .slice Ao21 x9B_2.length co21] 25 (0, 0)) (by (with_reducible repeat (first | refine blk_drewN ?_ _ | refine blk_drew ?_ | refine blk_alloc ?_ _)); exact BK192.out) hb); have n4_ := Aside0.mk (blk_below (g := gb198) (o := .cells #[.int .i64 ((rd_T40 l0 x7_2).f0), .int .i64 ((rd_T40 l0 x7_2).f1.f0), .int .i64 ((rd_T40 l0 x7_2).f1.f1), .int .i64 ((rd_T40 l0 x7_2).f1.f2), .int .i64 ((rd_T40 l0 x7_2).f1.f3), .bool ((rd_T40 l0 x7_2).f1.f4), .int .i64 ((rd_T40 l0 x7_2).f1.f5), .int .i64 ((rd_T40 l0 x7_2).f1.f6), .int .i64 ((rd_T40 l0 x7_2).f1.f7), .int .i64 ((rd_T40 l0 x7_2).f2)] 40 (0, 0)) (by (with_reducible repeat (first | refine blk_drewN ?_ _ | refine blk_drew ?_ | refine blk_alloc ?_ _)); exact BK198.out) hb); have n5_ := Aside0.mk (below_step (by repeat (first | (with_reducible first | exact HB.out | apply below_alloc | apply pw_below_drewN | apply below_drew1 | refine below_set ?_ GE192.out | refine below_set ?_ GE198.out) | exact HB.out)) hb); clear HO_4; clear HO_9B; clear BK192; clear BK198; clear HB; have HO_4 := n0_; have HO_9B := n1_; have HO202 := n2_; have BK192 := n3_; have BK198 := n4_; have HB := n5_; clear n0_ n1_ n2_ n3_ n4_ n5_; (try clear hb); (try clear hb2); (try clear hk); (try clear hi); (try clear ho0); have hcz23_0 : w22.cell? ⟨gb192, 0, none⟩ = some (.int .i64 x9A_2) := (blk_cell BK192.out 0).trans rfl; have hcz23_1 : w22.cell? ⟨gb192, 1, none⟩ = some (.slice Ao21 x9B_2.length co21) := (blk_cell BK192.out 1).trans rfl; have hfz23_0 := blk_frozen BK192.out 0; have hfz23_1 := blk_frozen BK192.out 1; obtain ⟨Ao24, co24, eo24⟩ := Kd.R_slice HO202.out; subst eo24))
             go_meet
             case rel => exact ⟨_, (t199), (t200), (.slice Ao24 t200.length co24), H', ⟨by have := HK1.out; have := HK2.out; have := HJ13.out; first | omega | exact Nat.le_refl _⟩, ⟨by (with_reducible repeat (first | apply Kd.R_alloc | apply Kd.R_drewN | apply Kd.R_drew)); exact Kd.R_mono (Kd.R_far (p := ⟨gb192, 1, none⟩) (Kd.R_far (p := ⟨gb192, 0, none⟩) (Kd.R_types HO_4.out BK192.out (by decide)) (fun _ hk => hk.2) (.int .i64 t199)) (fun _ hk => hk.2) (.slice Ao24 t200.length co24)) (fun _ hk => trivial)⟩, ⟨by (with_reducible repeat (first | apply Kd.R_alloc | apply Kd.R_drewN | apply Kd.R_drew)); exact Kd.R_mono (Kd.R_far (p := ⟨gb192, 1, none⟩) (Kd.R_far (p := ⟨gb192, 0, none⟩) (Kd.R_types HO202.out BK192.out (by decide)) (fun _ hk => hk.2) (.int .i64 t199)) (fun _ hk => hk.2) (.slice Ao24 t200.length co24)) (fun _ hk => trivial)⟩, ⟨by (with_reducible repeat (first | refine blk_drewN ?_ _ | refine blk_drew ?_ | refine blk_alloc ?_ _)); refine blk_put (cs := #[.int .i64 t199, .slice Ao21 x9B_2.length co21]) ?_ 1 _ rfl; (with_reducible repeat (first | refine blk_drewN ?_ _ | refine blk_drew ?_ | refine blk_alloc ?_ _)); refine blk_put (cs := #[.int .i64 x9A_2, .slice Ao21 x9B_2.length co21]) ?_ 0 _ rfl; (with_reducible repeat (first | refine blk_drewN ?_ _ | refine blk_drew ?_ | refine blk_alloc ?_ _)); exact BK192.out⟩, ⟨by (with_reducible repeat (first | refine blk_drewN ?_ _ | refine blk_drew ?_ | refine blk_alloc ?_ _)); refine blk_far ?_ NB198_192.out _; (with_reducible repeat (first | refine blk_drewN ?_ _ | refine blk_drew ?_ | refine blk_alloc ?_ _)); refine blk_far ?_ NB198_192.out _; (with_reducible repeat (first | refine blk_drewN ?_ _ | refine blk_drew ?_ | refine blk_alloc ?_ _)); exact BK198.out⟩, ⟨by repeat (first | (with_reducible first | exact HB.out | apply below_alloc | apply pw_below_drewN | apply below_drew1 | refine below_set ?_ GE192.out | refine below_set ?_ GE198.out) | exact HB.out)⟩⟩
            ·replace c16 := Bool.eq_false_iff.mpr c16
             subst c16
             have H1 : (if (wrap64 (Int.tmod (IntKind.u64.wrap ((rd_T40 l0 x7_2).f0)) 7)) = 6 then (lawDO.l2 kj13 l0 x4_2 ji9 x7_2 0 x9A_2 x9B_2 0 0 0 0) else ((down_Add.f kj13 x9A_2 x9B_2 ((rd_T40 l0 x7_2).f1.f0) ((rd_T40 l0 x7_2).f1.f1) ((rd_T40 l0 x7_2).f1.f2) ((rd_T40 l0 x7_2).f1.f3) ((rd_T40 l0 x7_2).f1.f4) ((rd_T40 l0 x7_2).f1.f5) ((rd_T40 l0 x7_2).f1.f6) ((rd_T40 l0 x7_2).f1.f7)).bind fun bt215 => (if bt215.2.2.2.isNone = true then (lawDO.j5 kj13 l0 x4_2 ji9 x7_2 bt215.1 bt215.2.1) else (lawDO.j5 kj13 l0 x4_2 ji9 x7_2 x9A_2 x9B_2)))) = some r := by rw [if_neg (show ¬ (false = true) by decide)] at H; exact H
             clear H
             have H := H1
             clear H1
             by_cases c25 : (wrap64 (Int.tmod (IntKind.u64.wrap ((rd_T40 l0 x7_2).f0)) 7)) = 6
             ·rw [if_pos c25] at H
              have c25b0 : ((wrap64 (Int.tmod (IntKind.u64.wrap ((rd_T40 l0 x7_2).f0)) 7)) == 6) = true := beq_iff_eq.mpr c25
              have c25b1 : ((wrap64 (Int.tmod (IntKind.u64.wrap ((rd_T40 l0 x7_2).f0)) 7)) != 6) = false := bne_eq_false_iff_eq.mpr c25
              clear c25
              have H' := Aside0.mk H
              clear H
              go_wp2_with (first | ((with_reducible refine gate_dst (N := 9) rfl ?_); refine box_event ?hg (N := 9) ?hd (cs := #[.int .i64 0, .int .i64 0, .int .i64 0, .int .i64 0]) (t := 41) ?hr ?_; (case hd => rfl); (case hg => rfl); (case hr => first | (go_simp; done) | (go_simp; rfl)); intro gb203 hg w26 hbox hb; have n0_ := Aside0.mk (Kd.R_below (by (with_reducible repeat (first | apply Kd.R_alloc | apply Kd.R_drewN | apply Kd.R_drew)); exact HO_4.out) hb); have n1_ := Aside0.mk (Kd.R_below (by (with_reducible repeat (first | apply Kd.R_alloc | apply Kd.R_drewN | apply Kd.R_drew)); exact HO_9B.out) hb); have n2_ := Aside0.mk (blk_below (g := gb192) (o := .cells #[.int .i64 x9A_2, u9B] 25 (0, 0)) (by (with_reducible repeat (first | refine blk_drewN ?_ _ | refine blk_drew ?_ | refine blk_alloc ?_ _)); exact BK192.out) hb); have n3_ := Aside0.mk (blk_below (g := gb198) (o := .cells #[.int .i64 ((rd_T40 l0 x7_2).f0), .int .i64 ((rd_T40 l0 x7_2).f1.f0), .int .i64 ((rd_T40 l0 x7_2).f1.f1), .int .i64 ((rd_T40 l0 x7_2).f1.f2), .int .i64 ((rd_T40 l0 x7_2).f1.f3), .bool ((rd_T40 l0 x7_2).f1.f4), .int .i64 ((rd_T40 l0 x7_2).f1.f5), .int .i64 ((rd_T40 l0 x7_2).f1.f6), .int .i64 ((rd_T40 l0 x7_2).f1.f7), .int .i64 ((rd_T40 l0 x7_2).f2)] 40 (0, 0)) (by (with_reducible repeat (first | refine blk_drewN ?_ _ | refine blk_drew ?_ | refine blk_alloc ?_ _)); exact BK198.out) hb); have n4_ := Aside0.mk (below_step (by repeat (first | (with_reducible first | exact HB.out | apply below_alloc | apply pw_below_drewN | apply below_drew1 | refine below_set ?_ GE192.out | refine below_set ?_ GE198.out) | exact HB.out)) hb); have n5_ := Aside0.mk (hbox); have n6_ := Aside0.mk ((by rw [hg]; exact (below_size (by repeat (first | (with_reducible first | exact HB.out | apply below_alloc | apply pw_below_drewN | apply below_drew1 | refine below_set ?_ GE192.out | refine below_set ?_ GE198.out) | exact HB.out))) : w.heap.size ≤ gb203)); have n7_ := Aside0.mk ((by rw [hg]; exact (below_size (by repeat (first | (with_reducible first | exact HB.out | apply below_alloc | apply pw_below_drewN | apply below_drew1 | refine below_set ?_ GE192.out | refine below_set ?_ GE198.out) | exact HB.out))) : w.heap.size ≤ gb203)); have n8_ := Aside0.mk ((by rw [hg]; exact Nat.ne_of_lt (blk_lt (g := gb192) (o := .cells #[.int .i64 x9A_2, u9B] 25 (0, 0)) (by (with_reducible repeat (first | refine blk_drewN ?_ _ | refine blk_drew ?_ | refine blk_alloc ?_ _)); exact BK192.out)) : gb192 ≠ gb203)); have n9_ := Aside0.mk ((by rw [hg]; exact Nat.ne_of_gt (blk_lt (g := gb192) (o := .cells #[.int .i64 x9A_2, u9B] 25 (0, 0)) (by (with_reducible repeat (first | refine blk_drewN ?_ _ | refine blk_drew ?_ | refine blk_alloc ?_ _)); exact BK192.out)) : gb203 ≠ gb192)); have n10_ := Aside0.mk ((by rw [hg]; exact Nat.ne_of_lt (blk_lt (g := gb198) (o := .cells #[.int .i64 ((rd_T40 l0 x7_2).f0), .int .i64 ((rd_T40 l0 x7_2).f1.f0), .int .i64 ((rd_T40 l0 x7_2).f1.f1), .int .i64 ((rd_T40 l0 x7_2).f1.f2), .int .i64 ((rd_T40 l0 x7_2).f1.f3), .bool ((rd_T40 l0 x7_2).f1.f4), .int .i64 ((rd_T40 l0 x7_2).f1.f5), .int .i64 ((rd_T40 l0 x7_2).f1.f6), .int .i64 ((rd_T40 l0 x7_2).f1.f7), .int .i64 ((rd_T40 l0 x7_2).f2)] 40 (0, 0)) (by (with_reducible repeat (first | refine blk_drewN ?_ _ | refine blk_drew ?_ | refine blk_alloc ?_ _)); exact BK198.out)) : gb198 ≠ gb203)); have n11_ := Aside0.mk ((by rw [hg]; exact Nat.ne_of_gt (blk_lt (g := gb198) (o := .cells #[.int .i64 ((rd_T40 l0 x7_2).f0), .int .i64 ((rd_T40 l0 x7_2).f1.f0), .int .i64 ((rd_T40 l0 x7_2).f1.f1), .int .i64 ((rd_T40 l0 x7_2).f1.f2), .int .i64 ((rd_T40 l0 x7_2).f1.f3), .bool ((rd_T40 l0 x7_2).f1.f4), .int .i64 ((rd_T40 l0 x7_2).f1.f5), .int .i64 ((rd_T40 l0 x7_2).f1.f6), .int .i64 ((rd_T40 l0 x7_2).f1.f7), .int .i64 ((rd_T40 l0 x7_2).f2)] 40 (0, 0)) (by (with_reducible repeat (first | refine blk_drewN ?_ _ | refine blk_drew ?_ | refine blk_alloc ?_ _)); exact BK198.out)) : gb203 ≠ gb198)); clear HO_4; clear HO_9B; clear BK192; clear BK198; clear HB; have HO_4 := n0_; have HO_9B := n1_; have BK192 := n2_; have BK198 := n3_; have HB := n4_; have BK203 := n5_; have GW203 := n6_; have GE203 := n7_; have NB192_203 := n8_; have NB203_192 := n9_; have NB198_203 := n10_; have NB203_198 := n11_; clear n0_ n1_ n2_ n3_ n4_ n5_ n6_ n7_ n8_ n9_ n10_ n11_; clear hb hbox hg))
              go_loopg [10] kj13 (fun kq v10 w' => ∃ (x10_4 : Int) (x9C_4 : Int) (x9D_4 : Int) (x9E_4 : Int) (x9F_4 : Int), v10 = .int .i64 x10_4 ∧ Aside0 (lawDO.l2 kq l0 x4_2 ji9 x7_2 x10_4 x9A_2 x9B_2 x9C_4 x9D_4 x9E_4 x9F_4 = some r) ∧ Aside0 (kq ≤ kj13) ∧ Aside0 (Kd.R (Kd.int .i64) 3 w' w.heap.size (fun _ => True) u4 x4_2) ∧ Aside0 (Kd.R k31 31 w' w.heap.size (fun _ => True) u9B x9B_2) ∧ Aside0 (w'.heap[gb192]? = some (.cells #[.int .i64 x9A_2, u9B] 25 (0, 0))) ∧ Aside0 (w'.heap[gb198]? = some (.cells #[.int .i64 ((rd_T40 l0 x7_2).f0), .int .i64 ((rd_T40 l0 x7_2).f1.f0), .int .i64 ((rd_T40 l0 x7_2).f1.f1), .int .i64 ((rd_T40 l0 x7_2).f1.f2), .int .i64 ((rd_T40 l0 x7_2).f1.f3), .bool ((rd_T40 l0 x7_2).f1.f4), .int .i64 ((rd_T40 l0 x7_2).f1.f5), .int .i64 ((rd_T40 l0 x7_2).f1.f6), .int .i64 ((rd_T40 l0 x7_2).f1.f7), .int .i64 ((rd_T40 l0 x7_2).f2)] 40 (0, 0))) ∧ Aside0 (w'.heap[gb203]? = some (.cells #[.int .i64 x9C_4, .int .i64 x9D_4, .int .i64 x9E_4, .int .i64 x9F_4] 41 (0, 0))) ∧ Aside0 (Below w.heap.size w w'))
              case atStart => exact ⟨(0), (0), (0), (0), (0), (by first | rfl | (simp; done) | (simp [*]; done) | (simp; unfold wrap64; omega)), H', ⟨Nat.le_refl _⟩, ⟨by (with_reducible repeat (first | apply Kd.R_alloc | apply Kd.R_drewN | apply Kd.R_drew)); exact HO_4.out⟩, ⟨by (with_reducible repeat (first | apply Kd.R_alloc | apply Kd.R_drewN | apply Kd.R_drew)); exact HO_9B.out⟩, ⟨by (with_reducible repeat (first | refine blk_drewN ?_ _ | refine blk_drew ?_ | refine blk_alloc ?_ _)); exact BK192.out⟩, ⟨by (with_reducible repeat (first | refine blk_drewN ?_ _ | refine blk_drew ?_ | refine blk_alloc ?_ _)); exact BK198.out⟩, ⟨by (with_reducible repeat (first | refine blk_drewN ?_ _ | refine blk_drew ?_ | refine blk_alloc ?_ _)); exact BK203.out⟩, ⟨by repeat (first | (with_reducible first | exact HB.out | apply below_alloc | apply pw_below_drewN | apply below_drew1 | refine below_set ?_ GE192.out | refine below_set ?_ GE198.out | refine below_set ?_ GE203.out) | exact HB.out)⟩⟩
              case round =>
               clear H'
               try clear c1
               try clear p1
               try clear q1
               try clear hx1
               try clear c2
               try clear p2
               try clear c3
               try clear c3b0
               try clear c4
               try clear c6
               try clear c6b0
               try clear p6
               try clear c7
               try clear c7b0
               try clear c8
               try clear c8b0
               try clear c12
               try clear c15
               try clear c15b0
               try clear c15b1
               try clear c16
               try clear c18
               try clear p19
               try clear q19
               try clear hx19
               try clear c25
               try clear c25b0
               try clear c25b1
               try clear hcz13_0
               try clear hcz13_1
               try clear hcz13_2
               try clear hcz13_3
               try clear hcz13_4
               try clear hcz13_5
               try clear hcz13_6
               try clear hcz13_7
               try clear hcz13_8
               try clear hcz13_9
               try clear hcz19_0
               try clear hcz19_1
               try clear hcz20_0
               try clear hcz20_1
               try clear hcz20_2
               try clear hcz20_3
               try clear hcz20_4
               try clear hcz20_5
               try clear hcz20_6
               try clear hcz20_7
               try clear hcz20_8
               try clear hcz20_9
               try clear hcz23_0
               try clear hcz23_1
               try clear hfz13_0
               try clear hfz13_1
               try clear hfz13_2
               try clear hfz13_3
               try clear hfz13_4
               try clear hfz13_5
               try clear hfz13_6
               try clear hfz13_7
               try clear hfz13_8
               try clear hfz13_9
               try clear hfz19_0
               try clear hfz19_1
               try clear hfz20_0
               try clear hfz20_1
               try clear hfz20_2
               try clear hfz20_3
               try clear hfz20_4
               try clear hfz20_5
               try clear hfz20_6
               try clear hfz20_7
               try clear hfz20_8
               try clear hfz20_9
               try clear hfz23_0
               try clear hfz23_1
               try clear hx197_0
               try clear hx197_1
               try clear hx197_2
               try clear hx197_3
               try clear hx197_4
               try clear hx197_5
               try clear hx197_6
               try clear hx197_7
               try clear hx197_8
               try clear hx197_9
               try clear p1
               try clear p197
               try clear p2
               try clear p6
               try clear q1
               try clear q197
               obtain ⟨x10_4, x9C_4, x9D_4, x9E_4, x9F_4, rfl, HA, HK4, HO_4, HO_9B, BK192, BK198, BK203, HB⟩ := hrel
               cases gk with
               | zero => exact absurd HA.out (by simp [lawDO.l2])
               | succ k4 =>
                have H := HA.out
                clear HA
                simp only [lawDO.l2] at H
                by_cases c27 : x10_4 < 4
                ·rw [if_pos c27] at H
                 have c27b0 : decide (x10_4 < 4) = true := decide_eq_true c27
                 clear c27
                 replace H := Option.bind_eq_some_iff.mp H
                 obtain ⟨t204, A280, H⟩ := H
                 replace H : (if x10_4 = (0 : Int) then (lawDO.l2 k4 l0 x4_2 ji9 x7_2 (wrap64 (x10_4 + 1)) x9A_2 x9B_2 t204 x9D_4 x9E_4 x9F_4) else (if x10_4 = (1 : Int) then (lawDO.l2 k4 l0 x4_2 ji9 x7_2 (wrap64 (x10_4 + 1)) x9A_2 x9B_2 x9C_4 t204 x9E_4 x9F_4) else (if x10_4 = (2 : Int) then (lawDO.l2 k4 l0 x4_2 ji9 x7_2 (wrap64 (x10_4 + 1)) x9A_2 x9B_2 x9C_4 x9D_4 t204 x9F_4) else (if x10_4 = (3 : Int) then (lawDO.l2 k4 l0 x4_2 ji9 x7_2 (wrap64 (x10_4 + 1)) x9A_2 x9B_2 x9C_4 x9D_4 x9E_4 t204) else (none))))) = some r := H
                 have A28 := Aside0.mk A280
                 clear A280
                 by_cases c29 : x10_4 = (0 : Int)
                 ·rw [if_pos c29] at H
                  have c29b0 : (x10_4 == (0 : Int)) = true := beq_iff_eq.mpr c29
                  have c29b1 : (x10_4 != (0 : Int)) = false := bne_eq_false_iff_eq.mpr c29
                  have c29b2 : 0 ≤ x10_4 := by omega
                  have c29b3 : x10_4 < 1 := by omega
                  have c29b4 : x10_4 < 2 := by omega
                  have c29b5 : x10_4 < 3 := by omega
                  have c29b6 : x10_4 < 4 := by omega
                  have c29b7 : (x10_4 : Int).toNat = 0 := by omega
                  clear c29
                  have H' := Aside0.mk H
                  clear H
                  have hnb30 := NB192_198.out
                  have hnc30 := NB198_192.out
                  have hnb31 := NB192_203.out
                  have hnc31 := NB203_192.out
                  have hcz32_0 : wr.cell? ⟨gb192, 0, none⟩ = some (.int .i64 x9A_2) := (blk_cell BK192.out 0).trans rfl
                  have hcz32_1 : wr.cell? ⟨gb192, 1, none⟩ = some (u9B) := (blk_cell BK192.out 1).trans rfl
                  have hfz32_0 := blk_frozen BK192.out 0
                  have hfz32_1 := blk_frozen BK192.out 1
                  obtain ⟨Ao33, co33, eo33⟩ := Kd.R_slice HO_9B.out
                  subst eo33
                  go_wp2_with (first | ((with_reducible refine gate_callee (f := 7) rfl ?_); refine goesL_ (some 79) rfl rfl Try.func7 (by kernel_rfl) rfl #[.agg #[.int .i64 x9A_2, .slice Ao33 x9B_2.length co33], .int .i64 x10_4, .int .i64 ji9] rfl (by (try simp only [List.map_toArray, List.map_cons, List.map_nil]); first | done | (simp only [hji9]; rfl) | rfl | (simp only [List.length_drop, List.length_take]; rfl)) ?_; (with_reducible refine (down_Depth.calls k4 x9A_2 _ _ x9B_2 x10_4 ji9 t204 _ ?side1 ?side2 A28.out).mono ?_); (case side1 => repeat (first | exact (Kd.R_reads' HO_9B.out).2.2 | (with_reducible refine Kd.C_alloc ?_ _) | (with_reducible refine Kd.C_drewN ?_ _) | (with_reducible refine Kd.C_drew ?_))); (case side2 => exact (Kd.R_reads' HO_9B.out).2.1); rintro e w34 ⟨rfl, hb⟩; refine ⟨_, rfl, ?_⟩; have n0_ := Aside0.mk (Kd.R_below (by (with_reducible repeat (first | apply Kd.R_alloc | apply Kd.R_drewN | apply Kd.R_drew)); exact HO_4.out) hb); have n1_ := Aside0.mk (Kd.R_below (by (with_reducible repeat (first | apply Kd.R_alloc | apply Kd.R_drewN | apply Kd.R_drew)); exact HO_9B.out) hb); have n2_ := Aside0.mk (blk_below (g := gb192) (o := .cells #[.int .i64 x9A_2, .slice Ao33 x9B_2.length co33] 25 (0, 0)) (by (with_reducible repeat (first | refine blk_drewN ?_ _ | refine blk_drew ?_ | refine blk_alloc ?_ _)); exact BK192.out) hb); have n3_ := Aside0.mk (blk_below (g := gb198) (o := .cells #[.int .i64 ((rd_T40 l0 x7_2).f0), .int .i64 ((rd_T40 l0 x7_2).f1.f0), .int .i64 ((rd_T40 l0 x7_2).f1.f1), .int .i64 ((rd_T40 l0 x7_2).f1.f2), .int .i64 ((rd_T40 l0 x7_2).f1.f3), .bool ((rd_T40 l0 x7_2).f1.f4), .int .i64 ((rd_T40 l0 x7_2).f1.f5), .int .i64 ((rd_T40 l0 x7_2).f1.f6), .int .i64 ((rd_T40 l0 x7_2).f1.f7), .int .i64 ((rd_T40 l0 x7_2).f2)] 40 (0, 0)) (by (with_reducible repeat (first | refine blk_drewN ?_ _ | refine blk_drew ?_ | refine blk_alloc ?_ _)); exact BK198.out) hb); have n4_ := Aside0.mk (blk_below (g := gb203) (o := .cells #[.int .i64 x9C_4, .int .i64 x9D_4, .int .i64 x9E_4, .int .i64 x9F_4] 41 (0, 0)) (by (with_reducible repeat (first | refine blk_drewN ?_ _ | refine blk_drew ?_ | refine blk_alloc ?_ _)); exact BK203.out) hb); have n5_ := Aside0.mk (below_step (by repeat (first | (with_reducible first | exact HB.out | apply below_alloc | apply pw_below_drewN | apply below_drew1 | refine below_set ?_ GE192.out | refine below_set ?_ GE198.out | refine below_set ?_ GE203.out) | exact HB.out)) hb); clear HO_4; clear HO_9B; clear BK192; clear BK198; clear BK203; clear HB; have HO_4 := n0_; have HO_9B := n1_; have BK192 := n2_; have BK198 := n3_; have BK203 := n4_; have HB := n5_; clear n0_ n1_ n2_ n3_ n4_ n5_; (try clear hb); (try clear hb2); (try clear hk); (try clear hi); have hnb35 := NB203_198.out; have hnc35 := NB198_203.out; have hcz36_0 : w34.cell? ⟨gb203, 0, none⟩ = some (.int .i64 x9C_4) := (blk_cell BK203.out 0).trans rfl; have hcz36_1 : w34.cell? ⟨gb203, 1, none⟩ = some (.int .i64 x9D_4) := (blk_cell BK203.out 1).trans rfl; have hcz36_2 : w34.cell? ⟨gb203, 2, none⟩ = some (.int .i64 x9E_4) := (blk_cell BK203.out 2).trans rfl; have hcz36_3 : w34.cell? ⟨gb203, 3, none⟩ = some (.int .i64 x9F_4) := (blk_cell BK203.out 3).trans rfl; have hfz36_0 := blk_frozen BK203.out 0; have hfz36_1 := blk_frozen BK203.out 1; have hfz36_2 := blk_frozen BK203.out 2; have hfz36_3 := blk_frozen BK203.out 3))
                  go_roundg k4
                  case measure => have := HK1.out; have := HK2.out; have := HJ13.out; have := HK4.out; omega
                  case rel => exact ⟨(wrap64 (x10_4 + 1)), (t204), (x9D_4), (x9E_4), (x9F_4), (by first | rfl | (simp; done) | (simp [*]; done) | (simp; unfold wrap64; omega)), H', ⟨by have := HK1.out; have := HK2.out; have := HJ13.out; have := HK4.out; omega⟩, ⟨by (with_reducible repeat (first | apply Kd.R_alloc | apply Kd.R_drewN | apply Kd.R_drew)); exact Kd.R_mono (Kd.R_far (p := ⟨gb203, 0, none⟩) (Kd.R_types HO_4.out BK203.out (by decide)) (fun _ hk => hk.2) (.int .i64 t204)) (fun _ hk => trivial)⟩, ⟨by (with_reducible repeat (first | apply Kd.R_alloc | apply Kd.R_drewN | apply Kd.R_drew)); exact Kd.R_mono (Kd.R_far (p := ⟨gb203, 0, none⟩) (Kd.R_types HO_9B.out BK203.out (by decide)) (fun _ hk => hk.2) (.int .i64 t204)) (fun _ hk => trivial)⟩, ⟨by (with_reducible repeat (first | refine blk_drewN ?_ _ | refine blk_drew ?_ | refine blk_alloc ?_ _)); refine blk_far ?_ NB192_203.out _; (with_reducible repeat (first | refine blk_drewN ?_ _ | refine blk_drew ?_ | refine blk_alloc ?_ _)); exact BK192.out⟩, ⟨by (with_reducible repeat (first | refine blk_drewN ?_ _ | refine blk_drew ?_ | refine blk_alloc ?_ _)); refine blk_far ?_ NB198_203.out _; (with_reducible repeat (first | refine blk_drewN ?_ _ | refine blk_drew ?_ | refine blk_alloc ?_ _)); exact BK198.out⟩, ⟨by (with_reducible repeat (first | refine blk_drewN ?_ _ | refine blk_drew ?_ | refine blk_alloc ?_ _)); refine blk_put (cs := #[.int .i64 x9C_4, .int .i64 x9D_4, .int .i64 x9E_4, .int .i64 x9F_4]) ?_ 0 _ rfl; (with_reducible repeat (first | refine blk_drewN ?_ _ | refine blk_drew ?_ | refine blk_alloc ?_ _)); exact BK203.out⟩, ⟨by repeat (first | (with_reducible first | exact HB.out | apply below_alloc | apply pw_below_drewN | apply below_drew1 | refine below_set ?_ GE192.out | refine below_set ?_ GE198.out | refine below_set ?_ GE203.out) | exact HB.out)⟩⟩
                 ·rw [if_neg c29] at H
                  have c29b0 : (x10_4 == (0 : Int)) = false := beq_eq_false_iff_ne.mpr c29
                  have c29b1 : (x10_4 != (0 : Int)) = true := bne_iff_ne.mpr c29
                  by_cases c37 : x10_4 = (1 : Int)
                  ·rw [if_pos c37] at H
                   have c37b0 : (x10_4 == (1 : Int)) = true := beq_iff_eq.mpr c37
                   have c37b1 : (x10_4 != (1 : Int)) = false := bne_eq_false_iff_eq.mpr c37
                   have c37b2 : 0 ≤ x10_4 := by omega
                   have c37b3 : x10_4 < 2 := by omega
                   have c37b4 : x10_4 < 3 := by omega
                   have c37b5 : x10_4 < 4 := by omega
                   have c37b6 : (x10_4 : Int).toNat = 1 := by omega
                   clear c37
                   have H' := Aside0.mk H
                   clear H
                   have hnb38 := NB192_198.out
                   have hnc38 := NB198_192.out
                   have hnb39 := NB192_203.out
                   have hnc39 := NB203_192.out
                   have hcz40_0 : wr.cell? ⟨gb192, 0, none⟩ = some (.int .i64 x9A_2) := (blk_cell BK192.out 0).trans rfl
                   have hcz40_1 : wr.cell? ⟨gb192, 1, none⟩ = some (u9B) := (blk_cell BK192.out 1).trans rfl
                   have hfz40_0 := blk_frozen BK192.out 0
                   have hfz40_1 := blk_frozen BK192.out 1
                   obtain ⟨Ao41, co41, eo41⟩ := Kd.R_slice HO_9B.out
                   subst eo41
                   go_wp2_with (first | ((with_reducible refine gate_callee (f := 7) rfl ?_); refine goesL_ (some 79) rfl rfl Try.func7 (by kernel_rfl) rfl #[.agg #[.int .i64 x9A_2, .slice Ao41 x9B_2.length co41], .int .i64 x10_4, .int .i64 ji9] rfl (by (try simp only [List.map_toArray, List.map_cons, List.map_nil]); first | done | (simp only [hji9]; rfl) | rfl | (simp only [List.length_drop, List.length_take]; rfl)) ?_; (with_reducible refine (down_Depth.calls k4 x9A_2 _ _ x9B_2 x10_4 ji9 t204 _ ?side1 ?side2 A28.out).mono ?_); (case side1 => repeat (first | exact (Kd.R_reads' HO_9B.out).2.2 | (with_reducible refine Kd.C_alloc ?_ _) | (with_reducible refine Kd.C_drewN ?_ _) | (with_reducible refine Kd.C_drew ?_))); (case side2 => exact (Kd.R_reads' HO_9B.out).2.1); rintro e w42 ⟨rfl, hb⟩; refine ⟨_, rfl, ?_⟩; have n0_ := Aside0.mk (Kd.R_below (by (with_reducible repeat (first | apply Kd.R_alloc | apply Kd.R_drewN | apply Kd.R_drew)); exact HO_4.out) hb); have n1_ := Aside0.mk (Kd.R_below (by (with_reducible repeat (first | apply Kd.R_alloc | apply Kd.R_drewN | apply Kd.R_drew)); exact HO_9B.out) hb); have n2_ := Aside0.mk (blk_below (g := gb192) (o := .cells #[.int .i64 x9A_2, .slice Ao41 x9B_2.length co41] 25 (0, 0)) (by (with_reducible repeat (first | refine blk_drewN ?_ _ | refine blk_drew ?_ | refine blk_alloc ?_ _)); exact BK192.out) hb); have n3_ := Aside0.mk (blk_below (g := gb198) (o := .cells #[.int .i64 ((rd_T40 l0 x7_2).f0), .int .i64 ((rd_T40 l0 x7_2).f1.f0), .int .i64 ((rd_T40 l0 x7_2).f1.f1), .int .i64 ((rd_T40 l0 x7_2).f1.f2), .int .i64 ((rd_T40 l0 x7_2).f1.f3), .bool ((rd_T40 l0 x7_2).f1.f4), .int .i64 ((rd_T40 l0 x7_2).f1.f5), .int .i64 ((rd_T40 l0 x7_2).f1.f6), .int .i64 ((rd_T40 l0 x7_2).f1.f7), .int .i64 ((rd_T40 l0 x7_2).f2)] 40 (0, 0)) (by (with_reducible repeat (first | refine blk_drewN ?_ _ | refine blk_drew ?_ | refine blk_alloc ?_ _)); exact BK198.out) hb); have n4_ := Aside0.mk (blk_below (g := gb203) (o := .cells #[.int .i64 x9C_4, .int .i64 x9D_4, .int .i64 x9E_4, .int .i64 x9F_4] 41 (0, 0)) (by (with_reducible repeat (first | refine blk_drewN ?_ _ | refine blk_drew ?_ | refine blk_alloc ?_ _)); exact BK203.out) hb); have n5_ := Aside0.mk (below_step (by repeat (first | (with_reducible first | exact HB.out | apply below_alloc | apply pw_below_drewN | apply below_drew1 | refine below_set ?_ GE192.out | refine below_set ?_ GE198.out | refine below_set ?_ GE203.out) | exact HB.out)) hb); clear HO_4; clear HO_9B; clear BK192; clear BK198; clear BK203; clear HB; have HO_4 := n0_; have HO_9B := n1_; have BK192 := n2_; have BK198 := n3_; have BK203 := n4_; have HB := n5_; clear n0_ n1_ n2_ n3_ n4_ n5_; (try clear hb); (try clear hb2); (try clear hk); (try clear hi); have hnb43 := NB203_198.out; have hnc43 := NB198_203.out; have hcz44_0 : w42.cell? ⟨gb203, 0, none⟩ = some (.int .i64 x9C_4) := (blk_cell BK203.out 0).trans rfl; have hcz44_1 : w42.cell? ⟨gb203, 1, none⟩ = some (.int .i64 x9D_4) := (blk_cell BK203.out 1).trans rfl; have hcz44_2 : w42.cell? ⟨gb203, 2, none⟩ = some (.int .i64 x9E_4) := (blk_cell BK203.out 2).trans rfl; have hcz44_3 : w42.cell? ⟨gb203, 3, none⟩ = some (.int .i64 x9F_4) := (blk_cell BK203.out 3).trans rfl; have hfz44_0 := blk_frozen BK203.out 0; have hfz44_1 := blk_frozen BK203.out 1; have hfz44_2 := blk_frozen BK203.out 2; have hfz44_3 := blk_frozen BK203.out 3))
                   go_roundg k4
                   case measure => have := HK1.out; have := HK2.out; have := HJ13.out; have := HK4.out; omega
                   case rel => exact ⟨(wrap64 (x10_4 + 1)), (x9C_4), (t204), (x9E_4), (x9F_4), (by first | rfl | (simp; done) | (simp [*]; done) | (simp; unfold wrap64; omega)), H', ⟨by have := HK1.out; have := HK2.out; have := HJ13.out; have := HK4.out; omega⟩, ⟨by (with_reducible repeat (first | apply Kd.R_alloc | apply Kd.R_drewN | apply Kd.R_drew)); exact Kd.R_mono (Kd.R_far (p := ⟨gb203, 1, none⟩) (Kd.R_types HO_4.out BK203.out (by decide)) (fun _ hk => hk.2) (.int .i64 t204)) (fun _ hk => trivial)⟩, ⟨by (with_reducible repeat (first | apply Kd.R_alloc | apply Kd.R_drewN | apply Kd.R_drew)); exact Kd.R_mono (Kd.R_far (p := ⟨gb203, 1, none⟩) (Kd.R_types HO_9B.out BK203.out (by decide)) (fun _ hk => hk.2) (.int .i64 t204)) (fun _ hk => trivial)⟩, ⟨by (with_reducible repeat (first | refine blk_drewN ?_ _ | refine blk_drew ?_ | refine blk_alloc ?_ _)); refine blk_far ?_ NB192_203.out _; (with_reducible repeat (first | refine blk_drewN ?_ _ | refine blk_drew ?_ | refine blk_alloc ?_ _)); exact BK192.out⟩, ⟨by (with_reducible repeat (first | refine blk_drewN ?_ _ | refine blk_drew ?_ | refine blk_alloc ?_ _)); refine blk_far ?_ NB198_203.out _; (with_reducible repeat (first | refine blk_drewN ?_ _ | refine blk_drew ?_ | refine blk_alloc ?_ _)); exact BK198.out⟩, ⟨by (with_reducible repeat (first | refine blk_drewN ?_ _ | refine blk_drew ?_ | refine blk_alloc ?_ _)); refine blk_put (cs := #[.int .i64 x9C_4, .int .i64 x9D_4, .int .i64 x9E_4, .int .i64 x9F_4]) ?_ 1 _ rfl; (with_reducible repeat (first | refine blk_drewN ?_ _ | refine blk_drew ?_ | refine blk_alloc ?_ _)); exact BK203.out⟩, ⟨by repeat (first | (with_reducible first | exact HB.out | apply below_alloc | apply pw_below_drewN | apply below_drew1 | refine below_set ?_ GE192.out | refine below_set ?_ GE198.out | refine below_set ?_ GE203.out) | exact HB.out)⟩⟩
                  ·rw [if_neg c37] at H
                   have c37b0 : (x10_4 == (1 : Int)) = false := beq_eq_false_iff_ne.mpr c37
                   have c37b1 : (x10_4 != (1 : Int)) = true := bne_iff_ne.mpr c37
                   by_cases c45 : x10_4 = (2 : Int)
                   ·rw [if_pos c45] at H
                    have c45b0 : (x10_4 == (2 : Int)) = true := beq_iff_eq.mpr c45
                    have c45b1 : (x10_4 != (2 : Int)) = false := bne_eq_false_iff_eq.mpr c45
                    have c45b2 : 0 ≤ x10_4 := by omega
                    have c45b3 : x10_4 < 3 := by omega
                    have c45b4 : x10_4 < 4 := by omega
                    have c45b5 : (x10_4 : Int).toNat = 2 := by omega
                    clear c45
                    have H' := Aside0.mk H
                    clear H
                    have hnb46 := NB192_198.out
                    have hnc46 := NB198_192.out
                    have hnb47 := NB192_203.out
                    have hnc47 := NB203_192.out
                    have hcz48_0 : wr.cell? ⟨gb192, 0, none⟩ = some (.int .i64 x9A_2) := (blk_cell BK192.out 0).trans rfl
                    have hcz48_1 : wr.cell? ⟨gb192, 1, none⟩ = some (u9B) := (blk_cell BK192.out 1).trans rfl
                    have hfz48_0 := blk_frozen BK192.out 0
                    have hfz48_1 := blk_frozen BK192.out 1
                    obtain ⟨Ao49, co49, eo49⟩ := Kd.R_slice HO_9B.out
                    subst eo49
                    go_wp2_with (first | ((with_reducible refine gate_callee (f := 7) rfl ?_); refine goesL_ (some 79) rfl rfl Try.func7 (by kernel_rfl) rfl #[.agg #[.int .i64 x9A_2, .slice Ao49 x9B_2.length co49], .int .i64 x10_4, .int .i64 ji9] rfl (by (try simp only [List.map_toArray, List.map_cons, List.map_nil]); first | done | (simp only [hji9]; rfl) | rfl | (simp only [List.length_drop, List.length_take]; rfl)) ?_; (with_reducible refine (down_Depth.calls k4 x9A_2 _ _ x9B_2 x10_4 ji9 t204 _ ?side1 ?side2 A28.out).mono ?_); (case side1 => repeat (first | exact (Kd.R_reads' HO_9B.out).2.2 | (with_reducible refine Kd.C_alloc ?_ _) | (with_reducible refine Kd.C_drewN ?_ _) | (with_reducible refine Kd.C_drew ?_))); (case side2 => exact (Kd.R_reads' HO_9B.out).2.1); rintro e w50 ⟨rfl, hb⟩; refine ⟨_, rfl, ?_⟩; have n0_ := Aside0.mk (Kd.R_below (by (with_reducible repeat (first | apply Kd.R_alloc | apply Kd.R_drewN | apply Kd.R_drew)); exact HO_4.out) hb); have n1_ := Aside0.mk (Kd.R_below (by (with_reducible repeat (first | apply Kd.R_alloc | apply Kd.R_drewN | apply Kd.R_drew)); exact HO_9B.out) hb); have n2_ := Aside0.mk (blk_below (g := gb192) (o := .cells #[.int .i64 x9A_2, .slice Ao49 x9B_2.length co49] 25 (0, 0)) (by (with_reducible repeat (first | refine blk_drewN ?_ _ | refine blk_drew ?_ | refine blk_alloc ?_ _)); exact BK192.out) hb); have n3_ := Aside0.mk (blk_below (g := gb198) (o := .cells #[.int .i64 ((rd_T40 l0 x7_2).f0), .int .i64 ((rd_T40 l0 x7_2).f1.f0), .int .i64 ((rd_T40 l0 x7_2).f1.f1), .int .i64 ((rd_T40 l0 x7_2).f1.f2), .int .i64 ((rd_T40 l0 x7_2).f1.f3), .bool ((rd_T40 l0 x7_2).f1.f4), .int .i64 ((rd_T40 l0 x7_2).f1.f5), .int .i64 ((rd_T40 l0 x7_2).f1.f6), .int .i64 ((rd_T40 l0 x7_2).f1.f7), .int .i64 ((rd_T40 l0 x7_2).f2)] 40 (0, 0)) (by (with_reducible repeat (first | refine blk_drewN ?_ _ | refine blk_drew ?_ | refine blk_alloc ?_ _)); exact BK198.out) hb); have n4_ := Aside0.mk (blk_below (g := gb203) (o := .cells #[.int .i64 x9C_4, .int .i64 x9D_4, .int .i64 x9E_4, .int .i64 x9F_4] 41 (0, 0)) (by (with_reducible repeat (first | refine blk_drewN ?_ _ | refine blk_drew ?_ | refine blk_alloc ?_ _)); exact BK203.out) hb); have n5_ := Aside0.mk (below_step (by repeat (first | (with_reducible first | exact HB.out | apply below_alloc | apply pw_below_drewN | apply below_drew1 | refine below_set ?_ GE192.out | refine below_set ?_ GE198.out | refine below_set ?_ GE203.out) | exact HB.out)) hb); clear HO_4; clear HO_9B; clear BK192; clear BK198; clear BK203; clear HB; have HO_4 := n0_; have HO_9B := n1_; have BK192 := n2_; have BK198 := n3_; have BK203 := n4_; have HB := n5_; clear n0_ n1_ n2_ n3_ n4_ n5_; (try clear hb); (try clear hb2); (try clear hk); (try clear hi); have hnb51 := NB203_198.out; have hnc51 := NB198_203.out; have hcz52_0 : w50.cell? ⟨gb203, 0, none⟩ = some (.int .i64 x9C_4) := (blk_cell BK203.out 0).trans rfl; have hcz52_1 : w50.cell? ⟨gb203, 1, none⟩ = some (.int .i64 x9D_4) := (blk_cell BK203.out 1).trans rfl; have hcz52_2 : w50.cell? ⟨gb203, 2, none⟩ = some (.int .i64 x9E_4) := (blk_cell BK203.out 2).trans rfl; have hcz52_3 : w50.cell? ⟨gb203, 3, none⟩ = some (.int .i64 x9F_4) := (blk_cell BK203.out 3).trans rfl; have hfz52_0 := blk_frozen BK203.out 0; have hfz52_1 := blk_frozen BK203.out 1; have hfz52_2 := blk_frozen BK203.out 2; have hfz52_3 := blk_frozen BK203.out 3))
                    go_roundg k4
                    case measure => have := HK1.out; have := HK2.out; have := HJ13.out; have := HK4.out; omega
                    case rel => exact ⟨(wrap64 (x10_4 + 1)), (x9C_4), (x9D_4), (t204), (x9F_4), (by first | rfl | (simp; done) | (simp [*]; done) | (simp; unfold wrap64; omega)), H', ⟨by have := HK1.out; have := HK2.out; have := HJ13.out; have := HK4.out; omega⟩, ⟨by (with_reducible repeat (first | apply Kd.R_alloc | apply Kd.R_drewN | apply Kd.R_drew)); exact Kd.R_mono (Kd.R_far (p := ⟨gb203, 2, none⟩) (Kd.R_types HO_4.out BK203.out (by decide)) (fun _ hk => hk.2) (.int .i64 t204)) (fun _ hk => trivial)⟩, ⟨by (with_reducible repeat (first | apply Kd.R_alloc | apply Kd.R_drewN | apply Kd.R_drew)); exact Kd.R_mono (Kd.R_far (p := ⟨gb203, 2, none⟩) (Kd.R_types HO_9B.out BK203.out (by decide)) (fun _ hk => hk.2) (.int .i64 t204)) (fun _ hk => trivial)⟩, ⟨by (with_reducible repeat (first | refine blk_drewN ?_ _ | refine blk_drew ?_ | refine blk_alloc ?_ _)); refine blk_far ?_ NB192_203.out _; (with_reducible repeat (first | refine blk_drewN ?_ _ | refine blk_drew ?_ | refine blk_alloc ?_ _)); exact BK192.out⟩, ⟨by (with_reducible repeat (first | refine blk_drewN ?_ _ | refine blk_drew ?_ | refine blk_alloc ?_ _)); refine blk_far ?_ NB198_203.out _; (with_reducible repeat (first | refine blk_drewN ?_ _ | refine blk_drew ?_ | refine blk_alloc ?_ _)); exact BK198.out⟩, ⟨by (with_reducible repeat (first | refine blk_drewN ?_ _ | refine blk_drew ?_ | refine blk_alloc ?_ _)); refine blk_put (cs := #[.int .i64 x9C_4, .int .i64 x9D_4, .int .i64 x9E_4, .int .i64 x9F_4]) ?_ 2 _ rfl; (with_reducible repeat (first | refine blk_drewN ?_ _ | refine blk_drew ?_ | refine blk_alloc ?_ _)); exact BK203.out⟩, ⟨by repeat (first | (with_reducible first | exact HB.out | apply below_alloc | apply pw_below_drewN | apply below_drew1 | refine below_set ?_ GE192.out | refine below_set ?_ GE198.out | refine below_set ?_ GE203.out) | exact HB.out)⟩⟩
                   ·rw [if_neg c45] at H
                    have c45b0 : (x10_4 == (2 : Int)) = false := beq_eq_false_iff_ne.mpr c45
                    have c45b1 : (x10_4 != (2 : Int)) = true := bne_iff_ne.mpr c45
                    by_cases c53 : x10_4 = (3 : Int)
                    ·rw [if_pos c53] at H
                     have c53b0 : (x10_4 == (3 : Int)) = true := beq_iff_eq.mpr c53
                     have c53b1 : (x10_4 != (3 : Int)) = false := bne_eq_false_iff_eq.mpr c53
                     have c53b2 : 0 ≤ x10_4 := by omega
                     have c53b3 : x10_4 < 4 := by omega
                     have c53b4 : (x10_4 : Int).toNat = 3 := by omega
                     clear c53
                     have H' := Aside0.mk H
                     clear H
                     have hnb54 := NB192_198.out
                     have hnc54 := NB198_192.out
                     have hnb55 := NB192_203.out
                     have hnc55 := NB203_192.out
                     have hcz56_0 : wr.cell? ⟨gb192, 0, none⟩ = some (.int .i64 x9A_2) := (blk_cell BK192.out 0).trans rfl
                     have hcz56_1 : wr.cell? ⟨gb192, 1, none⟩ = some (u9B) := (blk_cell BK192.out 1).trans rfl
                     have hfz56_0 := blk_frozen BK192.out 0
                     have hfz56_1 := blk_frozen BK192.out 1
                     obtain ⟨Ao57, co57, eo57⟩ := Kd.R_slice HO_9B.out
                     subst eo57
                     go_wp2_with (first | ((with_reducible refine gate_callee (f := 7) rfl ?_); refine goesL_ (some 79) rfl rfl Try.func7 (by kernel_rfl) rfl #[.agg #[.int .i64 x9A_2, .slice Ao57 x9B_2.length co57], .int .i64 x10_4, .int .i64 ji9] rfl (by (try simp only [List.map_toArray, List.map_cons, List.map_nil]); first | done | (simp only [hji9]; rfl) | rfl | (simp only [List.length_drop, List.length_take]; rfl)) ?_; (with_reducible refine (down_Depth.calls k4 x9A_2 _ _ x9B_2 x10_4 ji9 t204 _ ?side1 ?side2 A28.out).mono ?_); (case side1 => repeat (first | exact (Kd.R_reads' HO_9B.out).2.2 | (with_reducible refine Kd.C_alloc ?_ _) | (with_reducible refine Kd.C_drewN ?_ _) | (with_reducible refine Kd.C_drew ?_))); (case side2 => exact (Kd.R_reads' HO_9B.out).2.1); rintro e w58 ⟨rfl, hb⟩; refine ⟨_, rfl, ?_⟩; have n0_ := Aside0.mk (Kd.R_below (by (with_reducible repeat (first | apply Kd.R_alloc | apply Kd.R_drewN | apply Kd.R_drew)); exact HO_4.out) hb); have n1_ := Aside0.mk (Kd.R_below (by (with_reducible repeat (first | apply Kd.R_alloc | apply Kd.R_drewN | apply Kd.R_drew)); exact HO_9B.out) hb); have n2_ := Aside0.mk (blk_below (g := gb192) (o := .cells #[.int .i64 x9A_2, .slice Ao57 x9B_2.length co57] 25 (0, 0)) (by (with_reducible repeat (first | refine blk_drewN ?_ _ | refine blk_drew ?_ | refine blk_alloc ?_ _)); exact BK192.out) hb); have n3_ := Aside0.mk (blk_below (g := gb198) (o := .cells #[.int .i64 ((rd_T40 l0 x7_2).f0), .int .i64 ((rd_T40 l0 x7_2).f1.f0), .int .i64 ((rd_T40 l0 x7_2).f1.f1), .int .i64 ((rd_T40 l0 x7_2).f1.f2), .int .i64 ((rd_T40 l0 x7_2).f1.f3), .bool ((rd_T40 l0 x7_2).f1.f4), .int .i64 ((rd_T40 l0 x7_2).f1.f5), .int .i64 ((rd_T40 l0 x7_2).f1.f6), .int .i64 ((rd_T40 l0 x7_2).f1.f7), .int .i64 ((rd_T40 l0 x7_2).f2)] 40 (0, 0)) (by (with_reducible repeat (first | refine blk_drewN ?_ _ | refine blk_drew ?_ | refine blk_alloc ?_ _)); exact BK198.out) hb); have n4_ := Aside0.mk (blk_below (g := gb203) (o := .cells #[.int .i64 x9C_4, .int .i64 x9D_4, .int .i64 x9E_4, .int .i64 x9F_4] 41 (0, 0)) (by (with_reducible repeat (first | refine blk_drewN ?_ _ | refine blk_drew ?_ | refine blk_alloc ?_ _)); exact BK203.out) hb); have n5_ := Aside0.mk (below_step (by repeat (first | (with_reducible first | exact HB.out | apply below_alloc | apply pw_below_drewN | apply below_drew1 | refine below_set ?_ GE192.out | refine below_set ?_ GE198.out | refine below_set ?_ GE203.out) | exact HB.out)) hb); clear HO_4; clear HO_9B; clear BK192; clear BK198; clear BK203; clear HB; have HO_4 := n0_; have HO_9B := n1_; have BK192 := n2_; have BK198 := n3_; have BK203 := n4_; have HB := n5_; clear n0_ n1_ n2_ n3_ n4_ n5_; (try clear hb); (try clear hb2); (try clear hk); (try clear hi); have hnb59 := NB203_198.out; have hnc59 := NB198_203.out; have hcz60_0 : w58.cell? ⟨gb203, 0, none⟩ = some (.int .i64 x9C_4) := (blk_cell BK203.out 0).trans rfl; have hcz60_1 : w58.cell? ⟨gb203, 1, none⟩ = some (.int .i64 x9D_4) := (blk_cell BK203.out 1).trans rfl; have hcz60_2 : w58.cell? ⟨gb203, 2, none⟩ = some (.int .i64 x9E_4) := (blk_cell BK203.out 2).trans rfl; have hcz60_3 : w58.cell? ⟨gb203, 3, none⟩ = some (.int .i64 x9F_4) := (blk_cell BK203.out 3).trans rfl; have hfz60_0 := blk_frozen BK203.out 0; have hfz60_1 := blk_frozen BK203.out 1; have hfz60_2 := blk_frozen BK203.out 2; have hfz60_3 := blk_frozen BK203.out 3))
                     go_roundg k4
                     case measure => have := HK1.out; have := HK2.out; have := HJ13.out; have := HK4.out; omega
                     case rel => exact ⟨(wrap64 (x10_4 + 1)), (x9C_4), (x9D_4), (x9E_4), (t204), (by first | rfl | (simp; done) | (simp [*]; done) | (simp; unfold wrap64; omega)), H', ⟨by have := HK1.out; have := HK2.out; have := HJ13.out; have := HK4.out; omega⟩, ⟨by (with_reducible repeat (first | apply Kd.R_alloc | apply Kd.R_drewN | apply Kd.R_drew)); exact Kd.R_mono (Kd.R_far (p := ⟨gb203, 3, none⟩) (Kd.R_types HO_4.out BK203.out (by decide)) (fun _ hk => hk.2) (.int .i64 t204)) (fun _ hk => trivial)⟩, ⟨by (with_reducible repeat (first | apply Kd.R_alloc | apply Kd.R_drewN | apply Kd.R_drew)); exact Kd.R_mono (Kd.R_far (p := ⟨gb203, 3, none⟩) (Kd.R_types HO_9B.out BK203.out (by decide)) (fun _ hk => hk.2) (.int .i64 t204)) (fun _ hk => trivial)⟩, ⟨by (with_reducible repeat (first | refine blk_drewN ?_ _ | refine blk_drew ?_ | refine blk_alloc ?_ _)); refine blk_far ?_ NB192_203.out _; (with_reducible repeat (first | refine blk_drewN ?_ _ | refine blk_drew ?_ | refine blk_alloc ?_ _)); exact BK192.out⟩, ⟨by (with_reducible repeat (first | refine blk_drewN ?_ _ | refine blk_drew ?_ | refine blk_alloc ?_ _)); refine blk_far ?_ NB198_203.out _; (with_reducible repeat (first | refine blk_drewN ?_ _ | refine blk_drew ?_ | refine blk_alloc ?_ _)); exact BK198.out⟩, ⟨by (with_reducible repeat (first | refine blk_drewN ?_ _ | refine blk_drew ?_ | refine blk_alloc ?_ _)); refine blk_put (cs := #[.int .i64 x9C_4, .int .i64 x9D_4, .int .i64 x9E_4, .int .i64 x9F_4]) ?_ 3 _ rfl; (with_reducible repeat (first | refine blk_drewN ?_ _ | refine blk_drew ?_ | refine blk_alloc ?_ _)); exact BK203.out⟩, ⟨by repeat (first | (with_reducible first | exact HB.out | apply below_alloc | apply pw_below_drewN | apply below_drew1 | refine below_set ?_ GE192.out | refine below_set ?_ GE198.out | refine below_set ?_ GE203.out) | exact HB.out)⟩⟩
                    ·rw [if_neg c53] at H
                     exact absurd H (by simp)
                ·rw [if_neg c27] at H
                 have c27b0 : decide (x10_4 < 4) = false := decide_eq_false c27
                 clear c27
                 replace H := Option.bind_eq_some_iff.mp H
                 obtain ⟨⟨t205, t206⟩, A610, H⟩ := H
                 replace H : (lawDO.l3 k4 l0 x4_2 ji9 x7_2 0 x9C_4 x9D_4 x9E_4 x9F_4 t205 t206) = some r := H
                 have A61 := Aside0.mk A610
                 clear A610
                 have H' := Aside0.mk H
                 clear H
                 have hnb62 := NB192_198.out
                 have hnc62 := NB198_192.out
                 have hnb63 := NB192_203.out
                 have hnc63 := NB203_192.out
                 have hcz64_0 : wr.cell? ⟨gb192, 0, none⟩ = some (.int .i64 x9A_2) := (blk_cell BK192.out 0).trans rfl
                 have hcz64_1 : wr.cell? ⟨gb192, 1, none⟩ = some (u9B) := (blk_cell BK192.out 1).trans rfl
                 have hfz64_0 := blk_frozen BK192.out 0
                 have hfz64_1 := blk_frozen BK192.out 1
                 obtain ⟨Ao65, co65, eo65⟩ := Kd.R_slice HO_9B.out
                 subst eo65
                 go_wp2_with (first | ((with_reducible refine gate_callee (f := 10) rfl ?_); refine goesL_ (some 83) rfl rfl Try.func10 (by kernel_rfl) rfl #[.agg #[.int .i64 x9A_2, .slice Ao65 x9B_2.length co65], .int .i64 ji9] rfl (by (try simp only [List.map_toArray, List.map_cons, List.map_nil]); first | done | (simp only [hji9]; rfl) | rfl | (simp only [List.length_drop, List.length_take]; rfl)) ?_; (with_reducible refine (down_Pass.calls k4 x9A_2 _ _ x9B_2 ji9 t205 t206 _ ?side1 ?side2 A61.out).mono ?_); (case side1 => repeat (first | exact (Kd.R_reads' HO_9B.out).2.2 | (with_reducible refine Kd.C_alloc ?_ _) | (with_reducible refine Kd.C_drewN ?_ _) | (with_reducible refine Kd.C_drew ?_))); (case side2 => exact (Kd.R_reads' HO_9B.out).2.1); rintro e w66 ⟨v207, rfl, ho0, hb⟩; refine ⟨_, rfl, ?_⟩; have n0_ := Aside0.mk (Kd.R_below (by (with_reducible repeat (first | apply Kd.R_alloc | apply Kd.R_drewN | apply Kd.R_drew)); exact HO_4.out) hb); have n1_ := Aside0.mk (Kd.R_elder' (by (with_reducible repeat (first | apply Kd.R_alloc | apply Kd.R_drewN | apply Kd.R_drew)); exact HO_9B.out) (Kd.R_base ho0) hb); have n2_ := Aside0.mk (Kd.R_lower (Kd.R_new' ho0 (Kd.R_lt (by (with_reducible repeat (first | apply Kd.R_alloc | apply Kd.R_drewN | apply Kd.R_drew)); exact HO_9B.out))) (below_size (by repeat (first | (with_reducible first | exact HB.out | apply below_alloc | apply pw_below_drewN | apply below_drew1 | refine below_set ?_ GE192.out | refine below_set ?_ GE198.out | refine below_set ?_ GE203.out) | exact HB.out)))); have n3_ := Aside0.mk (blk_below (g := gb192) (o := .cells #[.int .i64 x9A_2, .slice Ao65 x9B_2.length co65] 25 (0, 0)) (by (with_reducible repeat (first | refine blk_drewN ?_ _ | refine blk_drew ?_ | refine blk_alloc ?_ _)); exact BK192.out) hb); have n4_ := Aside0.mk (blk_below (g := gb198) (o := .cells #[.int .i64 ((rd_T40 l0 x7_2).f0), .int .i64 ((rd_T40 l0 x7_2).f1.f0), .int .i64 ((rd_T40 l0 x7_2).f1.f1), .int .i64 ((rd_T40 l0 x7_2).f1.f2), .int .i64 ((rd_T40 l0 x7_2).f1.f3), .bool ((rd_T40 l0 x7_2).f1.f4), .int .i64 ((rd_T40 l0 x7_2).f1.f5), .int .i64 ((rd_T40 l0 x7_2).f1.f6), .int .i64 ((rd_T40 l0 x7_2).f1.f7), .int .i64 ((rd_T40 l0 x7_2).f2)] 40 (0, 0)) (by (with_reducible repeat (first | refine blk_drewN ?_ _ | refine blk_drew ?_ | refine blk_alloc ?_ _)); exact BK198.out) hb); have n5_ := Aside0.mk (blk_below (g := gb203) (o := .cells #[.int .i64 x9C_4, .int .i64 x9D_4, .int .i64 x9E_4, .int .i64 x9F_4] 41 (0, 0)) (by (with_reducible repeat (first | refine blk_drewN ?_ _ | refine blk_drew ?_ | refine blk_alloc ?_ _)); exact BK203.out) hb); have n6_ := Aside0.mk (below_step (by repeat (first | (with_reducible first | exact HB.out | apply below_alloc | apply pw_below_drewN | apply below_drew1 | refine below_set ?_ GE192.out | refine below_set ?_ GE198.out | refine below_set ?_ GE203.out) | exact HB.out)) hb); clear HO_4; clear HO_9B; clear BK192; clear BK198; clear BK203; clear HB; have HO_4 := n0_; have HO_9B := n1_; have HO208 := n2_; have BK192 := n3_; have BK198 := n4_; have BK203 := n5_; have HB := n6_; clear n0_ n1_ n2_ n3_ n4_ n5_ n6_; (try clear hb); (try clear hb2); (try clear hk); (try clear hi); (try clear ho0)) | ((with_reducible refine gate_dst (N := 11) rfl ?_); refine box_event ?hg (N := 11) ?hd (cs := #[.int .i64 0, .slice none 0 0]) (t := 25) ?hr ?_; (case hd => rfl); (case hg => rfl); (case hr => first | (go_simp; done) | (go_simp; rfl)); intro gb209 hg w67 hbox hb; have n0_ := Aside0.mk (Kd.R_below (by (with_reducible repeat (first | apply Kd.R_alloc | apply Kd.R_drewN | apply Kd.R_drew)); exact HO_4.out) hb); have n1_ := Aside0.mk (Kd.R_below (by (with_reducible repeat (first | apply Kd.R_alloc | apply Kd.R_drewN | apply Kd.R_drew)); exact HO_9B.out) hb); have n2_ := Aside0.mk (Kd.R_below (by (with_reducible repeat (first | apply Kd.R_alloc | apply Kd.R_drewN | apply Kd.R_drew)); exact HO208.out) hb); have n3_ := Aside0.mk (blk_below (g := gb192) (o := .cells #[.int .i64 x9A_2, .slice Ao65 x9B_2.length co65] 25 (0, 0)) (by (with_reducible repeat (first | refine blk_drewN ?_ _ | refine blk_drew ?_ | refine blk_alloc ?_ _)); exact BK192.out) hb); have n4_ := Aside0.mk (blk_below (g := gb198) (o := .cells #[.int .i64 ((rd_T40 l0 x7_2).f0), .int .i64 ((rd_T40 l0 x7_2).f1.f0), .int .i64 ((rd_T40 l0 x7_2).f1.f1), .int .i64 ((rd_T40 l0 x7_2).f1.f2), .int .i64 ((rd_T40 l0 x7_2).f1.f3), .bool ((rd_T40 l0 x7_2).f1.f4), .int .i64 ((rd_T40 l0 x7_2).f1.f5), .int .i64 ((rd_T40 l0 x7_2).f1.f6), .int .i64 ((rd_T40 l0 x7_2).f1.f7), .int .i64 ((rd_T40 l0 x7_2).f2)] 40 (0, 0)) (by (with_reducible repeat (first | refine blk_drewN ?_ _ | refine blk_drew ?_ | refine blk_alloc ?_ _)); exact BK198.out) hb); have n5_ := Aside0.mk (blk_below (g := gb203) (o := .cells #[.int .i64 x9C_4, .int .i64 x9D_4, .int .i64 x9E_4, .int .i64 x9F_4] 41 (0, 0)) (by (with_reducible repeat (first | refine blk_drewN ?_ _ | refine blk_drew ?_ | refine blk_alloc ?_ _)); exact BK203.out) hb); have n6_ := Aside0.mk (below_step (by repeat (first | (with_reducible first | exact HB.out | apply below_alloc | apply pw_below_drewN | apply below_drew1 | refine below_set ?_ GE192.out | refine below_set ?_ GE198.out | refine below_set ?_ GE203.out) | exact HB.out)) hb); have n7_ := Aside0.mk (hbox); have n8_ := Aside0.mk ((by rw [hg]; exact (below_size (by repeat (first | (with_reducible first | exact HB.out | apply below_alloc | apply pw_below_drewN | apply below_drew1 | refine below_set ?_ GE192.out | refine below_set ?_ GE198.out | refine below_set ?_ GE203.out) | exact HB.out))) : w.heap.size ≤ gb209)); have n9_ := Aside0.mk ((by rw [hg]; exact (below_size (by repeat (first | (with_reducible first | exact HB.out | apply below_alloc | apply pw_below_drewN | apply below_drew1 | refine below_set ?_ GE192.out | refine below_set ?_ GE198.out | refine below_set ?_ GE203.out) | exact HB.out))) : w.heap.size ≤ gb209)); have n10_ := Aside0.mk ((by rw [hg]; exact Nat.ne_of_lt (blk_lt (g := gb192) (o := .cells #[.int .i64 x9A_2, .slice Ao65 x9B_2.length co65] 25 (0, 0)) (by (with_reducible repeat (first | refine blk_drewN ?_ _ | refine blk_drew ?_ | refine blk_alloc ?_ _)); exact BK192.out)) : gb192 ≠ gb209)); have n11_ := Aside0.mk ((by rw [hg]; exact Nat.ne_of_gt (blk_lt (g := gb192) (o := .cells #[.int .i64 x9A_2, .slice Ao65 x9B_2.length co65] 25 (0, 0)) (by (with_reducible repeat (first | refine blk_drewN ?_ _ | refine blk_drew ?_ | refine blk_alloc ?_ _)); exact BK192.out)) : gb209 ≠ gb192)); have n12_ := Aside0.mk ((by rw [hg]; exact Nat.ne_of_lt (blk_lt (g := gb198) (o := .cells #[.int .i64 ((rd_T40 l0 x7_2).f0), .int .i64 ((rd_T40 l0 x7_2).f1.f0), .int .i64 ((rd_T40 l0 x7_2).f1.f1), .int .i64 ((rd_T40 l0 x7_2).f1.f2), .int .i64 ((rd_T40 l0 x7_2).f1.f3), .bool ((rd_T40 l0 x7_2).f1.f4), .int .i64 ((rd_T40 l0 x7_2).f1.f5), .int .i64 ((rd_T40 l0 x7_2).f1.f6), .int .i64 ((rd_T40 l0 x7_2).f1.f7), .int .i64 ((rd_T40 l0 x7_2).f2)] 40 (0, 0)) (by (with_reducible repeat (first | refine blk_drewN ?_ _ | refine blk_drew ?_ | refine blk_alloc ?_ _)); exact BK198.out)) : gb198 ≠ gb209)); have n13_ := Aside0.mk ((by rw [hg]; exact Nat.ne_of_gt (blk_lt (g := gb198) (o := .cells #[.int .i64 ((rd_T40 l0 x7_2).f0), .int .i64 ((rd_T40 l0 x7_2).f1.f0), .int .i64 ((rd_T40 l0 x7_2).f1.f1), .int .i64 ((rd_T40 l0 x7_2).f1.f2), .int .i64 ((rd_T40 l0 x7_2).f1.f3), .bool ((rd_T40 l0 x7_2).f1.f4), .int .i64 ((rd_T40 l0 x7_2).f1.f5), .int .i64 ((rd_T40 l0 x7_2).f1.f6), .int .i64 ((rd_T40 l0 x7_2).f1.f7), .int .i64 ((rd_T40 l0 x7_2).f2)] 40 (0, 0)) (by (with_reducible repeat (first | refine blk_drewN ?_ _ | refine blk_drew ?_ | refine blk_alloc ?_ _)); exact BK198.out)) : gb209 ≠ gb198)); have n14_ := Aside0.mk ((by rw [hg]; exact Nat.ne_of_lt (blk_lt (g := gb203) (o := .cells #[.int .i64 x9C_4, .int .i64 x9D_4, .int .i64 x9E_4, .int .i64 x9F_4] 41 (0, 0)) (by (with_reducible repeat (first | refine blk_drewN ?_ _ | refine blk_drew ?_ | refine blk_alloc ?_ _)); exact BK203.out)) : gb203 ≠ gb209)); have n15_ := Aside0.mk ((by rw [hg]; exact Nat.ne_of_gt (blk_lt (g := gb203) (o := .cells #[.int .i64 x9C_4, .int .i64 x9D_4, .int .i64 x9E_4, .int .i64 x9F_4] 41 (0, 0)) (by (with_reducible repeat (first | refine blk_drewN ?_ _ | refine blk_drew ?_ | refine blk_alloc ?_ _)); exact BK203.out)) : gb209 ≠ gb203)); clear HO_4; clear HO_9B; clear HO208; clear BK192; clear BK198; clear BK203; clear HB; have HO_4 := n0_; have HO_9B := n1_; have HO208 := n2_; have BK192 := n3_; have BK198 := n4_; have BK203 := n5_; have HB := n6_; have BK209 := n7_; have GW209 := n8_; have GE209 := n9_; have NB192_209 := n10_; have NB209_192 := n11_; have NB198_209 := n12_; have NB209_198 := n13_; have NB203_209 := n14_; have NB209_203 := n15_; clear n0_ n1_ n2_ n3_ n4_ n5_ n6_ n7_ n8_ n9_ n10_ n11_ n12_ n13_ n14_ n15_; clear hb hbox hg; have hnb68 := NB209_192.out; have hnc68 := NB192_209.out; have hnb69 := NB209_198.out; have hnc69 := NB198_209.out; have hnb70 := NB209_203.out; have hnc70 := NB203_209.out; have hcz71_0 : w67.cell? ⟨gb209, 0, none⟩ = some (.int .i64 0) := (blk_cell BK209.out 0).trans rfl; have hcz71_1 : w67.cell? ⟨gb209, 1, none⟩ = some (.slice none 0 0) := (blk_cell BK209.out 1).trans rfl; have hfz71_0 := blk_frozen BK209.out 0; have hfz71_1 := blk_frozen BK209.out 1; obtain ⟨Ao72, co72, eo72⟩ := Kd.R_slice HO208.out; subst eo72))
                 go_loopg [12] k4 (fun kq v12 w' => ∃ (x12_5 : Int), v12 = .int .i64 x12_5 ∧ Aside0 (lawDO.l3 kq l0 x4_2 ji9 x7_2 x12_5 x9C_4 x9D_4 x9E_4 x9F_4 t205 t206 = some r) ∧ Aside0 (kq ≤ k4) ∧ Aside0 (Kd.R (Kd.int .i64) 3 w' w.heap.size (fun _ => True) u4 x4_2) ∧ Aside0 (Kd.R k31 31 w' w.heap.size (fun k_ => some k_ ≠ ((.slice Ao72 t206.length co72) : Value).ownBlock) (.slice Ao65 x9B_2.length co65) x9B_2) ∧ Aside0 (Kd.R k31 31 w' w.heap.size (fun k_ => some k_ ≠ ((.slice Ao65 x9B_2.length co65) : Value).ownBlock) (.slice Ao72 t206.length co72) t206) ∧ Aside0 (w'.heap[gb192]? = some (.cells #[.int .i64 x9A_2, (.slice Ao65 x9B_2.length co65)] 25 (0, 0))) ∧ Aside0 (w'.heap[gb198]? = some (.cells #[.int .i64 ((rd_T40 l0 x7_2).f0), .int .i64 ((rd_T40 l0 x7_2).f1.f0), .int .i64 ((rd_T40 l0 x7_2).f1.f1), .int .i64 ((rd_T40 l0 x7_2).f1.f2), .int .i64 ((rd_T40 l0 x7_2).f1.f3), .bool ((rd_T40 l0 x7_2).f1.f4), .int .i64 ((rd_T40 l0 x7_2).f1.f5), .int .i64 ((rd_T40 l0 x7_2).f1.f6), .int .i64 ((rd_T40 l0 x7_2).f1.f7), .int .i64 ((rd_T40 l0 x7_2).f2)] 40 (0, 0))) ∧ Aside0 (w'.heap[gb203]? = some (.cells #[.int .i64 x9C_4, .int .i64 x9D_4, .int .i64 x9E_4, .int .i64 x9F_4] 41 (0, 0))) ∧ Aside0 (w'.heap[gb209]? = some (.cells #[.int .i64 t205, (.slice Ao72 t206.length co72)] 25 (0, 0))) ∧ Aside0 (Below w.heap.size w w'))
                 case atStart => exact ⟨(0), (by first | rfl | (simp; done) | (simp [*]; done) | (simp; unfold wrap64; omega)), H', ⟨Nat.le_refl _⟩, ⟨by (with_reducible repeat (first | apply Kd.R_alloc | apply Kd.R_drewN | apply Kd.R_drew)); exact Kd.R_mono (Kd.R_far (p := ⟨gb209, 1, none⟩) (Kd.R_far (p := ⟨gb209, 0, none⟩) (Kd.R_types HO_4.out BK209.out (by decide)) (fun _ hk => hk.2) (.int .i64 t205)) (fun _ hk => hk.2) (.slice Ao72 t206.length co72)) (fun _ hk => trivial)⟩, ⟨by (with_reducible repeat (first | apply Kd.R_alloc | apply Kd.R_drewN | apply Kd.R_drew)); exact Kd.R_mono (Kd.R_far (p := ⟨gb209, 1, none⟩) (Kd.R_far (p := ⟨gb209, 0, none⟩) (Kd.R_types HO_9B.out BK209.out (by decide)) (fun _ hk => hk.2) (.int .i64 t205)) (fun _ hk => hk.2) (.slice Ao72 t206.length co72)) (fun _ hk => hk.1.2)⟩, ⟨by (with_reducible repeat (first | apply Kd.R_alloc | apply Kd.R_drewN | apply Kd.R_drew)); exact Kd.R_mono (Kd.R_far (p := ⟨gb209, 1, none⟩) (Kd.R_far (p := ⟨gb209, 0, none⟩) (Kd.R_types HO208.out BK209.out (by decide)) (fun _ hk => hk.2) (.int .i64 t205)) (fun _ hk => hk.2) (.slice Ao72 t206.length co72)) (fun _ hk => hk.1.2)⟩, ⟨by (with_reducible repeat (first | refine blk_drewN ?_ _ | refine blk_drew ?_ | refine blk_alloc ?_ _)); refine blk_far ?_ NB192_209.out _; (with_reducible repeat (first | refine blk_drewN ?_ _ | refine blk_drew ?_ | refine blk_alloc ?_ _)); refine blk_far ?_ NB192_209.out _; (with_reducible repeat (first | refine blk_drewN ?_ _ | refine blk_drew ?_ | refine blk_alloc ?_ _)); exact BK192.out⟩, ⟨by (with_reducible repeat (first | refine blk_drewN ?_ _ | refine blk_drew ?_ | refine blk_alloc ?_ _)); refine blk_far ?_ NB198_209.out _; (with_reducible repeat (first | refine blk_drewN ?_ _ | refine blk_drew ?_ | refine blk_alloc ?_ _)); refine blk_far ?_ NB198_209.out _; (with_reducible repeat (first | refine blk_drewN ?_ _ | refine blk_drew ?_ | refine blk_alloc ?_ _)); exact BK198.out⟩, ⟨by (with_reducible repeat (first | refine blk_drewN ?_ _ | refine blk_drew ?_ | refine blk_alloc ?_ _)); refine blk_far ?_ NB203_209.out _; (with_reducible repeat (first | refine blk_drewN ?_ _ | refine blk_drew ?_ | refine blk_alloc ?_ _)); refine blk_far ?_ NB203_209.out _; (with_reducible repeat (first | refine blk_drewN ?_ _ | refine blk_drew ?_ | refine blk_alloc ?_ _)); exact BK203.out⟩, ⟨by (with_reducible repeat (first | refine blk_drewN ?_ _ | refine blk_drew ?_ | refine blk_alloc ?_ _)); refine blk_put (cs := #[.int .i64 t205, .slice none 0 0]) ?_ 1 _ rfl; (with_reducible repeat (first | refine blk_drewN ?_ _ | refine blk_drew ?_ | refine blk_alloc ?_ _)); refine blk_put (cs := #[.int .i64 0, .slice none 0 0]) ?_ 0 _ rfl; (with_reducible repeat (first | refine blk_drewN ?_ _ | refine blk_drew ?_ | refine blk_alloc ?_ _)); exact BK209.out⟩, ⟨by repeat (first | (with_reducible first | exact HB.out | apply below_alloc | apply pw_below_drewN | apply below_drew1 | refine below_set ?_ GE192.out | refine below_set ?_ GE198.out | refine below_set ?_ GE203.out | refine below_set ?_ GE209.out) | exact HB.out)⟩⟩
                 case round =>
                  clear H'
                  try clear c1
                  try clear p1
                  try clear q1
                  try clear hx1
                  try clear c2
                  try clear p2
                  try clear c3
                  try clear c3b0
                  try clear c4
                  try clear c5
                  try clear c6
                  try clear c6b0
                  try clear p6
                  try clear c7
                  try clear c7b0
                  try clear c8
                  try clear c8b0
                  try clear c10
                  try clear c12
                  try clear c15
                  try clear c15b0
                  try clear c15b1
                  try clear c16
                  try clear c18
                  try clear p19
                  try clear q19
                  try clear hx19
                  try clear c25
                  try clear c25b0
                  try clear c25b1
                  try clear c27
                  try clear c27b0
                  try clear c29
                  try clear c29b0
                  try clear c29b1
                  try clear c29b2
                  try clear c30
                  try clear c31
                  try clear c35
                  try clear c37
                  try clear c37b0
                  try clear c37b1
                  try clear c37b2
                  try clear c38
                  try clear c39
                  try clear c43
                  try clear c45
                  try clear c45b0
                  try clear c45b1
                  try clear c45b2
                  try clear c46
                  try clear c47
                  try clear c51
                  try clear c53
                  try clear c53b0
                  try clear c53b1
                  try clear c53b2
                  try clear c54
                  try clear c55
                  try clear c59
                  try clear c62
                  try clear c63
                  try clear p64
                  try clear c68
                  try clear c69
                  try clear c70
                  try clear hcz13_0
                  try clear hcz13_1
                  try clear hcz13_2
                  try clear hcz13_3
                  try clear hcz13_4
                  try clear hcz13_5
                  try clear hcz13_6
                  try clear hcz13_7
                  try clear hcz13_8
                  try clear hcz13_9
                  try clear hcz19_0
                  try clear hcz19_1
                  try clear hcz20_0
                  try clear hcz20_1
                  try clear hcz20_2
                  try clear hcz20_3
                  try clear hcz20_4
                  try clear hcz20_5
                  try clear hcz20_6
                  try clear hcz20_7
                  try clear hcz20_8
                  try clear hcz20_9
                  try clear hcz23_0
                  try clear hcz23_1
                  try clear hcz32_0
                  try clear hcz32_1
                  try clear hcz36_0
                  try clear hcz36_1
                  try clear hcz36_2
                  try clear hcz36_3
                  try clear hcz40_0
                  try clear hcz40_1
                  try clear hcz44_0
                  try clear hcz44_1
                  try clear hcz44_2
                  try clear hcz44_3
                  try clear hcz48_0
                  try clear hcz48_1
                  try clear hcz52_0
                  try clear hcz52_1
                  try clear hcz52_2
                  try clear hcz52_3
                  try clear hcz56_0
                  try clear hcz56_1
                  try clear hcz60_0
                  try clear hcz60_1
                  try clear hcz60_2
                  try clear hcz60_3
                  try clear hcz64_0
                  try clear hcz64_1
                  try clear hcz71_0
                  try clear hcz71_1
                  try clear hfz13_0
                  try clear hfz13_1
                  try clear hfz13_2
                  try clear hfz13_3
                  try clear hfz13_4
                  try clear hfz13_5
                  try clear hfz13_6
                  try clear hfz13_7
                  try clear hfz13_8
                  try clear hfz13_9
                  try clear hfz19_0
                  try clear hfz19_1
                  try clear hfz20_0
                  try clear hfz20_1
                  try clear hfz20_2
                  try clear hfz20_3
                  try clear hfz20_4
                  try clear hfz20_5
                  try clear hfz20_6
                  try clear hfz20_7
                  try clear hfz20_8
                  try clear hfz20_9
                  try clear hfz23_0
                  try clear hfz23_1
                  try clear hfz32_0
                  try clear hfz32_1
                  try clear hfz36_0
                  try clear hfz36_1
                  try clear hfz36_2
                  try clear hfz36_3
                  try clear hfz40_0
                  try clear hfz40_1
                  try clear hfz44_0
                  try clear hfz44_1
                  try clear hfz44_2
                  try clear hfz44_3
                  try clear hfz48_0
                  try clear hfz48_1
                  try clear hfz52_0
                  try clear hfz52_1
                  try clear hfz52_2
                  try clear hfz52_3
                  try clear hfz56_0
                  try clear hfz56_1
                  try clear hfz60_0
                  try clear hfz60_1
                  try clear hfz60_2
                  try clear hfz60_3
                  try clear hfz64_0
                  try clear hfz64_1
                  try clear hfz71_0
                  try clear hfz71_1
                  try clear hx197_0
                  try clear hx197_1
                  try clear hx197_2
                  try clear hx197_3
                  try clear hx197_4
                  try clear hx197_5
                  try clear hx197_6
                  try clear hx197_7
                  try clear hx197_8
                  try clear hx197_9
                  try clear p1
                  try clear p19
                  try clear p197
                  try clear p2
                  try clear p6
                  try clear q1
                  try clear q19
                  try clear q197
                  obtain ⟨x12_5, rfl, HA, HK5, HO_4, HO_9B, HO_9H, BK192, BK198, BK203, BK209, HB⟩ := hrel
                  cases gk with
                  | zero => exact absurd HA.out (by simp [lawDO.l3])
                  | succ k5 =>
                   have H := HA.out
                   clear HA
                   simp only [lawDO.l3] at H
                   by_cases c73 : x12_5 < 4
                   ·rw [if_pos c73] at H
                    have c73b0 : decide (x12_5 < 4) = true := decide_eq_true c73
                    clear c73
                    replace H := Option.bind_eq_some_iff.mp H
                    obtain ⟨t210, A740, H⟩ := H
                    replace H : (if x12_5 = (0 : Int) then (if t210 < x9C_4 then (none) else (lawDO.l3 k5 l0 x4_2 ji9 x7_2 (wrap64 (x12_5 + 1)) x9C_4 x9D_4 x9E_4 x9F_4 t205 t206)) else (if x12_5 = (1 : Int) then (if t210 < x9D_4 then (none) else (lawDO.l3 k5 l0 x4_2 ji9 x7_2 (wrap64 (x12_5 + 1)) x9C_4 x9D_4 x9E_4 x9F_4 t205 t206)) else (if x12_5 = (2 : Int) then (if t210 < x9E_4 then (none) else (lawDO.l3 k5 l0 x4_2 ji9 x7_2 (wrap64 (x12_5 + 1)) x9C_4 x9D_4 x9E_4 x9F_4 t205 t206)) else (if x12_5 = (3 : Int) then (if t210 < x9F_4 then (none) else (lawDO.l3 k5 l0 x4_2 ji9 x7_2 (wrap64 (x12_5 + 1)) x9C_4 x9D_4 x9E_4 x9F_4 t205 t206)) else (none))))) = some r := H
                    have A74 := Aside0.mk A740
                    clear A740
                    by_cases c75 : x12_5 = (0 : Int)
                    ·rw [if_pos c75] at H
                     have c75b0 : (x12_5 == (0 : Int)) = true := beq_iff_eq.mpr c75
                     have c75b1 : (x12_5 != (0 : Int)) = false := bne_eq_false_iff_eq.mpr c75
                     have c75b2 : 0 ≤ x12_5 := by omega
                     have c75b3 : x12_5 < 1 := by omega
                     have c75b4 : x12_5 < 2 := by omega
                     have c75b5 : x12_5 < 3 := by omega
                     have c75b6 : x12_5 < 4 := by omega
                     have c75b7 : (x12_5 : Int).toNat = 0 := by omega
                     clear c75
                     by_cases c76 : t210 < x9C_4
                     ·rw [if_pos c76] at H
                      exact absurd H (by simp)
                     ·rw [if_neg c76] at H
                      have c76b0 : decide (t210 < x9C_4) = false := decide_eq_false c76
                      clear c76
                      have H' := Aside0.mk H
                      clear H
                      try go_wp2
                      have n0_ := Aside0.mk (Kd.R_drew HO_4.out)
                      have n1_ := Aside0.mk (Kd.R_drew HO_9B.out)
                      have n2_ := Aside0.mk (Kd.R_drew HO_9H.out)
                      have n3_ := Aside0.mk (blk_drew BK192.out)
                      have n4_ := Aside0.mk (blk_drew BK198.out)
                      have n5_ := Aside0.mk (blk_drew BK203.out)
                      have n6_ := Aside0.mk (blk_drew BK209.out)
                      have n7_ := Aside0.mk (below_drew1 HB.out)
                      clear HO_4
                      clear HO_9B
                      clear HO_9H
                      clear BK192
                      clear BK198
                      clear BK203
                      clear BK209
                      clear HB
                      have HO_4 := n0_
                      have HO_9B := n1_
                      have HO_9H := n2_
                      have BK192 := n3_
                      have BK198 := n4_
                      have BK203 := n5_
                      have BK209 := n6_
                      have HB := n7_
                      clear n0_ n1_ n2_ n3_ n4_ n5_ n6_ n7_
                      refine start_ (n := 8) (S := fun w' => w'.cell? ⟨gb209, 0, none⟩ = some (.int .i64 t205) ∧ w'.cell? ⟨gb209, 1, none⟩ = some (.slice Ao72 t206.length co72) ∧ w'.cell? ⟨gb203, 0, none⟩ = some (.int .i64 x9C_4) ∧ w'.cell? ⟨gb203, 1, none⟩ = some (.int .i64 x9D_4) ∧ w'.cell? ⟨gb203, 2, none⟩ = some (.int .i64 x9E_4) ∧ w'.cell? ⟨gb203, 3, none⟩ = some (.int .i64 x9F_4)) (ds := []) #[false, false, false, false, false, false, false, false] (by kernel_rfl) rfl rfl ⟨(blk_cell BK209.out 0).trans rfl, (blk_cell BK209.out 1).trans rfl, (blk_cell BK203.out 0).trans rfl, (blk_cell BK203.out 1).trans rfl, (blk_cell BK203.out 2).trans rfl, (blk_cell BK203.out 3).trans rfl⟩ (fun hHeld => ?_); refine with_tabW lawDO.tab30 lawDO.bits30 (fun HT_ HW_ => ?_)
                      generalize wr.drew = w77 at HO_4 HO_9B HO_9H BK192 BK198 BK203 BK209 HB hHeld ⊢
                      refine pure_ (i := 1) (N := some 89) (v := ?_) (a' := ?_) #[false, true, false, false, false, false, false, false] rfl rfl (any_of HT_.out (by kernel_rfl)) (fun _ _ _ h => h) (Or.inl ⟨by rfl, ?_⟩) ?_ ?_
                      rotate_left
                      ·intro w'
                       go_simp
                       with_reducible rfl
                      rotate_left
                      ·simp only [Act.put, List.setIfInBounds_toArray, List.set_cons_zero, List.set_cons_succ, i64_w, i32_w]
                       rfl
                      refine pure_ (i := 2) (N := some 90) (v := ?_) (a' := ?_) #[false, true, true, false, false, false, false, false] rfl rfl (any_of HT_.out (by kernel_rfl)) (fun _ _ _ h => h) (Or.inl ⟨by rfl, ?_⟩) ?_ ?_
                      rotate_left
                      ·intro w'
                       go_simp
                       with_reducible rfl
                      rotate_left
                      ·simp only [Act.put, List.setIfInBounds_toArray, List.set_cons_zero, List.set_cons_succ, i64_w, i32_w]
                       rfl
                      refine pure_ (i := 4) (N := some 92) (v := ?_) (a' := ?_) #[false, true, true, false, true, false, false, false] rfl rfl (any_of HT_.out (by kernel_rfl)) (fun _ _ _ h => h) (Or.inl ⟨by rfl, ?_⟩) ?_ ?_
                      rotate_left
                      ·intro w'
                       go_simp
                       with_reducible rfl
                      rotate_left
                      ·simp only [Act.put, List.setIfInBounds_toArray, List.set_cons_zero, List.set_cons_succ, i64_w, i32_w]
                       rfl
                      refine pure_ (i := 5) (N := some 93) (v := ?_) (a' := ?_) #[false, true, true, false, true, true, false, false] rfl rfl (any_of HT_.out (by kernel_rfl)) (fun _ _ _ h => h) (Or.inl ⟨by rfl, ?_⟩) ?_ ?_
                      rotate_left
                      ·intro w'
                       go_simp
                       with_reducible rfl
                      rotate_left
                      ·simp only [Act.put, List.setIfInBounds_toArray, List.set_cons_zero, List.set_cons_succ, i64_w, i32_w]
                       rfl
                      refine take_ (i := 0) (N := some 88) (v := ?_) (a' := ?_) #[true, true, true, false, true, true, false, false] rfl rfl (take_ofW HT_.out HW_.out (by kernel_rfl)) (fun _ _ _ h => h) (Or.inl ⟨by rfl, ?_⟩) hHeld ?_ ?_
                      rotate_left
                      ·rintro w' ⟨s0, s1, s2, s3, s4, s5⟩
                       go_simp
                       with_reducible rfl
                      rotate_left
                      ·simp only [Act.put, List.setIfInBounds_toArray, List.set_cons_zero, List.set_cons_succ, i64_w, i32_w]
                       rfl
                      refine take_ (i := 6) (N := some 94) (v := ?_) (a' := ?_) #[true, true, true, false, true, true, true, false] rfl rfl (take_ofW HT_.out HW_.out (by kernel_rfl)) (fun _ _ _ h => h) (Or.inl ⟨by rfl, ?_⟩) hHeld ?_ ?_
                      rotate_left
                      ·rintro w' ⟨s0, s1, s2, s3, s4, s5⟩
                       go_simp
                       with_reducible rfl
                      rotate_left
                      ·simp only [Act.put, List.setIfInBounds_toArray, List.set_cons_zero, List.set_cons_succ, i64_w, i32_w]
                       rfl
                      refine one_ (i := 3) (N := some 91) #[true, true, true, true, true, true, true, false] rfl rfl (one_of HT_.out (by kernel_rfl)) (by decide) (fun K hK => ?_)
                      refine goes_ Try.func7 (by kernel_rfl) rfl #[.agg #[.int .i64 t205, .slice Ao72 t206.length co72], .int .i64 x12_5, .int .i64 ji9] (by rfl) rfl rfl (by (try simp only [List.map_toArray, List.map_cons, List.map_nil]); first | done | (simp only [hji9]; rfl) | rfl | (simp only [List.length_drop, List.length_take]; rfl)) ?_
                      with_reducible refine (down_Depth.calls k5 t205 _ _ t206 x12_5 ji9 t210 _ ?side1 ?side2 A74.out).mono ?_
                      (case side1 => repeat (first | exact (Kd.R_reads' HO_9H.out).2.2 | (with_reducible refine Kd.C_alloc ?_ _) | (with_reducible refine Kd.C_drewN ?_ _) | (with_reducible refine Kd.C_drew ?_)))
                      (case side2 => exact (Kd.R_reads' HO_9H.out).2.1)
                      rintro e w78 ⟨rfl, hb⟩
                      refine ⟨_, rfl, ?_⟩
                      have n0_ := Aside0.mk (Kd.R_below (by (with_reducible repeat (first | apply Kd.R_alloc | apply Kd.R_drewN | apply Kd.R_drew)); exact HO_4.out) hb)
                      have n1_ := Aside0.mk (Kd.R_below (by (with_reducible repeat (first | apply Kd.R_alloc | apply Kd.R_drewN | apply Kd.R_drew)); exact HO_9B.out) hb)
                      have n2_ := Aside0.mk (Kd.R_below (by (with_reducible repeat (first | apply Kd.R_alloc | apply Kd.R_drewN | apply Kd.R_drew)); exact HO_9H.out) hb)
                      have n3_ := Aside0.mk (blk_below (g := gb192) (o := .cells #[.int .i64 x9A_2, .slice Ao65 x9B_2.length co65] 25 (0, 0)) (by (with_reducible repeat (first | refine blk_drewN ?_ _ | refine blk_drew ?_ | refine blk_alloc ?_ _)); exact BK192.out) hb)
                      have n4_ := Aside0.mk (blk_below (g := gb198) (o := .cells #[.int .i64 ((rd_T40 l0 x7_2).f0), .int .i64 ((rd_T40 l0 x7_2).f1.f0), .int .i64 ((rd_T40 l0 x7_2).f1.f1), .int .i64 ((rd_T40 l0 x7_2).f1.f2), .int .i64 ((rd_T40 l0 x7_2).f1.f3), .bool ((rd_T40 l0 x7_2).f1.f4), .int .i64 ((rd_T40 l0 x7_2).f1.f5), .int .i64 ((rd_T40 l0 x7_2).f1.f6), .int .i64 ((rd_T40 l0 x7_2).f1.f7), .int .i64 ((rd_T40 l0 x7_2).f2)] 40 (0, 0)) (by (with_reducible repeat (first | refine blk_drewN ?_ _ | refine blk_drew ?_ | refine blk_alloc ?_ _)); exact BK198.out) hb)
                      have n5_ := Aside0.mk (blk_below (g := gb203) (o := .cells #[.int .i64 x9C_4, .int .i64 x9D_4, .int .i64 x9E_4, .int .i64 x9F_4] 41 (0, 0)) (by (with_reducible repeat (first | refine blk_drewN ?_ _ | refine blk_drew ?_ | refine blk_alloc ?_ _)); exact BK203.out) hb)
                      have n6_ := Aside0.mk (blk_below (g := gb209) (o := .cells #[.int .i64 t205, .slice Ao72 t206.length co72] 25 (0, 0)) (by (with_reducible repeat (first | refine blk_drewN ?_ _ | refine blk_drew ?_ | refine blk_alloc ?_ _)); exact BK209.out) hb)
                      have n7_ := Aside0.mk (below_step (by repeat (first | (with_reducible first | exact HB.out | apply below_alloc | apply pw_below_drewN | apply below_drew1 | refine below_set ?_ GE192.out | refine below_set ?_ GE198.out | refine below_set ?_ GE203.out | refine below_set ?_ GE209.out) | exact HB.out)) hb)
                      clear HO_4
                      clear HO_9B
                      clear HO_9H
                      clear BK192
                      clear BK198
                      clear BK203
                      clear BK209
                      clear HB
                      have HO_4 := n0_
                      have HO_9B := n1_
                      have HO_9H := n2_
                      have BK192 := n3_
                      have BK198 := n4_
                      have BK203 := n5_
                      have BK209 := n6_
                      have HB := n7_
                      clear n0_ n1_ n2_ n3_ n4_ n5_ n6_ n7_
                      (try clear hb)
                      (try clear hb2)
                      (try clear hk)
                      (try clear hi)
                      refine hK.out _ _ ⟨(blk_cell BK209.out 0).trans rfl, (blk_cell BK209.out 1).trans rfl, (blk_cell BK203.out 0).trans rfl, (blk_cell BK203.out 1).trans rfl, (blk_cell BK203.out 2).trans rfl, (blk_cell BK203.out 3).trans rfl⟩ (fun hHeld => ?_)
                      clear hK K
                      refine norm_ (a' := ?_) ?_ ?_
                      rotate_left
                      ·show Act.put _ (some 91) _ = _
                       simp only [Act.put, List.setIfInBounds_toArray, List.set_cons_zero, List.set_cons_succ, i64_w, i32_w]
                       rfl
                      refine pure_ (i := 7) (N := some 95) (v := ?_) (a' := ?_) #[true, true, true, true, true, true, true, true] rfl rfl (any_of HT_.out (by kernel_rfl)) (fun _ _ _ h => h) (Or.inl ⟨by rfl, ?_⟩) ?_ ?_
                      rotate_left
                      ·intro w'
                       go_simp
                       with_reducible rfl
                      rotate_left
                      ·simp only [Act.put, List.setIfInBounds_toArray, List.set_cons_zero, List.set_cons_succ, i64_w, i32_w]
                       rfl
                      refine done_ (done_of HT_.out (by kernel_rfl)) ?_
                      try go_wp2
                      go_roundg k5
                      case measure => have := HK1.out; have := HK2.out; have := HJ13.out; have := HK4.out; have := HK5.out; omega
                      case rel => exact ⟨(wrap64 (x12_5 + 1)), (by first | rfl | (simp; done) | (simp [*]; done) | (simp; unfold wrap64; omega)), H', ⟨by have := HK1.out; have := HK2.out; have := HJ13.out; have := HK4.out; have := HK5.out; omega⟩, ⟨by (with_reducible repeat (first | apply Kd.R_alloc | apply Kd.R_drewN | apply Kd.R_drew)); exact HO_4.out⟩, ⟨by (with_reducible repeat (first | apply Kd.R_alloc | apply Kd.R_drewN | apply Kd.R_drew)); exact HO_9B.out⟩, ⟨by (with_reducible repeat (first | apply Kd.R_alloc | apply Kd.R_drewN | apply Kd.R_drew)); exact HO_9H.out⟩, ⟨by (with_reducible repeat (first | refine blk_drewN ?_ _ | refine blk_drew ?_ | refine blk_alloc ?_ _)); exact BK192.out⟩, ⟨by (with_reducible repeat (first | refine blk_drewN ?_ _ | refine blk_drew ?_ | refine blk_alloc ?_ _)); exact BK198.out⟩, ⟨by (with_reducible repeat (first | refine blk_drewN ?_ _ | refine blk_drew ?_ | refine blk_alloc ?_ _)); exact BK203.out⟩, ⟨by (with_reducible repeat (first | refine blk_drewN ?_ _ | refine blk_drew ?_ | refine blk_alloc ?_ _)); exact BK209.out⟩, ⟨by repeat (first | (with_reducible first | exact HB.out | apply below_alloc | apply pw_below_drewN | apply below_drew1 | refine below_set ?_ GE192.out | refine below_set ?_ GE198.out | refine below_set ?_ GE203.out | refine below_set ?_ GE209.out) | exact HB.out)⟩⟩
                    ·rw [if_neg c75] at H
                     have c75b0 : (x12_5 == (0 : Int)) = false := beq_eq_false_iff_ne.mpr c75
                     have c75b1 : (x12_5 != (0 : Int)) = true := bne_iff_ne.mpr c75
                     by_cases c79 : x12_5 = (1 : Int)
                     ·rw [if_pos c79] at H
                      have c79b0 : (x12_5 == (1 : Int)) = true := beq_iff_eq.mpr c79
                      have c79b1 : (x12_5 != (1 : Int)) = false := bne_eq_false_iff_eq.mpr c79
                      have c79b2 : 0 ≤ x12_5 := by omega
                      have c79b3 : x12_5 < 2 := by omega
                      have c79b4 : x12_5 < 3 := by omega
                      have c79b5 : x12_5 < 4 := by omega
                      have c79b6 : (x12_5 : Int).toNat = 1 := by omega
                      clear c79
                      by_cases c80 : t210 < x9D_4
                      ·rw [if_pos c80] at H
                       exact absurd H (by simp)
                      ·rw [if_neg c80] at H
                       have c80b0 : decide (t210 < x9D_4) = false := decide_eq_false c80
                       clear c80
                       have H' := Aside0.mk H
                       clear H
                       try go_wp2
                       have n0_ := Aside0.mk (Kd.R_drew HO_4.out)
                       have n1_ := Aside0.mk (Kd.R_drew HO_9B.out)
                       have n2_ := Aside0.mk (Kd.R_drew HO_9H.out)
                       have n3_ := Aside0.mk (blk_drew BK192.out)
                       have n4_ := Aside0.mk (blk_drew BK198.out)
                       have n5_ := Aside0.mk (blk_drew BK203.out)
                       have n6_ := Aside0.mk (blk_drew BK209.out)
                       have n7_ := Aside0.mk (below_drew1 HB.out)
                       clear HO_4
                       clear HO_9B
                       clear HO_9H
                       clear BK192
                       clear BK198
                       clear BK203
                       clear BK209
                       clear HB
                       have HO_4 := n0_
                       have HO_9B := n1_
                       have HO_9H := n2_
                       have BK192 := n3_
                       have BK198 := n4_
                       have BK203 := n5_
                       have BK209 := n6_
                       have HB := n7_
                       clear n0_ n1_ n2_ n3_ n4_ n5_ n6_ n7_
                       refine start_ (n := 8) (S := fun w' => w'.cell? ⟨gb209, 0, none⟩ = some (.int .i64 t205) ∧ w'.cell? ⟨gb209, 1, none⟩ = some (.slice Ao72 t206.length co72) ∧ w'.cell? ⟨gb203, 0, none⟩ = some (.int .i64 x9C_4) ∧ w'.cell? ⟨gb203, 1, none⟩ = some (.int .i64 x9D_4) ∧ w'.cell? ⟨gb203, 2, none⟩ = some (.int .i64 x9E_4) ∧ w'.cell? ⟨gb203, 3, none⟩ = some (.int .i64 x9F_4)) (ds := []) #[false, false, false, false, false, false, false, false] (by kernel_rfl) rfl rfl ⟨(blk_cell BK209.out 0).trans rfl, (blk_cell BK209.out 1).trans rfl, (blk_cell BK203.out 0).trans rfl, (blk_cell BK203.out 1).trans rfl, (blk_cell BK203.out 2).trans rfl, (blk_cell BK203.out 3).trans rfl⟩ (fun hHeld => ?_); refine with_tabW lawDO.tab30 lawDO.bits30 (fun HT_ HW_ => ?_)
                       generalize wr.drew = w81 at HO_4 HO_9B HO_9H BK192 BK198 BK203 BK209 HB hHeld ⊢
                       refine pure_ (i := 1) (N := some 89) (v := ?_) (a' := ?_) #[false, true, false, false, false, false, false, false] rfl rfl (any_of HT_.out (by kernel_rfl)) (fun _ _ _ h => h) (Or.inl ⟨by rfl, ?_⟩) ?_ ?_
                       rotate_left
                       ·intro w'
                        go_simp
                        with_reducible rfl
                       rotate_left
                       ·simp only [Act.put, List.setIfInBounds_toArray, List.set_cons_zero, List.set_cons_succ, i64_w, i32_w]
                        rfl
                       refine pure_ (i := 2) (N := some 90) (v := ?_) (a' := ?_) #[false, true, true, false, false, false, false, false] rfl rfl (any_of HT_.out (by kernel_rfl)) (fun _ _ _ h => h) (Or.inl ⟨by rfl, ?_⟩) ?_ ?_
                       rotate_left
                       ·intro w'
                        go_simp
                        with_reducible rfl
                       rotate_left
                       ·simp only [Act.put, List.setIfInBounds_toArray, List.set_cons_zero, List.set_cons_succ, i64_w, i32_w]
                        rfl
                       refine pure_ (i := 4) (N := some 92) (v := ?_) (a' := ?_) #[false, true, true, false, true, false, false, false] rfl rfl (any_of HT_.out (by kernel_rfl)) (fun _ _ _ h => h) (Or.inl ⟨by rfl, ?_⟩) ?_ ?_
                       rotate_left
                       ·intro w'
                        go_simp
                        with_reducible rfl
                       rotate_left
                       ·simp only [Act.put, List.setIfInBounds_toArray, List.set_cons_zero, List.set_cons_succ, i64_w, i32_w]
                        rfl
                       refine pure_ (i := 5) (N := some 93) (v := ?_) (a' := ?_) #[false, true, true, false, true, true, false, false] rfl rfl (any_of HT_.out (by kernel_rfl)) (fun _ _ _ h => h) (Or.inl ⟨by rfl, ?_⟩) ?_ ?_
                       rotate_left
                       ·intro w'
                        go_simp
                        with_reducible rfl
                       rotate_left
                       ·simp only [Act.put, List.setIfInBounds_toArray, List.set_cons_zero, List.set_cons_succ, i64_w, i32_w]
                        rfl
                       refine take_ (i := 0) (N := some 88) (v := ?_) (a' := ?_) #[true, true, true, false, true, true, false, false] rfl rfl (take_ofW HT_.out HW_.out (by kernel_rfl)) (fun _ _ _ h => h) (Or.inl ⟨by rfl, ?_⟩) hHeld ?_ ?_
                       rotate_left
                       ·rintro w' ⟨s0, s1, s2, s3, s4, s5⟩
                        go_simp
                        with_reducible rfl
                       rotate_left
                       ·simp only [Act.put, List.setIfInBounds_toArray, List.set_cons_zero, List.set_cons_succ, i64_w, i32_w]
                        rfl
                       refine take_ (i := 6) (N := some 94) (v := ?_) (a' := ?_) #[true, true, true, false, true, true, true, false] rfl rfl (take_ofW HT_.out HW_.out (by kernel_rfl)) (fun _ _ _ h => h) (Or.inl ⟨by rfl, ?_⟩) hHeld ?_ ?_
                       rotate_left
                       ·rintro w' ⟨s0, s1, s2, s3, s4, s5⟩
                        go_simp
                        with_reducible rfl
                       rotate_left
                       ·simp only [Act.put, List.setIfInBounds_toArray, List.set_cons_zero, List.set_cons_succ, i64_w, i32_w]
                        rfl
                       refine one_ (i := 3) (N := some 91) #[true, true, true, true, true, true, true, false] rfl rfl (one_of HT_.out (by kernel_rfl)) (by decide) (fun K hK => ?_)
                       refine goes_ Try.func7 (by kernel_rfl) rfl #[.agg #[.int .i64 t205, .slice Ao72 t206.length co72], .int .i64 x12_5, .int .i64 ji9] (by rfl) rfl rfl (by (try simp only [List.map_toArray, List.map_cons, List.map_nil]); first | done | (simp only [hji9]; rfl) | rfl | (simp only [List.length_drop, List.length_take]; rfl)) ?_
                       with_reducible refine (down_Depth.calls k5 t205 _ _ t206 x12_5 ji9 t210 _ ?side1 ?side2 A74.out).mono ?_
                       (case side1 => repeat (first | exact (Kd.R_reads' HO_9H.out).2.2 | (with_reducible refine Kd.C_alloc ?_ _) | (with_reducible refine Kd.C_drewN ?_ _) | (with_reducible refine Kd.C_drew ?_)))
                       (case side2 => exact (Kd.R_reads' HO_9H.out).2.1)
                       rintro e w82 ⟨rfl, hb⟩
                       refine ⟨_, rfl, ?_⟩
                       have n0_ := Aside0.mk (Kd.R_below (by (with_reducible repeat (first | apply Kd.R_alloc | apply Kd.R_drewN | apply Kd.R_drew)); exact HO_4.out) hb)
                       have n1_ := Aside0.mk (Kd.R_below (by (with_reducible repeat (first | apply Kd.R_alloc | apply Kd.R_drewN | apply Kd.R_drew)); exact HO_9B.out) hb)
                       have n2_ := Aside0.mk (Kd.R_below (by (with_reducible repeat (first | apply Kd.R_alloc | apply Kd.R_drewN | apply Kd.R_drew)); exact HO_9H.out) hb)
                       have n3_ := Aside0.mk (blk_below (g := gb192) (o := .cells #[.int .i64 x9A_2, .slice Ao65 x9B_2.length co65] 25 (0, 0)) (by (with_reducible repeat (first | refine blk_drewN ?_ _ | refine blk_drew ?_ | refine blk_alloc ?_ _)); exact BK192.out) hb)
                       have n4_ := Aside0.mk (blk_below (g := gb198) (o := .cells #[.int .i64 ((rd_T40 l0 x7_2).f0), .int .i64 ((rd_T40 l0 x7_2).f1.f0), .int .i64 ((rd_T40 l0 x7_2).f1.f1), .int .i64 ((rd_T40 l0 x7_2).f1.f2), .int .i64 ((rd_T40 l0 x7_2).f1.f3), .bool ((rd_T40 l0 x7_2).f1.f4), .int .i64 ((rd_T40 l0 x7_2).f1.f5), .int .i64 ((rd_T40 l0 x7_2).f1.f6), .int .i64 ((rd_T40 l0 x7_2).f1.f7), .int .i64 ((rd_T40 l0 x7_2).f2)] 40 (0, 0)) (by (with_reducible repeat (first | refine blk_drewN ?_ _ | refine blk_drew ?_ | refine blk_alloc ?_ _)); exact BK198.out) hb)
                       have n5_ := Aside0.mk (blk_below (g := gb203) (o := .cells #[.int .i64 x9C_4, .int .i64 x9D_4, .int .i64 x9E_4, .int .i64 x9F_4] 41 (0, 0)) (by (with_reducible repeat (first | refine blk_drewN ?_ _ | refine blk_drew ?_ | refine blk_alloc ?_ _)); exact BK203.out) hb)
                       have n6_ := Aside0.mk (blk_below (g := gb209) (o := .cells #[.int .i64 t205, .slice Ao72 t206.length co72] 25 (0, 0)) (by (with_reducible repeat (first | refine blk_drewN ?_ _ | refine blk_drew ?_ | refine blk_alloc ?_ _)); exact BK209.out) hb)
                       have n7_ := Aside0.mk (below_step (by repeat (first | (with_reducible first | exact HB.out | apply below_alloc | apply pw_below_drewN | apply below_drew1 | refine below_set ?_ GE192.out | refine below_set ?_ GE198.out | refine below_set ?_ GE203.out | refine below_set ?_ GE209.out) | exact HB.out)) hb)
                       clear HO_4
                       clear HO_9B
                       clear HO_9H
                       clear BK192
                       clear BK198
                       clear BK203
                       clear BK209
                       clear HB
                       have HO_4 := n0_
                       have HO_9B := n1_
                       have HO_9H := n2_
                       have BK192 := n3_
                       have BK198 := n4_
                       have BK203 := n5_
                       have BK209 := n6_
                       have HB := n7_
                       clear n0_ n1_ n2_ n3_ n4_ n5_ n6_ n7_
                       (try clear hb)
                       (try clear hb2)
                       (try clear hk)
                       (try clear hi)
                       refine hK.out _ _ ⟨(blk_cell BK209.out 0).trans rfl, (blk_cell BK209.out 1).trans rfl, (blk_cell BK203.out 0).trans rfl, (blk_cell BK203.out 1).trans rfl, (blk_cell BK203.out 2).trans rfl, (blk_cell BK203.out 3).trans rfl⟩ (fun hHeld => ?_)
                       clear hK K
                       refine norm_ (a' := ?_) ?_ ?_
                       rotate_left
                       ·show Act.put _ (some 91) _ = _
                        simp only [Act.put, List.setIfInBounds_toArray, List.set_cons_zero, List.set_cons_succ, i64_w, i32_w]
                        rfl
                       refine pure_ (i := 7) (N := some 95) (v := ?_) (a' := ?_) #[true, true, true, true, true, true, true, true] rfl rfl (any_of HT_.out (by kernel_rfl)) (fun _ _ _ h => h) (Or.inl ⟨by rfl, ?_⟩) ?_ ?_
                       rotate_left
                       ·intro w'
                        go_simp
                        with_reducible rfl
                       rotate_left
                       ·simp only [Act.put, List.setIfInBounds_toArray, List.set_cons_zero, List.set_cons_succ, i64_w, i32_w]
                        rfl
                       refine done_ (done_of HT_.out (by kernel_rfl)) ?_
                       try go_wp2
                       go_roundg k5
                       case measure => have := HK1.out; have := HK2.out; have := HJ13.out; have := HK4.out; have := HK5.out; omega
                       case rel => exact ⟨(wrap64 (x12_5 + 1)), (by first | rfl | (simp; done) | (simp [*]; done) | (simp; unfold wrap64; omega)), H', ⟨by have := HK1.out; have := HK2.out; have := HJ13.out; have := HK4.out; have := HK5.out; omega⟩, ⟨by (with_reducible repeat (first | apply Kd.R_alloc | apply Kd.R_drewN | apply Kd.R_drew)); exact HO_4.out⟩, ⟨by (with_reducible repeat (first | apply Kd.R_alloc | apply Kd.R_drewN | apply Kd.R_drew)); exact HO_9B.out⟩, ⟨by (with_reducible repeat (first | apply Kd.R_alloc | apply Kd.R_drewN | apply Kd.R_drew)); exact HO_9H.out⟩, ⟨by (with_reducible repeat (first | refine blk_drewN ?_ _ | refine blk_drew ?_ | refine blk_alloc ?_ _)); exact BK192.out⟩, ⟨by (with_reducible repeat (first | refine blk_drewN ?_ _ | refine blk_drew ?_ | refine blk_alloc ?_ _)); exact BK198.out⟩, ⟨by (with_reducible repeat (first | refine blk_drewN ?_ _ | refine blk_drew ?_ | refine blk_alloc ?_ _)); exact BK203.out⟩, ⟨by (with_reducible repeat (first | refine blk_drewN ?_ _ | refine blk_drew ?_ | refine blk_alloc ?_ _)); exact BK209.out⟩, ⟨by repeat (first | (with_reducible first | exact HB.out | apply below_alloc | apply pw_below_drewN | apply below_drew1 | refine below_set ?_ GE192.out | refine below_set ?_ GE198.out | refine below_set ?_ GE203.out | refine below_set ?_ GE209.out) | exact HB.out)⟩⟩
                     ·rw [if_neg c79] at H
                      have c79b0 : (x12_5 == (1 : Int)) = false := beq_eq_false_iff_ne.mpr c79
                      have c79b1 : (x12_5 != (1 : Int)) = true := bne_iff_ne.mpr c79
                      by_cases c83 : x12_5 = (2 : Int)
                      ·rw [if_pos c83] at H
                       have c83b0 : (x12_5 == (2 : Int)) = true := beq_iff_eq.mpr c83
                       have c83b1 : (x12_5 != (2 : Int)) = false := bne_eq_false_iff_eq.mpr c83
                       have c83b2 : 0 ≤ x12_5 := by omega
                       have c83b3 : x12_5 < 3 := by omega
                       have c83b4 : x12_5 < 4 := by omega
                       have c83b5 : (x12_5 : Int).toNat = 2 := by omega
                       clear c83
                       by_cases c84 : t210 < x9E_4
                       ·rw [if_pos c84] at H
                        exact absurd H (by simp)
                       ·rw [if_neg c84] at H
                        have c84b0 : decide (t210 < x9E_4) = false := decide_eq_false c84
                        clear c84
                        have H' := Aside0.mk H
                        clear H
                        try go_wp2
                        have n0_ := Aside0.mk (Kd.R_drew HO_4.out)
                        have n1_ := Aside0.mk (Kd.R_drew HO_9B.out)
                        have n2_ := Aside0.mk (Kd.R_drew HO_9H.out)
                        have n3_ := Aside0.mk (blk_drew BK192.out)
                        have n4_ := Aside0.mk (blk_drew BK198.out)
                        have n5_ := Aside0.mk (blk_drew BK203.out)
                        have n6_ := Aside0.mk (blk_drew BK209.out)
                        have n7_ := Aside0.mk (below_drew1 HB.out)
                        clear HO_4
                        clear HO_9B
                        clear HO_9H
                        clear BK192
                        clear BK198
                        clear BK203
                        clear BK209
                        clear HB
                        have HO_4 := n0_
                        have HO_9B := n1_
                        have HO_9H := n2_
                        have BK192 := n3_
                        have BK198 := n4_
                        have BK203 := n5_
                        have BK209 := n6_
                        have HB := n7_
                        clear n0_ n1_ n2_ n3_ n4_ n5_ n6_ n7_
                        refine start_ (n := 8) (S := fun w' => w'.cell? ⟨gb209, 0, none⟩ = some (.int .i64 t205) ∧ w'.cell? ⟨gb209, 1, none⟩ = some (.slice Ao72 t206.length co72) ∧ w'.cell? ⟨gb203, 0, none⟩ = some (.int .i64 x9C_4) ∧ w'.cell? ⟨gb203, 1, none⟩ = some (.int .i64 x9D_4) ∧ w'.cell? ⟨gb203, 2, none⟩ = some (.int .i64 x9E_4) ∧ w'.cell? ⟨gb203, 3, none⟩ = some (.int .i64 x9F_4)) (ds := []) #[false, false, false, false, false, false, false, false] (by kernel_rfl) rfl rfl ⟨(blk_cell BK209.out 0).trans rfl, (blk_cell BK209.out 1).trans rfl, (blk_cell BK203.out 0).trans rfl, (blk_cell BK203.out 1).trans rfl, (blk_cell BK203.out 2).trans rfl, (blk_cell BK203.out 3).trans rfl⟩ (fun hHeld => ?_); refine with_tabW lawDO.tab30 lawDO.bits30 (fun HT_ HW_ => ?_)
                        generalize wr.drew = w85 at HO_4 HO_9B HO_9H BK192 BK198 BK203 BK209 HB hHeld ⊢
                        refine pure_ (i := 1) (N := some 89) (v := ?_) (a' := ?_) #[false, true, false, false, false, false, false, false] rfl rfl (any_of HT_.out (by kernel_rfl)) (fun _ _ _ h => h) (Or.inl ⟨by rfl, ?_⟩) ?_ ?_
                        rotate_left
                        ·intro w'
                         go_simp
                         with_reducible rfl
                        rotate_left
                        ·simp only [Act.put, List.setIfInBounds_toArray, List.set_cons_zero, List.set_cons_succ, i64_w, i32_w]
                         rfl
                        refine pure_ (i := 2) (N := some 90) (v := ?_) (a' := ?_) #[false, true, true, false, false, false, false, false] rfl rfl (any_of HT_.out (by kernel_rfl)) (fun _ _ _ h => h) (Or.inl ⟨by rfl, ?_⟩) ?_ ?_
                        rotate_left
                        ·intro w'
                         go_simp
                         with_reducible rfl
                        rotate_left
                        ·simp only [Act.put, List.setIfInBounds_toArray, List.set_cons_zero, List.set_cons_succ, i64_w, i32_w]
                         rfl
                        refine pure_ (i := 4) (N := some 92) (v := ?_) (a' := ?_) #[false, true, true, false, true, false, false, false] rfl rfl (any_of HT_.out (by kernel_rfl)) (fun _ _ _ h => h) (Or.inl ⟨by rfl, ?_⟩) ?_ ?_
                        rotate_left
                        ·intro w'
                         go_simp
                         with_reducible rfl
                        rotate_left
                        ·simp only [Act.put, List.setIfInBounds_toArray, List.set_cons_zero, List.set_cons_succ, i64_w, i32_w]
                         rfl
                        refine pure_ (i := 5) (N := some 93) (v := ?_) (a' := ?_) #[false, true, true, false, true, true, false, false] rfl rfl (any_of HT_.out (by kernel_rfl)) (fun _ _ _ h => h) (Or.inl ⟨by rfl, ?_⟩) ?_ ?_
                        rotate_left
                        ·intro w'
                         go_simp
                         with_reducible rfl
                        rotate_left
                        ·simp only [Act.put, List.setIfInBounds_toArray, List.set_cons_zero, List.set_cons_succ, i64_w, i32_w]
                         rfl
                        refine take_ (i := 0) (N := some 88) (v := ?_) (a' := ?_) #[true, true, true, false, true, true, false, false] rfl rfl (take_ofW HT_.out HW_.out (by kernel_rfl)) (fun _ _ _ h => h) (Or.inl ⟨by rfl, ?_⟩) hHeld ?_ ?_
                        rotate_left
                        ·rintro w' ⟨s0, s1, s2, s3, s4, s5⟩
                         go_simp
                         with_reducible rfl
                        rotate_left
                        ·simp only [Act.put, List.setIfInBounds_toArray, List.set_cons_zero, List.set_cons_succ, i64_w, i32_w]
                         rfl
                        refine take_ (i := 6) (N := some 94) (v := ?_) (a' := ?_) #[true, true, true, false, true, true, true, false] rfl rfl (take_ofW HT_.out HW_.out (by kernel_rfl)) (fun _ _ _ h => h) (Or.inl ⟨by rfl, ?_⟩) hHeld ?_ ?_
                        rotate_left
                        ·rintro w' ⟨s0, s1, s2, s3, s4, s5⟩
                         go_simp
                         with_reducible rfl
                        rotate_left
                        ·simp only [Act.put, List.setIfInBounds_toArray, List.set_cons_zero, List.set_cons_succ, i64_w, i32_w]
                         rfl
                        refine one_ (i := 3) (N := some 91) #[true, true, true, true, true, true, true, false] rfl rfl (one_of HT_.out (by kernel_rfl)) (by decide) (fun K hK => ?_)
                        refine goes_ Try.func7 (by kernel_rfl) rfl #[.agg #[.int .i64 t205, .slice Ao72 t206.length co72], .int .i64 x12_5, .int .i64 ji9] (by rfl) rfl rfl (by (try simp only [List.map_toArray, List.map_cons, List.map_nil]); first | done | (simp only [hji9]; rfl) | rfl | (simp only [List.length_drop, List.length_take]; rfl)) ?_
                        with_reducible refine (down_Depth.calls k5 t205 _ _ t206 x12_5 ji9 t210 _ ?side1 ?side2 A74.out).mono ?_
                        (case side1 => repeat (first | exact (Kd.R_reads' HO_9H.out).2.2 | (with_reducible refine Kd.C_alloc ?_ _) | (with_reducible refine Kd.C_drewN ?_ _) | (with_reducible refine Kd.C_drew ?_)))
                        (case side2 => exact (Kd.R_reads' HO_9H.out).2.1)
                        rintro e w86 ⟨rfl, hb⟩
                        refine ⟨_, rfl, ?_⟩
                        have n0_ := Aside0.mk (Kd.R_below (by (with_reducible repeat (first | apply Kd.R_alloc | apply Kd.R_drewN | apply Kd.R_drew)); exact HO_4.out) hb)
                        have n1_ := Aside0.mk (Kd.R_below (by (with_reducible repeat (first | apply Kd.R_alloc | apply Kd.R_drewN | apply Kd.R_drew)); exact HO_9B.out) hb)
                        have n2_ := Aside0.mk (Kd.R_below (by (with_reducible repeat (first | apply Kd.R_alloc | apply Kd.R_drewN | apply Kd.R_drew)); exact HO_9H.out) hb)
                        have n3_ := Aside0.mk (blk_below (g := gb192) (o := .cells #[.int .i64 x9A_2, .slice Ao65 x9B_2.length co65] 25 (0, 0)) (by (with_reducible repeat (first | refine blk_drewN ?_ _ | refine blk_drew ?_ | refine blk_alloc ?_ _)); exact BK192.out) hb)
                        have n4_ := Aside0.mk (blk_below (g := gb198) (o := .cells #[.int .i64 ((rd_T40 l0 x7_2).f0), .int .i64 ((rd_T40 l0 x7_2).f1.f0), .int .i64 ((rd_T40 l0 x7_2).f1.f1), .int .i64 ((rd_T40 l0 x7_2).f1.f2), .int .i64 ((rd_T40 l0 x7_2).f1.f3), .bool ((rd_T40 l0 x7_2).f1.f4), .int .i64 ((rd_T40 l0 x7_2).f1.f5), .int .i64 ((rd_T40 l0 x7_2).f1.f6), .int .i64 ((rd_T40 l0 x7_2).f1.f7), .int .i64 ((rd_T40 l0 x7_2).f2)] 40 (0, 0)) (by (with_reducible repeat (first | refine blk_drewN ?_ _ | refine blk_drew ?_ | refine blk_alloc ?_ _)); exact BK198.out) hb)
                        have n5_ := Aside0.mk (blk_below (g := gb203) (o := .cells #[.int .i64 x9C_4, .int .i64 x9D_4, .int .i64 x9E_4, .int .i64 x9F_4] 41 (0, 0)) (by (with_reducible repeat (first | refine blk_drewN ?_ _ | refine blk_drew ?_ | refine blk_alloc ?_ _)); exact BK203.out) hb)
                        have n6_ := Aside0.mk (blk_below (g := gb209) (o := .cells #[.int .i64 t205, .slice Ao72 t206.length co72] 25 (0, 0)) (by (with_reducible repeat (first | refine blk_drewN ?_ _ | refine blk_drew ?_ | refine blk_alloc ?_ _)); exact BK209.out) hb)
                        have n7_ := Aside0.mk (below_step (by repeat (first | (with_reducible first | exact HB.out | apply below_alloc | apply pw_below_drewN | apply below_drew1 | refine below_set ?_ GE192.out | refine below_set ?_ GE198.out | refine below_set ?_ GE203.out | refine below_set ?_ GE209.out) | exact HB.out)) hb)
                        clear HO_4
                        clear HO_9B
                        clear HO_9H
                        clear BK192
                        clear BK198
                        clear BK203
                        clear BK209
                        clear HB
                        have HO_4 := n0_
                        have HO_9B := n1_
                        have HO_9H := n2_
                        have BK192 := n3_
                        have BK198 := n4_
                        have BK203 := n5_
                        have BK209 := n6_
                        have HB := n7_
                        clear n0_ n1_ n2_ n3_ n4_ n5_ n6_ n7_
                        (try clear hb)
                        (try clear hb2)
                        (try clear hk)
                        (try clear hi)
                        refine hK.out _ _ ⟨(blk_cell BK209.out 0).trans rfl, (blk_cell BK209.out 1).trans rfl, (blk_cell BK203.out 0).trans rfl, (blk_cell BK203.out 1).trans rfl, (blk_cell BK203.out 2).trans rfl, (blk_cell BK203.out 3).trans rfl⟩ (fun hHeld => ?_)
                        clear hK K
                        refine norm_ (a' := ?_) ?_ ?_
                        rotate_left
                        ·show Act.put _ (some 91) _ = _
                         simp only [Act.put, List.setIfInBounds_toArray, List.set_cons_zero, List.set_cons_succ, i64_w, i32_w]
                         rfl
                        refine pure_ (i := 7) (N := some 95) (v := ?_) (a' := ?_) #[true, true, true, true, true, true, true, true] rfl rfl (any_of HT_.out (by kernel_rfl)) (fun _ _ _ h => h) (Or.inl ⟨by rfl, ?_⟩) ?_ ?_
                        rotate_left
                        ·intro w'
                         go_simp
                         with_reducible rfl
                        rotate_left
                        ·simp only [Act.put, List.setIfInBounds_toArray, List.set_cons_zero, List.set_cons_succ, i64_w, i32_w]
                         rfl
                        refine done_ (done_of HT_.out (by kernel_rfl)) ?_
                        try go_wp2
                        go_roundg k5
                        case measure => have := HK1.out; have := HK2.out; have := HJ13.out; have := HK4.out; have := HK5.out; omega
                        case rel => exact ⟨(wrap64 (x12_5 + 1)), (by first | rfl | (simp; done) | (simp [*]; done) | (simp; unfold wrap64; omega)), H', ⟨by have := HK1.out; have := HK2.out; have := HJ13.out; have := HK4.out; have := HK5.out; omega⟩, ⟨by (with_reducible repeat (first | apply Kd.R_alloc | apply Kd.R_drewN | apply Kd.R_drew)); exact HO_4.out⟩, ⟨by (with_reducible repeat (first | apply Kd.R_alloc | apply Kd.R_drewN | apply Kd.R_drew)); exact HO_9B.out⟩, ⟨by (with_reducible repeat (first | apply Kd.R_alloc | apply Kd.R_drewN | apply Kd.R_drew)); exact HO_9H.out⟩, ⟨by (with_reducible repeat (first | refine blk_drewN ?_ _ | refine blk_drew ?_ | refine blk_alloc ?_ _)); exact BK192.out⟩, ⟨by (with_reducible repeat (first | refine blk_drewN ?_ _ | refine blk_drew ?_ | refine blk_alloc ?_ _)); exact BK198.out⟩, ⟨by (with_reducible repeat (first | refine blk_drewN ?_ _ | refine blk_drew ?_ | refine blk_alloc ?_ _)); exact BK203.out⟩, ⟨by (with_reducible repeat (first | refine blk_drewN ?_ _ | refine blk_drew ?_ | refine blk_alloc ?_ _)); exact BK209.out⟩, ⟨by repeat (first | (with_reducible first | exact HB.out | apply below_alloc | apply pw_below_drewN | apply below_drew1 | refine below_set ?_ GE192.out | refine below_set ?_ GE198.out | refine below_set ?_ GE203.out | refine below_set ?_ GE209.out) | exact HB.out)⟩⟩
                      ·rw [if_neg c83] at H
                       have c83b0 : (x12_5 == (2 : Int)) = false := beq_eq_false_iff_ne.mpr c83
                       have c83b1 : (x12_5 != (2 : Int)) = true := bne_iff_ne.mpr c83
                       by_cases c87 : x12_5 = (3 : Int)
                       ·rw [if_pos c87] at H
                        have c87b0 : (x12_5 == (3 : Int)) = true := beq_iff_eq.mpr c87
                        have c87b1 : (x12_5 != (3 : Int)) = false := bne_eq_false_iff_eq.mpr c87
                        have c87b2 : 0 ≤ x12_5 := by omega
                        have c87b3 : x12_5 < 4 := by omega
                        have c87b4 : (x12_5 : Int).toNat = 3 := by omega
                        clear c87
                        by_cases c88 : t210 < x9F_4
                        ·rw [if_pos c88] at H
                         exact absurd H (by simp)
                        ·rw [if_neg c88] at H
                         have c88b0 : decide (t210 < x9F_4) = false := decide_eq_false c88
                         clear c88
                         have H' := Aside0.mk H
                         clear H
                         try go_wp2
                         have n0_ := Aside0.mk (Kd.R_drew HO_4.out)
                         have n1_ := Aside0.mk (Kd.R_drew HO_9B.out)
                         have n2_ := Aside0.mk (Kd.R_drew HO_9H.out)
                         have n3_ := Aside0.mk (blk_drew BK192.out)
                         have n4_ := Aside0.mk (blk_drew BK198.out)
                         have n5_ := Aside0.mk (blk_drew BK203.out)
                         have n6_ := Aside0.mk (blk_drew BK209.out)
                         have n7_ := Aside0.mk (below_drew1 HB.out)
                         clear HO_4
                         clear HO_9B
                         clear HO_9H
                         clear BK192
                         clear BK198
                         clear BK203
                         clear BK209
                         clear HB
                         have HO_4 := n0_
                         have HO_9B := n1_
                         have HO_9H := n2_
                         have BK192 := n3_
                         have BK198 := n4_
                         have BK203 := n5_
                         have BK209 := n6_
                         have HB := n7_
                         clear n0_ n1_ n2_ n3_ n4_ n5_ n6_ n7_
                         refine start_ (n := 8) (S := fun w' => w'.cell? ⟨gb209, 0, none⟩ = some (.int .i64 t205) ∧ w'.cell? ⟨gb209, 1, none⟩ = some (.slice Ao72 t206.length co72) ∧ w'.cell? ⟨gb203, 0, none⟩ = some (.int .i64 x9C_4) ∧ w'.cell? ⟨gb203, 1, none⟩ = some (.int .i64 x9D_4) ∧ w'.cell? ⟨gb203, 2, none⟩ = some (.int .i64 x9E_4) ∧ w'.cell? ⟨gb203, 3, none⟩ = some (.int .i64 x9F_4)) (ds := []) #[false, false, false, false, false, false, false, false] (by kernel_rfl) rfl rfl ⟨(blk_cell BK209.out 0).trans rfl, (blk_cell BK209.out 1).trans rfl, (blk_cell BK203.out 0).trans rfl, (blk_cell BK203.out 1).trans rfl, (blk_cell BK203.out 2).trans rfl, (blk_cell BK203.out 3).trans rfl⟩ (fun hHeld => ?_); refine with_tabW lawDO.tab30 lawDO.bits30 (fun HT_ HW_ => ?_)
                         generalize wr.drew = w89 at HO_4 HO_9B HO_9H BK192 BK198 BK203 BK209 HB hHeld ⊢
                         refine pure_ (i := 1) (N := some 89) (v := ?_) (a' := ?_) #[false, true, false, false, false, false, false, false] rfl rfl (any_of HT_.out (by kernel_rfl)) (fun _ _ _ h => h) (Or.inl ⟨by rfl, ?_⟩) ?_ ?_
                         rotate_left
                         ·intro w'
                          go_simp
                          with_reducible rfl
                         rotate_left
                         ·simp only [Act.put, List.setIfInBounds_toArray, List.set_cons_zero, List.set_cons_succ, i64_w, i32_w]
                          rfl
                         refine pure_ (i := 2) (N := some 90) (v := ?_) (a' := ?_) #[false, true, true, false, false, false, false, false] rfl rfl (any_of HT_.out (by kernel_rfl)) (fun _ _ _ h => h) (Or.inl ⟨by rfl, ?_⟩) ?_ ?_
                         rotate_left
                         ·intro w'
                          go_simp
                          with_reducible rfl
                         rotate_left
                         ·simp only [Act.put, List.setIfInBounds_toArray, List.set_cons_zero, List.set_cons_succ, i64_w, i32_w]
                          rfl
                         refine pure_ (i := 4) (N := some 92) (v := ?_) (a' := ?_) #[false, true, true, false, true, false, false, false] rfl rfl (any_of HT_.out (by kernel_rfl)) (fun _ _ _ h => h) (Or.inl ⟨by rfl, ?_⟩) ?_ ?_
                         rotate_left
                         ·intro w'
                          go_simp
                          with_reducible rfl
                         rotate_left
                         ·simp only [Act.put, List.setIfInBounds_toArray, List.set_cons_zero, List.set_cons_succ, i64_w, i32_w]
                          rfl
                         refine pure_ (i := 5) (N := some 93) (v := ?_) (a' := ?_) #[false, true, true, false, true, true, false, false] rfl rfl (any_of HT_.out (by kernel_rfl)) (fun _ _ _ h => h) (Or.inl ⟨by rfl, ?_⟩) ?_ ?_
                         rotate_left
                         ·intro w'
                          go_simp
                          with_reducible rfl
                         rotate_left
                         ·simp only [Act.put, List.setIfInBounds_toArray, List.set_cons_zero, List.set_cons_succ, i64_w, i32_w]
                          rfl
                         refine take_ (i := 0) (N := some 88) (v := ?_) (a' := ?_) #[true, true, true, false, true, true, false, false] rfl rfl (take_ofW HT_.out HW_.out (by kernel_rfl)) (fun _ _ _ h => h) (Or.inl ⟨by rfl, ?_⟩) hHeld ?_ ?_
                         rotate_left
                         ·rintro w' ⟨s0, s1, s2, s3, s4, s5⟩
                          go_simp
                          with_reducible rfl
                         rotate_left
                         ·simp only [Act.put, List.setIfInBounds_toArray, List.set_cons_zero, List.set_cons_succ, i64_w, i32_w]
                          rfl
                         refine take_ (i := 6) (N := some 94) (v := ?_) (a' := ?_) #[true, true, true, false, true, true, true, false] rfl rfl (take_ofW HT_.out HW_.out (by kernel_rfl)) (fun _ _ _ h => h) (Or.inl ⟨by rfl, ?_⟩) hHeld ?_ ?_
                         rotate_left
                         ·rintro w' ⟨s0, s1, s2, s3, s4, s5⟩
                          go_simp
                          with_reducible rfl
                         rotate_left
                         ·simp only [Act.put, List.setIfInBounds_toArray, List.set_cons_zero, List.set_cons_succ, i64_w, i32_w]
                          rfl
                         refine one_ (i := 3) (N := some 91) #[true, true, true, true, true, true, true, false] rfl rfl (one_of HT_.out (by kernel_rfl)) (by decide) (fun K hK => ?_)
                         refine goes_ Try.func7 (by kernel_rfl) rfl #[.agg #[.int .i64 t205, .slice Ao72 t206.length co72], .int .i64 x12_5, .int .i64 ji9] (by rfl) rfl rfl (by (try simp only [List.map_toArray, List.map_cons, List.map_nil]); first | done | (simp only [hji9]; rfl) | rfl | (simp only [List.length_drop, List.length_take]; rfl)) ?_
                         with_reducible refine (down_Depth.calls k5 t205 _ _ t206 x12_5 ji9 t210 _ ?side1 ?side2 A74.out).mono ?_
                         (case side1 => repeat (first | exact (Kd.R_reads' HO_9H.out).2.2 | (with_reducible refine Kd.C_alloc ?_ _) | (with_reducible refine Kd.C_drewN ?_ _) | (with_reducible refine Kd.C_drew ?_)))
                         (case side2 => exact (Kd.R_reads' HO_9H.out).2.1)
                         rintro e w90 ⟨rfl, hb⟩
                         refine ⟨_, rfl, ?_⟩
                         have n0_ := Aside0.mk (Kd.R_below (by (with_reducible repeat (first | apply Kd.R_alloc | apply Kd.R_drewN | apply Kd.R_drew)); exact HO_4.out) hb)
                         have n1_ := Aside0.mk (Kd.R_below (by (with_reducible repeat (first | apply Kd.R_alloc | apply Kd.R_drewN | apply Kd.R_drew)); exact HO_9B.out) hb)
                         have n2_ := Aside0.mk (Kd.R_below (by (with_reducible repeat (first | apply Kd.R_alloc | apply Kd.R_drewN | apply Kd.R_drew)); exact HO_9H.out) hb)
                         have n3_ := Aside0.mk (blk_below (g := gb192) (o := .cells #[.int .i64 x9A_2, .slice Ao65 x9B_2.length co65] 25 (0, 0)) (by (with_reducible repeat (first | refine blk_drewN ?_ _ | refine blk_drew ?_ | refine blk_alloc ?_ _)); exact BK192.out) hb)
                         have n4_ := Aside0.mk (blk_below (g := gb198) (o := .cells #[.int .i64 ((rd_T40 l0 x7_2).f0), .int .i64 ((rd_T40 l0 x7_2).f1.f0), .int .i64 ((rd_T40 l0 x7_2).f1.f1), .int .i64 ((rd_T40 l0 x7_2).f1.f2), .int .i64 ((rd_T40 l0 x7_2).f1.f3), .bool ((rd_T40 l0 x7_2).f1.f4), .int .i64 ((rd_T40 l0 x7_2).f1.f5), .int .i64 ((rd_T40 l0 x7_2).f1.f6), .int .i64 ((rd_T40 l0 x7_2).f1.f7), .int .i64 ((rd_T40 l0 x7_2).f2)] 40 (0, 0)) (by (with_reducible repeat (first | refine blk_drewN ?_ _ | refine blk_drew ?_ | refine blk_alloc ?_ _)); exact BK198.out) hb)
                         have n5_ := Aside0.mk (blk_below (g := gb203) (o := .cells #[.int .i64 x9C_4, .int .i64 x9D_4, .int .i64 x9E_4, .int .i64 x9F_4] 41 (0, 0)) (by (with_reducible repeat (first | refine blk_drewN ?_ _ | refine blk_drew ?_ | refine blk_alloc ?_ _)); exact BK203.out) hb)
                         have n6_ := Aside0.mk (blk_below (g := gb209) (o := .cells #[.int .i64 t205, .slice Ao72 t206.length co72] 25 (0, 0)) (by (with_reducible repeat (first | refine blk_drewN ?_ _ | refine blk_drew ?_ | refine blk_alloc ?_ _)); exact BK209.out) hb)
                         have n7_ := Aside0.mk (below_step (by repeat (first | (with_reducible first | exact HB.out | apply below_alloc | apply pw_below_drewN | apply below_drew1 | refine below_set ?_ GE192.out | refine below_set ?_ GE198.out | refine below_set ?_ GE203.out | refine below_set ?_ GE209.out) | exact HB.out)) hb)
                         clear HO_4
                         clear HO_9B
                         clear HO_9H
                         clear BK192
                         clear BK198
                         clear BK203
                         clear BK209
                         clear HB
                         have HO_4 := n0_
                         have HO_9B := n1_
                         have HO_9H := n2_
                         have BK192 := n3_
                         have BK198 := n4_
                         have BK203 := n5_
                         have BK209 := n6_
                         have HB := n7_
                         clear n0_ n1_ n2_ n3_ n4_ n5_ n6_ n7_
                         (try clear hb)
                         (try clear hb2)
                         (try clear hk)
                         (try clear hi)
                         refine hK.out _ _ ⟨(blk_cell BK209.out 0).trans rfl, (blk_cell BK209.out 1).trans rfl, (blk_cell BK203.out 0).trans rfl, (blk_cell BK203.out 1).trans rfl, (blk_cell BK203.out 2).trans rfl, (blk_cell BK203.out 3).trans rfl⟩ (fun hHeld => ?_)
                         clear hK K
                         refine norm_ (a' := ?_) ?_ ?_
                         rotate_left
                         ·show Act.put _ (some 91) _ = _
                          simp only [Act.put, List.setIfInBounds_toArray, List.set_cons_zero, List.set_cons_succ, i64_w, i32_w]
                          rfl
                         refine pure_ (i := 7) (N := some 95) (v := ?_) (a' := ?_) #[true, true, true, true, true, true, true, true] rfl rfl (any_of HT_.out (by kernel_rfl)) (fun _ _ _ h => h) (Or.inl ⟨by rfl, ?_⟩) ?_ ?_
                         rotate_left
                         ·intro w'
                          go_simp
                          with_reducible rfl
                         rotate_left
                         ·simp only [Act.put, List.setIfInBounds_toArray, List.set_cons_zero, List.set_cons_succ, i64_w, i32_w]
                          rfl
                         refine done_ (done_of HT_.out (by kernel_rfl)) ?_
                         try go_wp2
                         go_roundg k5
                         case measure => have := HK1.out; have := HK2.out; have := HJ13.out; have := HK4.out; have := HK5.out; omega
                         case rel => exact ⟨(wrap64 (x12_5 + 1)), (by first | rfl | (simp; done) | (simp [*]; done) | (simp; unfold wrap64; omega)), H', ⟨by have := HK1.out; have := HK2.out; have := HJ13.out; have := HK4.out; have := HK5.out; omega⟩, ⟨by (with_reducible repeat (first | apply Kd.R_alloc | apply Kd.R_drewN | apply Kd.R_drew)); exact HO_4.out⟩, ⟨by (with_reducible repeat (first | apply Kd.R_alloc | apply Kd.R_drewN | apply Kd.R_drew)); exact HO_9B.out⟩, ⟨by (with_reducible repeat (first | apply Kd.R_alloc | apply Kd.R_drewN | apply Kd.R_drew)); exact HO_9H.out⟩, ⟨by (with_reducible repeat (first | refine blk_drewN ?_ _ | refine blk_drew ?_ | refine blk_alloc ?_ _)); exact BK192.out⟩, ⟨by (with_reducible repeat (first | refine blk_drewN ?_ _ | refine blk_drew ?_ | refine blk_alloc ?_ _)); exact BK198.out⟩, ⟨by (with_reducible repeat (first | refine blk_drewN ?_ _ | refine blk_drew ?_ | refine blk_alloc ?_ _)); exact BK203.out⟩, ⟨by (with_reducible repeat (first | refine blk_drewN ?_ _ | refine blk_drew ?_ | refine blk_alloc ?_ _)); exact BK209.out⟩, ⟨by repeat (first | (with_reducible first | exact HB.out | apply below_alloc | apply pw_below_drewN | apply below_drew1 | refine below_set ?_ GE192.out | refine below_set ?_ GE198.out | refine below_set ?_ GE203.out | refine below_set ?_ GE209.out) | exact HB.out)⟩⟩
                       ·rw [if_neg c87] at H
                        exact absurd H (by simp)
                   ·rw [if_neg c73] at H
                    have c73b0 : decide (x12_5 < 4) = false := decide_eq_false c73
                    clear c73
                    replace H := Option.bind_eq_some_iff.mp H
                    obtain ⟨⟨t211, t212⟩, A910, H⟩ := H
                    replace H : (if (t212.length : Int) = (t206.length : Int) then (lawDO.j5 k5 l0 x4_2 ji9 x7_2 t205 t206) else (none)) = some r := H
                    have A91 := Aside0.mk A910
                    clear A910
                    by_cases c92 : (t212.length : Int) = (t206.length : Int)
                    ·rw [if_pos c92] at H
                     have c92b0 : ((t212.length : Int) == (t206.length : Int)) = true := beq_iff_eq.mpr c92
                     have c92b1 : ((t212.length : Int) != (t206.length : Int)) = false := bne_eq_false_iff_eq.mpr c92
                     have c92b2 : (t212.length == t206.length) = true := by first | simpa using c92 | (simp at c92 ⊢; omega)
                     clear c92
                     have H' := Aside0.mk H
                     clear H
                     have hnb93 := NB209_192.out
                     have hnc93 := NB192_209.out
                     have hnb94 := NB209_198.out
                     have hnc94 := NB198_209.out
                     have hnb95 := NB209_203.out
                     have hnc95 := NB203_209.out
                     have hcz96_0 : wr.cell? ⟨gb209, 0, none⟩ = some (.int .i64 t205) := (blk_cell BK209.out 0).trans rfl
                     have hcz96_1 : wr.cell? ⟨gb209, 1, none⟩ = some (.slice Ao72 t206.length co72) := (blk_cell BK209.out 1).trans rfl
                     have hfz96_0 := blk_frozen BK209.out 0
                     have hfz96_1 := blk_frozen BK209.out 1
                     have hnb97 := NB192_198.out
                     have hnc97 := NB198_192.out
                     have hnb98 := NB192_203.out
                     have hnc98 := NB203_192.out
                     have hcz99_0 : wr.cell? ⟨gb192, 0, none⟩ = some (.int .i64 x9A_2) := (blk_cell BK192.out 0).trans rfl
                     have hcz99_1 : wr.cell? ⟨gb192, 1, none⟩ = some (.slice Ao65 x9B_2.length co65) := (blk_cell BK192.out 1).trans rfl
                     have hfz99_0 := blk_frozen BK192.out 0
                     have hfz99_1 := blk_frozen BK192.out 1
                     try go_wp2
                     have n0_ : Aside0 (Kd.R (Kd.int .i64) 3 ((wr.setCell ⟨gb192, 0, none⟩ (.int .i64 t205)).setCell ⟨gb192, 1, none⟩ (.slice Ao72 t206.length co72)) w.heap.size (fun _ => True) u4 x4_2) := ⟨by (with_reducible repeat (first | apply Kd.R_alloc | apply Kd.R_drewN | apply Kd.R_drew)); exact Kd.R_mono (Kd.R_far (p := ⟨gb192, 1, none⟩) (Kd.R_far (p := ⟨gb192, 0, none⟩) (Kd.R_types HO_4.out BK192.out (by decide)) (fun _ hk => hk.2) (.int .i64 t205)) (fun _ hk => hk.2) (.slice Ao72 t206.length co72)) (fun _ hk => trivial)⟩
                     have n1_ : Aside0 (Kd.R k31 31 ((wr.setCell ⟨gb192, 0, none⟩ (.int .i64 t205)).setCell ⟨gb192, 1, none⟩ (.slice Ao72 t206.length co72)) w.heap.size (fun k_ => some k_ ≠ (.slice Ao72 t206.length co72 : Value).ownBlock) (.slice Ao65 x9B_2.length co65) x9B_2) := ⟨by (with_reducible repeat (first | apply Kd.R_alloc | apply Kd.R_drewN | apply Kd.R_drew)); exact Kd.R_mono (Kd.R_far (p := ⟨gb192, 1, none⟩) (Kd.R_far (p := ⟨gb192, 0, none⟩) (Kd.R_types HO_9B.out BK192.out (by decide)) (fun _ hk => hk.2) (.int .i64 t205)) (fun _ hk => hk.2) (.slice Ao72 t206.length co72)) (fun _ hk => hk.1)⟩
                     have n2_ : Aside0 (Kd.R k31 31 ((wr.setCell ⟨gb192, 0, none⟩ (.int .i64 t205)).setCell ⟨gb192, 1, none⟩ (.slice Ao72 t206.length co72)) w.heap.size (fun k_ => some k_ ≠ (.slice Ao65 x9B_2.length co65 : Value).ownBlock) (.slice Ao72 t206.length co72) t206) := ⟨by (with_reducible repeat (first | apply Kd.R_alloc | apply Kd.R_drewN | apply Kd.R_drew)); exact Kd.R_mono (Kd.R_far (p := ⟨gb192, 1, none⟩) (Kd.R_far (p := ⟨gb192, 0, none⟩) (Kd.R_types HO_9H.out BK192.out (by decide)) (fun _ hk => hk.2) (.int .i64 t205)) (fun _ hk => hk.2) (.slice Ao72 t206.length co72)) (fun _ hk => hk.1)⟩
                     have n3_ : Aside0 (((wr.setCell ⟨gb192, 0, none⟩ (.int .i64 t205)).setCell ⟨gb192, 1, none⟩ (.slice Ao72 t206.length co72)).heap[gb192]? = some (.cells #[.int .i64 t205, .slice Ao72 t206.length co72] 25 (0, 0))) := ⟨by (with_reducible repeat (first | refine blk_drewN ?_ _ | refine blk_drew ?_ | refine blk_alloc ?_ _)); refine blk_put (cs := #[.int .i64 t205, .slice Ao65 x9B_2.length co65]) ?_ 1 _ rfl; (with_reducible repeat (first | refine blk_drewN ?_ _ | refine blk_drew ?_ | refine blk_alloc ?_ _)); refine blk_put (cs := #[.int .i64 x9A_2, .slice Ao65 x9B_2.length co65]) ?_ 0 _ rfl; (with_reducible repeat (first | refine blk_drewN ?_ _ | refine blk_drew ?_ | refine blk_alloc ?_ _)); exact BK192.out⟩
                     have n4_ : Aside0 (((wr.setCell ⟨gb192, 0, none⟩ (.int .i64 t205)).setCell ⟨gb192, 1, none⟩ (.slice Ao72 t206.length co72)).heap[gb198]? = some (.cells #[.int .i64 ((rd_T40 l0 x7_2).f0), .int .i64 ((rd_T40 l0 x7_2).f1.f0), .int .i64 ((rd_T40 l0 x7_2).f1.f1), .int .i64 ((rd_T40 l0 x7_2).f1.f2), .int .i64 ((rd_T40 l0 x7_2).f1.f3), .bool ((rd_T40 l0 x7_2).f1.f4), .int .i64 ((rd_T40 l0 x7_2).f1.f5), .int .i64 ((rd_T40 l0 x7_2).f1.f6), .int .i64 ((rd_T40 l0 x7_2).f1.f7), .int .i64 ((rd_T40 l0 x7_2).f2)] 40 (0, 0))) := ⟨by (with_reducible repeat (first | refine blk_drewN ?_ _ | refine blk_drew ?_ | refine blk_alloc ?_ _)); refine blk_far ?_ NB198_192.out _; (with_reducible repeat (first | refine blk_drewN ?_ _ | refine blk_drew ?_ | refine blk_alloc ?_ _)); refine blk_far ?_ NB198_192.out _; (with_reducible repeat (first | refine blk_drewN ?_ _ | refine blk_drew ?_ | refine blk_alloc ?_ _)); exact BK198.out⟩
                     have n5_ : Aside0 (((wr.setCell ⟨gb192, 0, none⟩ (.int .i64 t205)).setCell ⟨gb192, 1, none⟩ (.slice Ao72 t206.length co72)).heap[gb203]? = some (.cells #[.int .i64 x9C_4, .int .i64 x9D_4, .int .i64 x9E_4, .int .i64 x9F_4] 41 (0, 0))) := ⟨by (with_reducible repeat (first | refine blk_drewN ?_ _ | refine blk_drew ?_ | refine blk_alloc ?_ _)); refine blk_far ?_ NB203_192.out _; (with_reducible repeat (first | refine blk_drewN ?_ _ | refine blk_drew ?_ | refine blk_alloc ?_ _)); refine blk_far ?_ NB203_192.out _; (with_reducible repeat (first | refine blk_drewN ?_ _ | refine blk_drew ?_ | refine blk_alloc ?_ _)); exact BK203.out⟩
                     have n6_ : Aside0 (((wr.setCell ⟨gb192, 0, none⟩ (.int .i64 t205)).setCell ⟨gb192, 1, none⟩ (.slice Ao72 t206.length co72)).heap[gb209]? = some (.cells #[.int .i64 t205, .slice Ao72 t206.length co72] 25 (0, 0))) := ⟨by (with_reducible repeat (first | refine blk_drewN ?_ _ | refine blk_drew ?_ | refine blk_alloc ?_ _)); refine blk_far ?_ NB209_192.out _; (with_reducible repeat (first | refine blk_drewN ?_ _ | refine blk_drew ?_ | refine blk_alloc ?_ _)); refine blk_far ?_ NB209_192.out _; (with_reducible repeat (first | refine blk_drewN ?_ _ | refine blk_drew ?_ | refine blk_alloc ?_ _)); exact BK209.out⟩
                     have n7_ : Aside0 (Below w.heap.size w ((wr.setCell ⟨gb192, 0, none⟩ (.int .i64 t205)).setCell ⟨gb192, 1, none⟩ (.slice Ao72 t206.length co72))) := ⟨by repeat (first | (with_reducible first | exact HB.out | apply below_alloc | apply pw_below_drewN | apply below_drew1 | refine below_set ?_ GE192.out | refine below_set ?_ GE198.out | refine below_set ?_ GE203.out | refine below_set ?_ GE209.out) | exact HB.out)⟩
                     (try clear HO_4)
                     (try clear HO_9B)
                     (try clear HO_9H)
                     (try clear BK192)
                     (try clear BK198)
                     (try clear BK203)
                     (try clear BK209)
                     (try clear HB)
                     generalize ((wr.setCell ⟨gb192, 0, none⟩ (.int .i64 t205)).setCell ⟨gb192, 1, none⟩ (.slice Ao72 t206.length co72)) = w100 at n0_ n1_ n2_ n3_ n4_ n5_ n6_ n7_ ⊢
                     have HO_4 := n0_
                     have HO_9B := n1_
                     have HO_9H := n2_
                     have BK192 := n3_
                     have BK198 := n4_
                     have BK203 := n5_
                     have BK209 := n6_
                     have HB := n7_
                     clear n0_ n1_ n2_ n3_ n4_ n5_ n6_ n7_
                     have n0_ := Aside0.mk (Kd.R_drew HO_4.out)
                     have n1_ := Aside0.mk (Kd.R_drew HO_9B.out)
                     have n2_ := Aside0.mk (Kd.R_drew HO_9H.out)
                     have n3_ := Aside0.mk (blk_drew BK192.out)
                     have n4_ := Aside0.mk (blk_drew BK198.out)
                     have n5_ := Aside0.mk (blk_drew BK203.out)
                     have n6_ := Aside0.mk (blk_drew BK209.out)
                     have n7_ := Aside0.mk (below_drew1 HB.out)
                     clear HO_4
                     clear HO_9B
                     clear HO_9H
                     clear BK192
                     clear BK198
                     clear BK203
                     clear BK209
                     clear HB
                     have HO_4 := n0_
                     have HO_9B := n1_
                     have HO_9H := n2_
                     have BK192 := n3_
                     have BK198 := n4_
                     have BK203 := n5_
                     have BK209 := n6_
                     have HB := n7_
                     clear n0_ n1_ n2_ n3_ n4_ n5_ n6_ n7_
                     refine start_ (n := 9) (S := fun w' => w'.cell? ⟨gb192, 0, none⟩ = some (.int .i64 t205) ∧ w'.cell? ⟨gb192, 1, none⟩ = some (.slice Ao72 t206.length co72)) (ds := []) #[false, false, false, false, false, false, false, false, false] (by kernel_rfl) rfl rfl ⟨(blk_cell BK192.out 0).trans rfl, (blk_cell BK192.out 1).trans rfl⟩ (fun hHeld => ?_); refine with_tabW lawDO.tab33 lawDO.bits33 (fun HT_ HW_ => ?_)
                     generalize w100.drew = w101 at HO_4 HO_9B HO_9H BK192 BK198 BK203 BK209 HB hHeld ⊢
                     refine pure_ (i := 1) (N := some 98) (v := ?_) (a' := ?_) #[false, true, false, false, false, false, false, false, false] rfl rfl (any_of HT_.out (by kernel_rfl)) (fun _ _ _ h => h) (Or.inl ⟨by rfl, ?_⟩) ?_ ?_
                     rotate_left
                     ·intro w'
                      go_simp
                      with_reducible rfl
                     rotate_left
                     ·simp only [Act.put, List.setIfInBounds_toArray, List.set_cons_zero, List.set_cons_succ, i64_w, i32_w]
                      rfl
                     refine pure_ (i := 5) (N := some 102) (v := ?_) (a' := ?_) #[false, true, false, false, false, true, false, false, false] rfl rfl (any_of HT_.out (by kernel_rfl)) (fun _ _ _ h => h) (Or.inl ⟨by rfl, ?_⟩) ?_ ?_
                     rotate_left
                     ·intro w'
                      go_simp
                      with_reducible rfl
                     rotate_left
                     ·simp only [Act.put, List.setIfInBounds_toArray, List.set_cons_zero, List.set_cons_succ, i64_w, i32_w]
                      rfl
                     refine take_ (i := 0) (N := some 97) (v := ?_) (a' := ?_) #[true, true, false, false, false, true, false, false, false] rfl rfl (take_ofW HT_.out HW_.out (by kernel_rfl)) (fun _ _ _ h => h) (Or.inl ⟨by rfl, ?_⟩) hHeld ?_ ?_
                     rotate_left
                     ·rintro w' ⟨s0, s1⟩
                      go_simp
                      with_reducible rfl
                     rotate_left
                     ·simp only [Act.put, List.setIfInBounds_toArray, List.set_cons_zero, List.set_cons_succ, i64_w, i32_w]
                      rfl
                     refine take_ (i := 6) (N := some 103) (v := ?_) (a' := ?_) #[true, true, false, false, false, true, true, false, false] rfl rfl (take_ofW HT_.out HW_.out (by kernel_rfl)) (fun _ _ _ h => h) (Or.inl ⟨by rfl, ?_⟩) hHeld ?_ ?_
                     rotate_left
                     ·rintro w' ⟨s0, s1⟩
                      go_simp
                      with_reducible rfl
                     rotate_left
                     ·simp only [Act.put, List.setIfInBounds_toArray, List.set_cons_zero, List.set_cons_succ, i64_w, i32_w]
                      rfl
                     refine pure_ (i := 7) (N := some 104) (v := ?_) (a' := ?_) #[true, true, false, false, false, true, true, true, false] rfl rfl (any_of HT_.out (by kernel_rfl)) (fun _ _ _ h => h) (Or.inl ⟨by rfl, ?_⟩) ?_ ?_
                     rotate_left
                     ·intro w'
                      go_simp
                      with_reducible rfl
                     rotate_left
                     ·simp only [Act.put, List.setIfInBounds_toArray, List.set_cons_zero, List.set_cons_succ, i64_w, i32_w]
                      rfl
                     refine one_ (i := 2) (N := some 99) #[true, true, true, false, false, true, true, true, false] rfl rfl (one_of HT_.out (by kernel_rfl)) (by decide) (fun K hK => ?_)
                     refine goes_ Try.func10 (by kernel_rfl) rfl #[.agg #[.int .i64 t205, .slice Ao72 t206.length co72], .int .i64 ji9] (by rfl) rfl rfl (by (try simp only [List.map_toArray, List.map_cons, List.map_nil]); first | done | (simp only [hji9]; rfl) | rfl | (simp only [List.length_drop, List.length_take]; rfl)) ?_
                     with_reducible refine (down_Pass.calls k5 t205 _ _ t206 ji9 t211 t212 _ ?side1 ?side2 A91.out).mono ?_
                     (case side1 => repeat (first | exact (Kd.R_reads' HO_9H.out).2.2 | (with_reducible refine Kd.C_alloc ?_ _) | (with_reducible refine Kd.C_drewN ?_ _) | (with_reducible refine Kd.C_drew ?_)))
                     (case side2 => exact (Kd.R_reads' HO_9H.out).2.1)
                     rintro e w102 ⟨v213, rfl, ho0, hb⟩
                     refine ⟨_, rfl, ?_⟩
                     have n0_ := Aside0.mk (Kd.R_below (by (with_reducible repeat (first | apply Kd.R_alloc | apply Kd.R_drewN | apply Kd.R_drew)); exact HO_4.out) hb)
                     have n1_ := Aside0.mk (Kd.R_elder' (by (with_reducible repeat (first | apply Kd.R_alloc | apply Kd.R_drewN | apply Kd.R_drew)); exact HO_9B.out) (Kd.R_base ho0) hb)
                     have n2_ := Aside0.mk (Kd.R_elder' (by (with_reducible repeat (first | apply Kd.R_alloc | apply Kd.R_drewN | apply Kd.R_drew)); exact HO_9H.out) (Kd.R_base ho0) hb)
                     have n3_ := Aside0.mk (Kd.R_lower (Kd.R_new' (Kd.R_new' ho0 (Kd.R_lt (by (with_reducible repeat (first | apply Kd.R_alloc | apply Kd.R_drewN | apply Kd.R_drew)); exact HO_9B.out))) (Kd.R_lt (by (with_reducible repeat (first | apply Kd.R_alloc | apply Kd.R_drewN | apply Kd.R_drew)); exact HO_9H.out))) (below_size (by repeat (first | (with_reducible first | exact HB.out | apply below_alloc | apply pw_below_drewN | apply below_drew1 | refine below_set ?_ GE192.out | refine below_set ?_ GE198.out | refine below_set ?_ GE203.out | refine below_set ?_ GE209.out) | exact HB.out))))
                     have n4_ := Aside0.mk (blk_below (g := gb192) (o := .cells #[.int .i64 t205, .slice Ao72 t206.length co72] 25 (0, 0)) (by (with_reducible repeat (first | refine blk_drewN ?_ _ | refine blk_drew ?_ | refine blk_alloc ?_ _)); exact BK192.out) hb)
                     have n5_ := Aside0.mk (blk_below (g := gb198) (o := .cells #[.int .i64 ((rd_T40 l0 x7_2).f0), .int .i64 ((rd_T40 l0 x7_2).f1.f0), .int .i64 ((rd_T40 l0 x7_2).f1.f1), .int .i64 ((rd_T40 l0 x7_2).f1.f2), .int .i64 ((rd_T40 l0 x7_2).f1.f3), .bool ((rd_T40 l0 x7_2).f1.f4), .int .i64 ((rd_T40 l0 x7_2).f1.f5), .int .i64 ((rd_T40 l0 x7_2).f1.f6), .int .i64 ((rd_T40 l0 x7_2).f1.f7), .int .i64 ((rd_T40 l0 x7_2).f2)] 40 (0, 0)) (by (with_reducible repeat (first | refine blk_drewN ?_ _ | refine blk_drew ?_ | refine blk_alloc ?_ _)); exact BK198.out) hb)
                     have n6_ := Aside0.mk (blk_below (g := gb203) (o := .cells #[.int .i64 x9C_4, .int .i64 x9D_4, .int .i64 x9E_4, .int .i64 x9F_4] 41 (0, 0)) (by (with_reducible repeat (first | refine blk_drewN ?_ _ | refine blk_drew ?_ | refine blk_alloc ?_ _)); exact BK203.out) hb)
                     have n7_ := Aside0.mk (blk_below (g := gb209) (o := .cells #[.int .i64 t205, .slice Ao72 t206.length co72] 25 (0, 0)) (by (with_reducible repeat (first | refine blk_drewN ?_ _ | refine blk_drew ?_ | refine blk_alloc ?_ _)); exact BK209.out) hb)
                     have n8_ := Aside0.mk (below_step (by repeat (first | (with_reducible first | exact HB.out | apply below_alloc | apply pw_below_drewN | apply below_drew1 | refine below_set ?_ GE192.out | refine below_set ?_ GE198.out | refine below_set ?_ GE203.out | refine below_set ?_ GE209.out) | exact HB.out)) hb)
                     clear HO_4
                     clear HO_9B
                     clear HO_9H
                     clear BK192
                     clear BK198
                     clear BK203
                     clear BK209
                     clear HB
                     have HO_4 := n0_
                     have HO_9B := n1_
                     have HO_9H := n2_
                     have HO214 := n3_
                     have BK192 := n4_
                     have BK198 := n5_
                     have BK203 := n6_
                     have BK209 := n7_
                     have HB := n8_
                     clear n0_ n1_ n2_ n3_ n4_ n5_ n6_ n7_ n8_
                     (try clear hb)
                     (try clear hb2)
                     (try clear hk)
                     (try clear hi)
                     (try clear ho0)
                     obtain ⟨Ao103, co103, eo103⟩ := Kd.R_slice HO214.out
                     (first | subst eo103 | (injection eo103 with f1_ f2_ f3_; have f4_ := f1_.symm; have f5_ := f3_.symm; clear f1_ f2_ f3_; subst f4_; subst f5_))
                     refine hK.out _ _ ⟨(blk_cell BK192.out 0).trans rfl, (blk_cell BK192.out 1).trans rfl⟩ (fun hHeld => ?_)
                     clear hK K
                     refine norm_ (a' := ?_) ?_ ?_
                     rotate_left
                     ·show Act.put _ (some 99) _ = _
                      simp only [Act.put, List.setIfInBounds_toArray, List.set_cons_zero, List.set_cons_succ, i64_w, i32_w]
                      rfl
                     refine pure_ (i := 3) (N := some 100) (v := ?_) (a' := ?_) #[true, true, true, true, false, true, true, true, false] rfl rfl (any_of HT_.out (by kernel_rfl)) (fun _ _ _ h => h) (Or.inl ⟨by rfl, ?_⟩) ?_ ?_
                     rotate_left
                     ·intro w'
                      go_simp
                      with_reducible rfl
                     rotate_left
                     ·simp only [Act.put, List.setIfInBounds_toArray, List.set_cons_zero, List.set_cons_succ, i64_w, i32_w]
                      rfl
                     refine pure_ (i := 4) (N := some 101) (v := ?_) (a' := ?_) #[true, true, true, true, true, true, true, true, false] rfl rfl (any_of HT_.out (by kernel_rfl)) (fun _ _ _ h => h) (Or.inl ⟨by rfl, ?_⟩) ?_ ?_
                     rotate_left
                     ·intro w'
                      go_simp
                      with_reducible rfl
                     rotate_left
                     ·simp only [Act.put, List.setIfInBounds_toArray, List.set_cons_zero, List.set_cons_succ, i64_w, i32_w]
                      rfl
                     refine pure_ (i := 8) (N := some 105) (v := ?_) (a' := ?_) #[true, true, true, true, true, true, true, true, true] rfl rfl (any_of HT_.out (by kernel_rfl)) (fun _ _ _ h => h) (Or.inl ⟨by rfl, ?_⟩) ?_ ?_
                     rotate_left
                     ·intro w'
                      go_simp
                      with_reducible rfl
                     rotate_left
                     ·simp only [Act.put, List.setIfInBounds_toArray, List.set_cons_zero, List.set_cons_succ, i64_w, i32_w]
                      rfl
                     refine done_ (done_of HT_.out (by kernel_rfl)) ?_
                     try go_wp2
                     go_meet
                     case rel => exact ⟨_, (t205), (t206), (.slice Ao72 t206.length co72), H', ⟨by have := HK1.out; have := HK2.out; have := HJ13.out; have := HK4.out; have := HK5.out; first | omega | exact Nat.le_refl _⟩, ⟨by (with_reducible repeat (first | apply Kd.R_alloc | apply Kd.R_drewN | apply Kd.R_drew)); exact HO_4.out⟩, ⟨by (with_reducible repeat (first | apply Kd.R_alloc | apply Kd.R_drewN | apply Kd.R_drew)); exact Kd.R_mono HO_9H.out (fun _ hk => trivial)⟩, ⟨by (with_reducible repeat (first | refine blk_drewN ?_ _ | refine blk_drew ?_ | refine blk_alloc ?_ _)); exact BK192.out⟩, ⟨by (with_reducible repeat (first | refine blk_drewN ?_ _ | refine blk_drew ?_ | refine blk_alloc ?_ _)); exact BK198.out⟩, ⟨by repeat (first | (with_reducible first | exact HB.out | apply below_alloc | apply pw_below_drewN | apply below_drew1 | refine below_set ?_ GE192.out | refine below_set ?_ GE198.out | refine below_set ?_ GE203.out | refine below_set ?_ GE209.out) | exact HB.out)⟩⟩
                    ·rw [if_neg c92] at H
                     exact absurd H (by simp)
             ·rw [if_neg c25] at H
              have c25b0 : ((wrap64 (Int.tmod (IntKind.u64.wrap ((rd_T40 l0 x7_2).f0)) 7)) == 6) = false := beq_eq_false_iff_ne.mpr c25
              have c25b1 : ((wrap64 (Int.tmod (IntKind.u64.wrap ((rd_T40 l0 x7_2).f0)) 7)) != 6) = true := bne_iff_ne.mpr c25
              replace H := Option.bind_eq_some_iff.mp H
              obtain ⟨⟨t215, t216, t219, t220⟩, A1040, H⟩ := H
              replace H : (if t220.isNone = true then (lawDO.j5 kj13 l0 x4_2 ji9 x7_2 t215 t216) else (lawDO.j5 kj13 l0 x4_2 ji9 x7_2 x9A_2 x9B_2)) = some r := H
              have A104 := Aside0.mk A1040
              clear A1040
              rcases t220 with _ | q222
              ·have H1 : (lawDO.j5 kj13 l0 x4_2 ji9 x7_2 t215 t216) = some r := by rw [if_pos (show (none : Option Int).isNone = true by rfl)] at H; exact H
               clear H
               have H := H1
               clear H1
               try simp only [errW_none, errW_some]
               have H' := Aside0.mk H
               clear H
               have hnb105 := NB192_198.out
               have hnc105 := NB198_192.out
               have hcz106_0 : wc.cell? ⟨gb192, 0, none⟩ = some (.int .i64 x9A_2) := (blk_cell BK192.out 0).trans rfl
               have hcz106_1 : wc.cell? ⟨gb192, 1, none⟩ = some (u9B) := (blk_cell BK192.out 1).trans rfl
               have hfz106_0 := blk_frozen BK192.out 0
               have hfz106_1 := blk_frozen BK192.out 1
               have hcz107_0 : wc.cell? ⟨gb198, 0, none⟩ = some (.int .i64 ((rd_T40 l0 x7_2).f0)) := (blk_cell BK198.out 0).trans rfl
               have hcz107_1 : wc.cell? ⟨gb198, 1, none⟩ = some (.int .i64 ((rd_T40 l0 x7_2).f1.f0)) := (blk_cell BK198.out 1).trans rfl
               have hcz107_2 : wc.cell? ⟨gb198, 2, none⟩ = some (.int .i64 ((rd_T40 l0 x7_2).f1.f1)) := (blk_cell BK198.out 2).trans rfl
               have hcz107_3 : wc.cell? ⟨gb198, 3, none⟩ = some (.int .i64 ((rd_T40 l0 x7_2).f1.f2)) := (blk_cell BK198.out 3).trans rfl
               have hcz107_4 : wc.cell? ⟨gb198, 4, none⟩ = some (.int .i64 ((rd_T40 l0 x7_2).f1.f3)) := (blk_cell BK198.out 4).trans rfl
               have hcz107_5 : wc.cell? ⟨gb198, 5, none⟩ = some (.bool ((rd_T40 l0 x7_2).f1.f4)) := (blk_cell BK198.out 5).trans rfl
               have hcz107_6 : wc.cell? ⟨gb198, 6, none⟩ = some (.int .i64 ((rd_T40 l0 x7_2).f1.f5)) := (blk_cell BK198.out 6).trans rfl
               have hcz107_7 : wc.cell? ⟨gb198, 7, none⟩ = some (.int .i64 ((rd_T40 l0 x7_2).f1.f6)) := (blk_cell BK198.out 7).trans rfl
               have hcz107_8 : wc.cell? ⟨gb198, 8, none⟩ = some (.int .i64 ((rd_T40 l0 x7_2).f1.f7)) := (blk_cell BK198.out 8).trans rfl
               have hcz107_9 : wc.cell? ⟨gb198, 9, none⟩ = some (.int .i64 ((rd_T40 l0 x7_2).f2)) := (blk_cell BK198.out 9).trans rfl
               have hfz107_0 := blk_frozen BK198.out 0
               have hfz107_1 := blk_frozen BK198.out 1
               have hfz107_2 := blk_frozen BK198.out 2
               have hfz107_3 := blk_frozen BK198.out 3
               have hfz107_4 := blk_frozen BK198.out 4
               have hfz107_5 := blk_frozen BK198.out 5
               have hfz107_6 := blk_frozen BK198.out 6
               have hfz107_7 := blk_frozen BK198.out 7
               have hfz107_8 := blk_frozen BK198.out 8
               have hfz107_9 := blk_frozen BK198.out 9
               obtain ⟨Ao108, co108, eo108⟩ := Kd.R_slice HO_9B.out
               subst eo108
               go_wp2_with (first | ((with_reducible refine gate_callee (f := 6) rfl ?_); refine goesL_ (some 53) rfl rfl Try.func6 (by kernel_rfl) rfl #[.agg #[.int .i64 x9A_2, .slice Ao108 x9B_2.length co108], .agg #[.int .i64 ((rd_T40 l0 x7_2).f1.f0), .int .i64 ((rd_T40 l0 x7_2).f1.f1), .int .i64 ((rd_T40 l0 x7_2).f1.f2), .int .i64 ((rd_T40 l0 x7_2).f1.f3), .bool ((rd_T40 l0 x7_2).f1.f4), .int .i64 ((rd_T40 l0 x7_2).f1.f5), .int .i64 ((rd_T40 l0 x7_2).f1.f6), .int .i64 ((rd_T40 l0 x7_2).f1.f7)]] rfl (by (try simp only [List.map_toArray, List.map_cons, List.map_nil]); first | done | rfl | (simp only [List.length_drop, List.length_take]; rfl)) ?_; (with_reducible refine (down_Add.calls kj13 x9A_2 _ _ x9B_2 ((rd_T40 l0 x7_2).f1.f0) ((rd_T40 l0 x7_2).f1.f1) ((rd_T40 l0 x7_2).f1.f2) ((rd_T40 l0 x7_2).f1.f3) ((rd_T40 l0 x7_2).f1.f4) ((rd_T40 l0 x7_2).f1.f5) ((rd_T40 l0 x7_2).f1.f6) ((rd_T40 l0 x7_2).f1.f7) t215 t216 t219 none _ ?side1 ?side2 A104.out).mono ?_); (case side1 => repeat (first | exact (Kd.R_reads' HO_9B.out).2.2 | (with_reducible refine Kd.C_alloc ?_ _) | (with_reducible refine Kd.C_drewN ?_ _) | (with_reducible refine Kd.C_drew ?_))); (case side2 => exact (Kd.R_reads' HO_9B.out).2.1); rintro e w109 ⟨v217, rfl, ho0, hb⟩; refine ⟨_, rfl, ?_⟩; have n0_ := Aside0.mk (Kd.R_below (by (with_reducible repeat (first | apply Kd.R_alloc | apply Kd.R_drewN | apply Kd.R_drew)); exact HO_4.out) hb); have n1_ := Aside0.mk (Kd.R_elder' (by (with_reducible repeat (first | apply Kd.R_alloc | apply Kd.R_drewN | apply Kd.R_drew)); exact HO_9B.out) (Kd.R_base ho0) hb); have n2_ := Aside0.mk (Kd.R_lower (Kd.R_new' ho0 (Kd.R_lt (by (with_reducible repeat (first | apply Kd.R_alloc | apply Kd.R_drewN | apply Kd.R_drew)); exact HO_9B.out))) (below_size (by repeat (first | (with_reducible first | exact HB.out | apply below_alloc | apply pw_below_drewN | apply below_drew1 | refine below_set ?_ GE192.out | refine below_set ?_ GE198.out) | exact HB.out)))); have n3_ := Aside0.mk (blk_below (g := gb192) (o := .cells #[.int .i64 x9A_2, .slice Ao108 x9B_2.length co108] 25 (0, 0)) (by (with_reducible repeat (first | refine blk_drewN ?_ _ | refine blk_drew ?_ | refine blk_alloc ?_ _)); exact BK192.out) hb); have n4_ := Aside0.mk (blk_below (g := gb198) (o := .cells #[.int .i64 ((rd_T40 l0 x7_2).f0), .int .i64 ((rd_T40 l0 x7_2).f1.f0), .int .i64 ((rd_T40 l0 x7_2).f1.f1), .int .i64 ((rd_T40 l0 x7_2).f1.f2), .int .i64 ((rd_T40 l0 x7_2).f1.f3), .bool ((rd_T40 l0 x7_2).f1.f4), .int .i64 ((rd_T40 l0 x7_2).f1.f5), .int .i64 ((rd_T40 l0 x7_2).f1.f6), .int .i64 ((rd_T40 l0 x7_2).f1.f7), .int .i64 ((rd_T40 l0 x7_2).f2)] 40 (0, 0)) (by (with_reducible repeat (first | refine blk_drewN ?_ _ | refine blk_drew ?_ | refine blk_alloc ?_ _)); exact BK198.out) hb); have n5_ := Aside0.mk (below_step (by repeat (first | (with_reducible first | exact HB.out | apply below_alloc | apply pw_below_drewN | apply below_drew1 | refine below_set ?_ GE192.out | refine below_set ?_ GE198.out) | exact HB.out)) hb); clear HO_4; clear HO_9B; clear BK192; clear BK198; clear HB; have HO_4 := n0_; have HO_9B := n1_; have HO218 := n2_; have BK192 := n3_; have BK198 := n4_; have HB := n5_; clear n0_ n1_ n2_ n3_ n4_ n5_; (try clear hb); (try clear hb2); (try clear hk); (try clear hi); (try clear ho0); (try simp only [errW_none, errW_some])) | ((with_reducible refine gate_dst (N := 13) rfl ?_); refine box_event ?hg (N := 13) ?hd (cs := #[.int .i64 0, .slice none 0 0]) (t := 25) ?hr ?_; (case hd => rfl); (case hg => rfl); (case hr => first | (go_simp; done) | (go_simp; rfl)); intro gb221 hg w110 hbox hb; have n0_ := Aside0.mk (Kd.R_below (by (with_reducible repeat (first | apply Kd.R_alloc | apply Kd.R_drewN | apply Kd.R_drew)); exact HO_4.out) hb); have n1_ := Aside0.mk (Kd.R_below (by (with_reducible repeat (first | apply Kd.R_alloc | apply Kd.R_drewN | apply Kd.R_drew)); exact HO_9B.out) hb); have n2_ := Aside0.mk (Kd.R_below (by (with_reducible repeat (first | apply Kd.R_alloc | apply Kd.R_drewN | apply Kd.R_drew)); exact HO218.out) hb); have n3_ := Aside0.mk (blk_below (g := gb192) (o := .cells #[.int .i64 x9A_2, .slice Ao108 x9B_2.length co108] 25 (0, 0)) (by (with_reducible repeat (first | refine blk_drewN ?_ _ | refine blk_drew ?_ | refine blk_alloc ?_ _)); exact BK192.out) hb); have n4_ := Aside0.mk (blk_below (g := gb198) (o := .cells #[.int .i64 ((rd_T40 l0 x7_2).f0), .int .i64 ((rd_T40 l0 x7_2).f1.f0), .int .i64 ((rd_T40 l0 x7_2).f1.f1), .int .i64 ((rd_T40 l0 x7_2).f1.f2), .int .i64 ((rd_T40 l0 x7_2).f1.f3), .bool ((rd_T40 l0 x7_2).f1.f4), .int .i64 ((rd_T40 l0 x7_2).f1.f5), .int .i64 ((rd_T40 l0 x7_2).f1.f6), .int .i64 ((rd_T40 l0 x7_2).f1.f7), .int .i64 ((rd_T40 l0 x7_2).f2)] 40 (0, 0)) (by (with_reducible repeat (first | refine blk_drewN ?_ _ | refine blk_drew ?_ | refine blk_alloc ?_ _)); exact BK198.out) hb); have n5_ := Aside0.mk (below_step (by repeat (first | (with_reducible first | exact HB.out | apply below_alloc | apply pw_below_drewN | apply below_drew1 | refine below_set ?_ GE192.out | refine below_set ?_ GE198.out) | exact HB.out)) hb); have n6_ := Aside0.mk (hbox); have n7_ := Aside0.mk ((by rw [hg]; exact (below_size (by repeat (first | (with_reducible first | exact HB.out | apply below_alloc | apply pw_below_drewN | apply below_drew1 | refine below_set ?_ GE192.out | refine below_set ?_ GE198.out) | exact HB.out))) : w.heap.size ≤ gb221)); have n8_ := Aside0.mk ((by rw [hg]; exact (below_size (by repeat (first | (with_reducible first | exact HB.out | apply below_alloc | apply pw_below_drewN | apply below_drew1 | refine below_set ?_ GE192.out | refine below_set ?_ GE198.out) | exact HB.out))) : w.heap.size ≤ gb221)); have n9_ := Aside0.mk ((by rw [hg]; exact Nat.ne_of_lt (blk_lt (g := gb192) (o := .cells #[.int .i64 x9A_2, .slice Ao108 x9B_2.length co108] 25 (0, 0)) (by (with_reducible repeat (first | refine blk_drewN ?_ _ | refine blk_drew ?_ | refine blk_alloc ?_ _)); exact BK192.out)) : gb192 ≠ gb221)); have n10_ := Aside0.mk ((by rw [hg]; exact Nat.ne_of_gt (blk_lt (g := gb192) (o := .cells #[.int .i64 x9A_2, .slice Ao108 x9B_2.length co108] 25 (0, 0)) (by (with_reducible repeat (first | refine blk_drewN ?_ _ | refine blk_drew ?_ | refine blk_alloc ?_ _)); exact BK192.out)) : gb221 ≠ gb192)); have n11_ := Aside0.mk ((by rw [hg]; exact Nat.ne_of_lt (blk_lt (g := gb198) (o := .cells #[.int .i64 ((rd_T40 l0 x7_2).f0), .int .i64 ((rd_T40 l0 x7_2).f1.f0), .int .i64 ((rd_T40 l0 x7_2).f1.f1), .int .i64 ((rd_T40 l0 x7_2).f1.f2), .int .i64 ((rd_T40 l0 x7_2).f1.f3), .bool ((rd_T40 l0 x7_2).f1.f4), .int .i64 ((rd_T40 l0 x7_2).f1.f5), .int .i64 ((rd_T40 l0 x7_2).f1.f6), .int .i64 ((rd_T40 l0 x7_2).f1.f7), .int .i64 ((rd_T40 l0 x7_2).f2)] 40 (0, 0)) (by (with_reducible repeat (first | refine blk_drewN ?_ _ | refine blk_drew ?_ | refine blk_alloc ?_ _)); exact BK198.out)) : gb198 ≠ gb221)); have n12_ := Aside0.mk ((by rw [hg]; exact Nat.ne_of_gt (blk_lt (g := gb198) (o := .cells #[.int .i64 ((rd_T40 l0 x7_2).f0), .int .i64 ((rd_T40 l0 x7_2).f1.f0), .int .i64 ((rd_T40 l0 x7_2).f1.f1), .int .i64 ((rd_T40 l0 x7_2).f1.f2), .int .i64 ((rd_T40 l0 x7_2).f1.f3), .bool ((rd_T40 l0 x7_2).f1.f4), .int .i64 ((rd_T40 l0 x7_2).f1.f5), .int .i64 ((rd_T40 l0 x7_2).f1.f6), .int .i64 ((rd_T40 l0 x7_2).f1.f7), .int .i64 ((rd_T40 l0 x7_2).f2)] 40 (0, 0)) (by (with_reducible repeat (first | refine blk_drewN ?_ _ | refine blk_drew ?_ | refine blk_alloc ?_ _)); exact BK198.out)) : gb221 ≠ gb198)); clear HO_4; clear HO_9B; clear HO218; clear BK192; clear BK198; clear HB; have HO_4 := n0_; have HO_9B := n1_; have HO218 := n2_; have BK192 := n3_; have BK198 := n4_; have HB := n5_; have BK221 := n6_; have GW221 := n7_; have GE221 := n8_; have NB192_221 := n9_; have NB221_192 := n10_; have NB198_221 := n11_; have NB221_198 := n12_; clear n0_ n1_ n2_ n3_ n4_ n5_ n6_ n7_ n8_ n9_ n10_ n11_ n12_; clear hb hbox hg; have hnb111 := NB221_192.out; have hnc111 := NB192_221.out; have hnb112 := NB221_198.out; have hnc112 := NB198_221.out; have hcz113_0 : w110.cell? ⟨gb221, 0, none⟩ = some (.int .i64 0) := (blk_cell BK221.out 0).trans rfl; have hcz113_1 : w110.cell? ⟨gb221, 1, none⟩ = some (.slice none 0 0) := (blk_cell BK221.out 1).trans rfl; have hfz113_0 := blk_frozen BK221.out 0; have hfz113_1 := blk_frozen BK221.out 1; obtain ⟨Ao114, co114, eo114⟩ := Kd.R_slice HO218.out; subst eo114; have hcz115_0 : w110.cell? ⟨gb192, 0, none⟩ = some (.int .i64 x9A_2) := (blk_cell BK192.out 0).trans rfl; have hcz115_1 : w110.cell? ⟨gb192, 1, none⟩ = some (.slice Ao108 x9B_2.length co108) := (blk_cell BK192.out 1).trans rfl; have hfz115_0 := blk_frozen BK192.out 0; have hfz115_1 := blk_frozen BK192.out 1))
               go_meet
               case rel => exact ⟨_, (t215), (t216), (.slice Ao114 t216.length co114), H', ⟨by have := HK1.out; have := HK2.out; have := HJ13.out; first | omega | exact Nat.le_refl _⟩, ⟨by (with_reducible repeat (first | apply Kd.R_alloc | apply Kd.R_drewN | apply Kd.R_drew)); exact Kd.R_mono (Kd.R_far (p := ⟨gb192, 1, none⟩) (Kd.R_far (p := ⟨gb192, 0, none⟩) (Kd.R_far (p := ⟨gb221, 1, none⟩) (Kd.R_far (p := ⟨gb221, 0, none⟩) (Kd.R_types (Kd.R_types HO_4.out BK221.out (by decide)) BK192.out (by decide)) (fun _ hk => hk.1.2) (.int .i64 t215)) (fun _ hk => hk.1.2) (.slice Ao114 t216.length co114)) (fun _ hk => hk.2) (.int .i64 t215)) (fun _ hk => hk.2) (.slice Ao114 t216.length co114)) (fun _ hk => trivial)⟩, ⟨by (with_reducible repeat (first | apply Kd.R_alloc | apply Kd.R_drewN | apply Kd.R_drew)); exact Kd.R_mono (Kd.R_far (p := ⟨gb192, 1, none⟩) (Kd.R_far (p := ⟨gb192, 0, none⟩) (Kd.R_far (p := ⟨gb221, 1, none⟩) (Kd.R_far (p := ⟨gb221, 0, none⟩) (Kd.R_types (Kd.R_types HO218.out BK221.out (by decide)) BK192.out (by decide)) (fun _ hk => hk.1.2) (.int .i64 t215)) (fun _ hk => hk.1.2) (.slice Ao114 t216.length co114)) (fun _ hk => hk.2) (.int .i64 t215)) (fun _ hk => hk.2) (.slice Ao114 t216.length co114)) (fun _ hk => trivial)⟩, ⟨by (with_reducible repeat (first | refine blk_drewN ?_ _ | refine blk_drew ?_ | refine blk_alloc ?_ _)); refine blk_put (cs := #[.int .i64 t215, .slice Ao108 x9B_2.length co108]) ?_ 1 _ rfl; (with_reducible repeat (first | refine blk_drewN ?_ _ | refine blk_drew ?_ | refine blk_alloc ?_ _)); refine blk_put (cs := #[.int .i64 x9A_2, .slice Ao108 x9B_2.length co108]) ?_ 0 _ rfl; (with_reducible repeat (first | refine blk_drewN ?_ _ | refine blk_drew ?_ | refine blk_alloc ?_ _)); refine blk_far ?_ NB192_221.out _; (with_reducible repeat (first | refine blk_drewN ?_ _ | refine blk_drew ?_ | refine blk_alloc ?_ _)); refine blk_far ?_ NB192_221.out _; (with_reducible repeat (first | refine blk_drewN ?_ _ | refine blk_drew ?_ | refine blk_alloc ?_ _)); exact BK192.out⟩, ⟨by (with_reducible repeat (first | refine blk_drewN ?_ _ | refine blk_drew ?_ | refine blk_alloc ?_ _)); refine blk_far ?_ NB198_192.out _; (with_reducible repeat (first | refine blk_drewN ?_ _ | refine blk_drew ?_ | refine blk_alloc ?_ _)); refine blk_far ?_ NB198_192.out _; (with_reducible repeat (first | refine blk_drewN ?_ _ | refine blk_drew ?_ | refine blk_alloc ?_ _)); refine blk_far ?_ NB198_221.out _; (with_reducible repeat (first | refine blk_drewN ?_ _ | refine blk_drew ?_ | refine blk_alloc ?_ _)); refine blk_far ?_ NB198_221.out _; (with_reducible repeat (first | refine blk_drewN ?_ _ | refine blk_drew ?_ | refine blk_alloc ?_ _)); exact BK198.out⟩, ⟨by repeat (first | (with_reducible first | exact HB.out | apply below_alloc | apply pw_below_drewN | apply below_drew1 | refine below_set ?_ GE192.out | refine below_set ?_ GE198.out | refine below_set ?_ GE221.out) | exact HB.out)⟩⟩
              ·have H1 : (lawDO.j5 kj13 l0 x4_2 ji9 x7_2 x9A_2 x9B_2) = some r := by rw [if_neg (show ¬ (some q222).isNone = true by simp)] at H; exact H
               clear H
               have H := H1
               clear H1
               try simp only [errW_none, errW_some]
               have H' := Aside0.mk H
               clear H
               have hnb116 := NB192_198.out
               have hnc116 := NB198_192.out
               have hcz117_0 : wc.cell? ⟨gb192, 0, none⟩ = some (.int .i64 x9A_2) := (blk_cell BK192.out 0).trans rfl
               have hcz117_1 : wc.cell? ⟨gb192, 1, none⟩ = some (u9B) := (blk_cell BK192.out 1).trans rfl
               have hfz117_0 := blk_frozen BK192.out 0
               have hfz117_1 := blk_frozen BK192.out 1
               have hcz118_0 : wc.cell? ⟨gb198, 0, none⟩ = some (.int .i64 ((rd_T40 l0 x7_2).f0)) := (blk_cell BK198.out 0).trans rfl
               have hcz118_1 : wc.cell? ⟨gb198, 1, none⟩ = some (.int .i64 ((rd_T40 l0 x7_2).f1.f0)) := (blk_cell BK198.out 1).trans rfl
               have hcz118_2 : wc.cell? ⟨gb198, 2, none⟩ = some (.int .i64 ((rd_T40 l0 x7_2).f1.f1)) := (blk_cell BK198.out 2).trans rfl
               have hcz118_3 : wc.cell? ⟨gb198, 3, none⟩ = some (.int .i64 ((rd_T40 l0 x7_2).f1.f2)) := (blk_cell BK198.out 3).trans rfl
               have hcz118_4 : wc.cell? ⟨gb198, 4, none⟩ = some (.int .i64 ((rd_T40 l0 x7_2).f1.f3)) := (blk_cell BK198.out 4).trans rfl
               have hcz118_5 : wc.cell? ⟨gb198, 5, none⟩ = some (.bool ((rd_T40 l0 x7_2).f1.f4)) := (blk_cell BK198.out 5).trans rfl
               have hcz118_6 : wc.cell? ⟨gb198, 6, none⟩ = some (.int .i64 ((rd_T40 l0 x7_2).f1.f5)) := (blk_cell BK198.out 6).trans rfl
               have hcz118_7 : wc.cell? ⟨gb198, 7, none⟩ = some (.int .i64 ((rd_T40 l0 x7_2).f1.f6)) := (blk_cell BK198.out 7).trans rfl
               have hcz118_8 : wc.cell? ⟨gb198, 8, none⟩ = some (.int .i64 ((rd_T40 l0 x7_2).f1.f7)) := (blk_cell BK198.out 8).trans rfl
               have hcz118_9 : wc.cell? ⟨gb198, 9, none⟩ = some (.int .i64 ((rd_T40 l0 x7_2).f2)) := (blk_cell BK198.out 9).trans rfl
               have hfz118_0 := blk_frozen BK198.out 0
               have hfz118_1 := blk_frozen BK198.out 1
               have hfz118_2 := blk_frozen BK198.out 2
               have hfz118_3 := blk_frozen BK198.out 3
               have hfz118_4 := blk_frozen BK198.out 4
               have hfz118_5 := blk_frozen BK198.out 5
               have hfz118_6 := blk_frozen BK198.out 6
               have hfz118_7 := blk_frozen BK198.out 7
               have hfz118_8 := blk_frozen BK198.out 8
               have hfz118_9 := blk_frozen BK198.out 9
               obtain ⟨Ao119, co119, eo119⟩ := Kd.R_slice HO_9B.out
               subst eo119
               go_wp2_with (first | ((with_reducible refine gate_callee (f := 6) rfl ?_); refine goesL_ (some 53) rfl rfl Try.func6 (by kernel_rfl) rfl #[.agg #[.int .i64 x9A_2, .slice Ao119 x9B_2.length co119], .agg #[.int .i64 ((rd_T40 l0 x7_2).f1.f0), .int .i64 ((rd_T40 l0 x7_2).f1.f1), .int .i64 ((rd_T40 l0 x7_2).f1.f2), .int .i64 ((rd_T40 l0 x7_2).f1.f3), .bool ((rd_T40 l0 x7_2).f1.f4), .int .i64 ((rd_T40 l0 x7_2).f1.f5), .int .i64 ((rd_T40 l0 x7_2).f1.f6), .int .i64 ((rd_T40 l0 x7_2).f1.f7)]] rfl (by (try simp only [List.map_toArray, List.map_cons, List.map_nil]); first | done | rfl | (simp only [List.length_drop, List.length_take]; rfl)) ?_; (with_reducible refine (down_Add.calls kj13 x9A_2 _ _ x9B_2 ((rd_T40 l0 x7_2).f1.f0) ((rd_T40 l0 x7_2).f1.f1) ((rd_T40 l0 x7_2).f1.f2) ((rd_T40 l0 x7_2).f1.f3) ((rd_T40 l0 x7_2).f1.f4) ((rd_T40 l0 x7_2).f1.f5) ((rd_T40 l0 x7_2).f1.f6) ((rd_T40 l0 x7_2).f1.f7) t215 t216 t219 (some q222) _ ?side1 ?side2 A104.out).mono ?_); (case side1 => repeat (first | exact (Kd.R_reads' HO_9B.out).2.2 | (with_reducible refine Kd.C_alloc ?_ _) | (with_reducible refine Kd.C_drewN ?_ _) | (with_reducible refine Kd.C_drew ?_))); (case side2 => exact (Kd.R_reads' HO_9B.out).2.1); rintro e w120 ⟨v217, rfl, ho0, hb⟩; refine ⟨_, rfl, ?_⟩; have n0_ := Aside0.mk (Kd.R_below (by (with_reducible repeat (first | apply Kd.R_alloc | apply Kd.R_drewN | apply Kd.R_drew)); exact HO_4.out) hb); have n1_ := Aside0.mk (Kd.R_elder' (by (with_reducible repeat (first | apply Kd.R_alloc | apply Kd.R_drewN | apply Kd.R_drew)); exact HO_9B.out) (Kd.R_base ho0) hb); have n2_ := Aside0.mk (Kd.R_lower (Kd.R_new' ho0 (Kd.R_lt (by (with_reducible repeat (first | apply Kd.R_alloc | apply Kd.R_drewN | apply Kd.R_drew)); exact HO_9B.out))) (below_size (by repeat (first | (with_reducible first | exact HB.out | apply below_alloc | apply pw_below_drewN | apply below_drew1 | refine below_set ?_ GE192.out | refine below_set ?_ GE198.out) | exact HB.out)))); have n3_ := Aside0.mk (blk_below (g := gb192) (o := .cells #[.int .i64 x9A_2, .slice Ao119 x9B_2.length co119] 25 (0, 0)) (by (with_reducible repeat (first | refine blk_drewN ?_ _ | refine blk_drew ?_ | refine blk_alloc ?_ _)); exact BK192.out) hb); have n4_ := Aside0.mk (blk_below (g := gb198) (o := .cells #[.int .i64 ((rd_T40 l0 x7_2).f0), .int .i64 ((rd_T40 l0 x7_2).f1.f0), .int .i64 ((rd_T40 l0 x7_2).f1.f1), .int .i64 ((rd_T40 l0 x7_2).f1.f2), .int .i64 ((rd_T40 l0 x7_2).f1.f3), .bool ((rd_T40 l0 x7_2).f1.f4), .int .i64 ((rd_T40 l0 x7_2).f1.f5), .int .i64 ((rd_T40 l0 x7_2).f1.f6), .int .i64 ((rd_T40 l0 x7_2).f1.f7), .int .i64 ((rd_T40 l0 x7_2).f2)] 40 (0, 0)) (by (with_reducible repeat (first | refine blk_drewN ?_ _ | refine blk_drew ?_ | refine blk_alloc ?_ _)); exact BK198.out) hb); have n5_ := Aside0.mk (below_step (by repeat (first | (with_reducible first | exact HB.out | apply below_alloc | apply pw_below_drewN | apply below_drew1 | refine below_set ?_ GE192.out | refine below_set ?_ GE198.out) | exact HB.out)) hb); clear HO_4; clear HO_9B; clear BK192; clear BK198; clear HB; have HO_4 := n0_; have HO_9B := n1_; have HO218 := n2_; have BK192 := n3_; have BK198 := n4_; have HB := n5_; clear n0_ n1_ n2_ n3_ n4_ n5_; (try clear hb); (try clear hb2); (try clear hk); (try clear hi); (try clear ho0); (try simp only [errW_none, errW_some])) | ((with_reducible refine gate_dst (N := 13) rfl ?_); refine box_event ?hg (N := 13) ?hd (cs := #[.int .i64 0, .slice none 0 0]) (t := 25) ?hr ?_; (case hd => rfl); (case hg => rfl); (case hr => first | (go_simp; done) | (go_simp; rfl)); intro gb221 hg w121 hbox hb; have n0_ := Aside0.mk (Kd.R_below (by (with_reducible repeat (first | apply Kd.R_alloc | apply Kd.R_drewN | apply Kd.R_drew)); exact HO_4.out) hb); have n1_ := Aside0.mk (Kd.R_below (by (with_reducible repeat (first | apply Kd.R_alloc | apply Kd.R_drewN | apply Kd.R_drew)); exact HO_9B.out) hb); have n2_ := Aside0.mk (Kd.R_below (by (with_reducible repeat (first | apply Kd.R_alloc | apply Kd.R_drewN | apply Kd.R_drew)); exact HO218.out) hb); have n3_ := Aside0.mk (blk_below (g := gb192) (o := .cells #[.int .i64 x9A_2, .slice Ao119 x9B_2.length co119] 25 (0, 0)) (by (with_reducible repeat (first | refine blk_drewN ?_ _ | refine blk_drew ?_ | refine blk_alloc ?_ _)); exact BK192.out) hb); have n4_ := Aside0.mk (blk_below (g := gb198) (o := .cells #[.int .i64 ((rd_T40 l0 x7_2).f0), .int .i64 ((rd_T40 l0 x7_2).f1.f0), .int .i64 ((rd_T40 l0 x7_2).f1.f1), .int .i64 ((rd_T40 l0 x7_2).f1.f2), .int .i64 ((rd_T40 l0 x7_2).f1.f3), .bool ((rd_T40 l0 x7_2).f1.f4), .int .i64 ((rd_T40 l0 x7_2).f1.f5), .int .i64 ((rd_T40 l0 x7_2).f1.f6), .int .i64 ((rd_T40 l0 x7_2).f1.f7), .int .i64 ((rd_T40 l0 x7_2).f2)] 40 (0, 0)) (by (with_reducible repeat (first | refine blk_drewN ?_ _ | refine blk_drew ?_ | refine blk_alloc ?_ _)); exact BK198.out) hb); have n5_ := Aside0.mk (below_step (by repeat (first | (with_reducible first | exact HB.out | apply below_alloc | apply pw_below_drewN | apply below_drew1 | refine below_set ?_ GE192.out | refine below_set ?_ GE198.out) | exact HB.out)) hb); have n6_ := Aside0.mk (hbox); have n7_ := Aside0.mk ((by rw [hg]; exact (below_size (by repeat (first | (with_reducible first | exact HB.out | apply below_alloc | apply pw_below_drewN | apply below_drew1 | refine below_set ?_ GE192.out | refine below_set ?_ GE198.out) | exact HB.out))) : w.heap.size ≤ gb221)); have n8_ := Aside0.mk ((by rw [hg]; exact (below_size (by repeat (first | (with_reducible first | exact HB.out | apply below_alloc | apply pw_below_drewN | apply below_drew1 | refine below_set ?_ GE192.out | refine below_set ?_ GE198.out) | exact HB.out))) : w.heap.size ≤ gb221)); have n9_ := Aside0.mk ((by rw [hg]; exact Nat.ne_of_lt (blk_lt (g := gb192) (o := .cells #[.int .i64 x9A_2, .slice Ao119 x9B_2.length co119] 25 (0, 0)) (by (with_reducible repeat (first | refine blk_drewN ?_ _ | refine blk_drew ?_ | refine blk_alloc ?_ _)); exact BK192.out)) : gb192 ≠ gb221)); have n10_ := Aside0.mk ((by rw [hg]; exact Nat.ne_of_gt (blk_lt (g := gb192) (o := .cells #[.int .i64 x9A_2, .slice Ao119 x9B_2.length co119] 25 (0, 0)) (by (with_reducible repeat (first | refine blk_drewN ?_ _ | refine blk_drew ?_ | refine blk_alloc ?_ _)); exact BK192.out)) : gb221 ≠ gb192)); have n11_ := Aside0.mk ((by rw [hg]; exact Nat.ne_of_lt (blk_lt (g := gb198) (o := .cells #[.int .i64 ((rd_T40 l0 x7_2).f0), .int .i64 ((rd_T40 l0 x7_2).f1.f0), .int .i64 ((rd_T40 l0 x7_2).f1.f1), .int .i64 ((rd_T40 l0 x7_2).f1.f2), .int .i64 ((rd_T40 l0 x7_2).f1.f3), .bool ((rd_T40 l0 x7_2).f1.f4), .int .i64 ((rd_T40 l0 x7_2).f1.f5), .int .i64 ((rd_T40 l0 x7_2).f1.f6), .int .i64 ((rd_T40 l0 x7_2).f1.f7), .int .i64 ((rd_T40 l0 x7_2).f2)] 40 (0, 0)) (by (with_reducible repeat (first | refine blk_drewN ?_ _ | refine blk_drew ?_ | refine blk_alloc ?_ _)); exact BK198.out)) : gb198 ≠ gb221)); have n12_ := Aside0.mk ((by rw [hg]; exact Nat.ne_of_gt (blk_lt (g := gb198) (o := .cells #[.int .i64 ((rd_T40 l0 x7_2).f0), .int .i64 ((rd_T40 l0 x7_2).f1.f0), .int .i64 ((rd_T40 l0 x7_2).f1.f1), .int .i64 ((rd_T40 l0 x7_2).f1.f2), .int .i64 ((rd_T40 l0 x7_2).f1.f3), .bool ((rd_T40 l0 x7_2).f1.f4), .int .i64 ((rd_T40 l0 x7_2).f1.f5), .int .i64 ((rd_T40 l0 x7_2).f1.f6), .int .i64 ((rd_T40 l0 x7_2).f1.f7), .int .i64 ((rd_T40 l0 x7_2).f2)] 40 (0, 0)) (by (with_reducible repeat (first | refine blk_drewN ?_ _ | refine blk_drew ?_ | refine blk_alloc ?_ _)); exact BK198.out)) : gb221 ≠ gb198)); clear HO_4; clear HO_9B; clear HO218; clear BK192; clear BK198; clear HB; have HO_4 := n0_; have HO_9B := n1_; have HO218 := n2_; have BK192 := n3_; have BK198 := n4_; have HB := n5_; have BK221 := n6_; have GW221 := n7_; have GE221 := n8_; have NB192_221 := n9_; have NB221_192 := n10_; have NB198_221 := n11_; have NB221_198 := n12_; clear n0_ n1_ n2_ n3_ n4_ n5_ n6_ n7_ n8_ n9_ n10_ n11_ n12_; clear hb hbox hg; have hnb122 := NB221_192.out; have hnc122 := NB192_221.out; have hnb123 := NB221_198.out; have hnc123 := NB198_221.out; have hcz124_0 : w121.cell? ⟨gb221, 0, none⟩ = some (.int .i64 0) := (blk_cell BK221.out 0).trans rfl; have hcz124_1 : w121.cell? ⟨gb221, 1, none⟩ = some (.slice none 0 0) := (blk_cell BK221.out 1).trans rfl; have hfz124_0 := blk_frozen BK221.out 0; have hfz124_1 := blk_frozen BK221.out 1; obtain ⟨Ao125, co125, eo125⟩ := Kd.R_slice HO218.out; subst eo125))
               go_meet
               case rel => exact ⟨_, (x9A_2), (x9B_2), (.slice Ao119 x9B_2.length co119), H', ⟨by have := HK1.out; have := HK2.out; have := HJ13.out; first | omega | exact Nat.le_refl _⟩, ⟨by (with_reducible repeat (first | apply Kd.R_alloc | apply Kd.R_drewN | apply Kd.R_drew)); exact Kd.R_mono (Kd.R_far (p := ⟨gb221, 1, none⟩) (Kd.R_far (p := ⟨gb221, 0, none⟩) (Kd.R_types HO_4.out BK221.out (by decide)) (fun _ hk => hk.2) (.int .i64 t215)) (fun _ hk => hk.2) (.slice Ao125 t216.length co125)) (fun _ hk => trivial)⟩, ⟨by (with_reducible repeat (first | apply Kd.R_alloc | apply Kd.R_drewN | apply Kd.R_drew)); exact Kd.R_mono (Kd.R_far (p := ⟨gb221, 1, none⟩) (Kd.R_far (p := ⟨gb221, 0, none⟩) (Kd.R_types HO_9B.out BK221.out (by decide)) (fun _ hk => hk.2) (.int .i64 t215)) (fun _ hk => hk.2) (.slice Ao125 t216.length co125)) (fun _ hk => trivial)⟩, ⟨by (with_reducible repeat (first | refine blk_drewN ?_ _ | refine blk_drew ?_ | refine blk_alloc ?_ _)); refine blk_far ?_ NB192_221.out _; (with_reducible repeat (first | refine blk_drewN ?_ _ | refine blk_drew ?_ | refine blk_alloc ?_ _)); refine blk_far ?_ NB192_221.out _; (with_reducible repeat (first | refine blk_drewN ?_ _ | refine blk_drew ?_ | refine blk_alloc ?_ _)); exact BK192.out⟩, ⟨by (with_reducible repeat (first | refine blk_drewN ?_ _ | refine blk_drew ?_ | refine blk_alloc ?_ _)); refine blk_far ?_ NB198_221.out _; (with_reducible repeat (first | refine blk_drewN ?_ _ | refine blk_drew ?_ | refine blk_alloc ?_ _)); refine blk_far ?_ NB198_221.out _; (with_reducible repeat (first | refine blk_drewN ?_ _ | refine blk_drew ?_ | refine blk_alloc ?_ _)); exact BK198.out⟩, ⟨by repeat (first | (with_reducible first | exact HB.out | apply below_alloc | apply pw_below_drewN | apply below_drew1 | refine below_set ?_ GE192.out | refine below_set ?_ GE198.out | refine below_set ?_ GE221.out) | exact HB.out)⟩⟩
         case rest =>
          clear HC10
          try clear c1
          try clear c2
          try clear p2
          try clear q2
          try clear c6
          try clear p6
          try clear c7
          try clear c8
          try clear c9
          try clear c10
          try clear c11
          try clear c12
          try clear q22
          try clear c25
          try clear c25b0
          try clear c25b1
          try clear p64
          try clear c73
          try clear c73b0
          try clear c79
          try clear c79b0
          try clear c79b1
          try clear c83
          try clear c83b0
          try clear c83b1
          try clear c83b2
          try clear c84
          try clear c84b0
          try clear c87
          try clear c87b0
          try clear c87b1
          try clear c87b2
          try clear c88
          try clear c88b0
          try clear c92
          try clear c92b0
          try clear c92b1
          try clear c92b2
          try clear c93
          try clear c94
          try clear c95
          try clear c97
          try clear c98
          try clear c105
          try clear c111
          try clear c112
          try clear c116
          try clear c122
          try clear c123
          try clear hcz106_0
          try clear hcz106_1
          try clear hcz107_0
          try clear hcz107_1
          try clear hcz107_2
          try clear hcz107_3
          try clear hcz107_4
          try clear hcz107_5
          try clear hcz107_6
          try clear hcz107_7
          try clear hcz107_8
          try clear hcz107_9
          try clear hcz113_0
          try clear hcz113_1
          try clear hcz115_0
          try clear hcz115_1
          try clear hcz117_0
          try clear hcz117_1
          try clear hcz118_0
          try clear hcz118_1
          try clear hcz118_2
          try clear hcz118_3
          try clear hcz118_4
          try clear hcz118_5
          try clear hcz118_6
          try clear hcz118_7
          try clear hcz118_8
          try clear hcz118_9
          try clear hcz124_0
          try clear hcz124_1
          try clear hcz96_0
          try clear hcz96_1
          try clear hcz99_0
          try clear hcz99_1
          try clear hfz106_0
          try clear hfz106_1
          try clear hfz107_0
          try clear hfz107_1
          try clear hfz107_2
          try clear hfz107_3
          try clear hfz107_4
          try clear hfz107_5
          try clear hfz107_6
          try clear hfz107_7
          try clear hfz107_8
          try clear hfz107_9
          try clear hfz113_0
          try clear hfz113_1
          try clear hfz115_0
          try clear hfz115_1
          try clear hfz117_0
          try clear hfz117_1
          try clear hfz118_0
          try clear hfz118_1
          try clear hfz118_2
          try clear hfz118_3
          try clear hfz118_4
          try clear hfz118_5
          try clear hfz118_6
          try clear hfz118_7
          try clear hfz118_8
          try clear hfz118_9
          try clear hfz124_0
          try clear hfz124_1
          try clear hfz96_0
          try clear hfz96_1
          try clear hfz99_0
          try clear hfz99_1
          try clear q222
          obtain ⟨kq, x9A_9, x9B_9, u9B, HA, HJ9, HO_4, HO_9B, BK192, BK198, HB⟩ := hcut
          cases kq with
          | zero => exact absurd HA.out (by simp [lawDO.j5])
          | succ kj9 =>
           have H := HA.out
           clear HA
           simp only [lawDO.j5] at H
           replace H := Option.bind_eq_some_iff.mp H
           obtain ⟨t223, A1260, H⟩ := H
           replace H : (if t223.isNone = true then (lawDO.l4 kj9 l0 x4_2 ji9 x7_2 0 x9A_9 x9B_9) else (none)) = some r := H
           have A126 := Aside0.mk A1260
           clear A1260
           rcases t223 with _ | q224
           ·have H1 : (lawDO.l4 kj9 l0 x4_2 ji9 x7_2 0 x9A_9 x9B_9) = some r := by rw [if_pos (show (none : Option Int).isNone = true by rfl)] at H; exact H
            clear H
            have H := H1
            clear H1
            try simp only [errW_none, errW_some]
            have H' := Aside0.mk H
            clear H
            have hnb127 := NB192_198.out
            have hnc127 := NB198_192.out
            have hcz128_0 : wc.cell? ⟨gb192, 0, none⟩ = some (.int .i64 x9A_9) := (blk_cell BK192.out 0).trans rfl
            have hcz128_1 : wc.cell? ⟨gb192, 1, none⟩ = some (u9B) := (blk_cell BK192.out 1).trans rfl
            have hfz128_0 := blk_frozen BK192.out 0
            have hfz128_1 := blk_frozen BK192.out 1
            obtain ⟨Ao129, co129, eo129⟩ := Kd.R_slice HO_9B.out
            subst eo129
            go_wp2_with (first | ((with_reducible refine gate_callee (f := 11) rfl ?_); refine goesL_ (some 107) rfl rfl Try.func11 (by kernel_rfl) rfl #[.agg #[.int .i64 x9A_9, .slice Ao129 x9B_9.length co129]] rfl (by (try simp only [List.map_toArray, List.map_cons, List.map_nil]); first | done | rfl | (simp only [List.length_drop, List.length_take]; rfl)) ?_; (with_reducible refine (down_Check.calls kj9 x9A_9 _ _ x9B_9 none _ ?side1 ?side2 A126.out).mono ?_); (case side1 => repeat (first | exact (Kd.R_reads' HO_9B.out).2.2 | (with_reducible refine Kd.C_alloc ?_ _) | (with_reducible refine Kd.C_drewN ?_ _) | (with_reducible refine Kd.C_drew ?_))); (case side2 => exact (Kd.R_reads' HO_9B.out).2.1); rintro e w130 ⟨rfl, hb⟩; refine ⟨_, rfl, ?_⟩; have n0_ := Aside0.mk (Kd.R_below (by (with_reducible repeat (first | apply Kd.R_alloc | apply Kd.R_drewN | apply Kd.R_drew)); exact HO_4.out) hb); have n1_ := Aside0.mk (Kd.R_below (by (with_reducible repeat (first | apply Kd.R_alloc | apply Kd.R_drewN | apply Kd.R_drew)); exact HO_9B.out) hb); have n2_ := Aside0.mk (blk_below (g := gb192) (o := .cells #[.int .i64 x9A_9, .slice Ao129 x9B_9.length co129] 25 (0, 0)) (by (with_reducible repeat (first | refine blk_drewN ?_ _ | refine blk_drew ?_ | refine blk_alloc ?_ _)); exact BK192.out) hb); have n3_ := Aside0.mk (blk_below (g := gb198) (o := .cells #[.int .i64 ((rd_T40 l0 x7_2).f0), .int .i64 ((rd_T40 l0 x7_2).f1.f0), .int .i64 ((rd_T40 l0 x7_2).f1.f1), .int .i64 ((rd_T40 l0 x7_2).f1.f2), .int .i64 ((rd_T40 l0 x7_2).f1.f3), .bool ((rd_T40 l0 x7_2).f1.f4), .int .i64 ((rd_T40 l0 x7_2).f1.f5), .int .i64 ((rd_T40 l0 x7_2).f1.f6), .int .i64 ((rd_T40 l0 x7_2).f1.f7), .int .i64 ((rd_T40 l0 x7_2).f2)] 40 (0, 0)) (by (with_reducible repeat (first | refine blk_drewN ?_ _ | refine blk_drew ?_ | refine blk_alloc ?_ _)); exact BK198.out) hb); have n4_ := Aside0.mk (below_step (by repeat (first | (with_reducible first | exact HB.out | apply below_alloc | apply pw_below_drewN | apply below_drew1 | refine below_set ?_ GE192.out | refine below_set ?_ GE198.out) | exact HB.out)) hb); clear HO_4; clear HO_9B; clear BK192; clear BK198; clear HB; have HO_4 := n0_; have HO_9B := n1_; have BK192 := n2_; have BK198 := n3_; have HB := n4_; clear n0_ n1_ n2_ n3_ n4_; (try clear hb); (try clear hb2); (try clear hk); (try clear hi); (try simp only [errW_none, errW_some])))
            go_loopg [16] kj9 (fun kq v16 w' => ∃ (x4_4 : List Int) (x16_4 : Int), v16 = .int .i64 x16_4 ∧ Aside0 (lawDO.l4 kq l0 x4_4 ji9 x7_2 x16_4 x9A_9 x9B_9 = some r) ∧ Aside0 (kq ≤ kj9) ∧ Aside0 (Kd.R (Kd.int .i64) 3 w' w.heap.size (fun _ => True) u4 x4_4) ∧ Aside0 (Kd.R k31 31 w' w.heap.size (fun _ => True) (.slice Ao129 x9B_9.length co129) x9B_9) ∧ Aside0 (w'.heap[gb192]? = some (.cells #[.int .i64 x9A_9, (.slice Ao129 x9B_9.length co129)] 25 (0, 0))) ∧ Aside0 (w'.heap[gb198]? = some (.cells #[.int .i64 ((rd_T40 l0 x7_2).f0), .int .i64 ((rd_T40 l0 x7_2).f1.f0), .int .i64 ((rd_T40 l0 x7_2).f1.f1), .int .i64 ((rd_T40 l0 x7_2).f1.f2), .int .i64 ((rd_T40 l0 x7_2).f1.f3), .bool ((rd_T40 l0 x7_2).f1.f4), .int .i64 ((rd_T40 l0 x7_2).f1.f5), .int .i64 ((rd_T40 l0 x7_2).f1.f6), .int .i64 ((rd_T40 l0 x7_2).f1.f7), .int .i64 ((rd_T40 l0 x7_2).f2)] 40 (0, 0))) ∧ Aside0 (Below w.heap.size w w'))
            case atStart => exact ⟨(x4_2), (0), (by first | rfl | (simp; done) | (simp [*]; done) | (simp; unfold wrap64; omega)), H', ⟨Nat.le_refl _⟩, ⟨by (with_reducible repeat (first | apply Kd.R_alloc | apply Kd.R_drewN | apply Kd.R_drew)); exact HO_4.out⟩, ⟨by (with_reducible repeat (first | apply Kd.R_alloc | apply Kd.R_drewN | apply Kd.R_drew)); exact HO_9B.out⟩, ⟨by (with_reducible repeat (first | refine blk_drewN ?_ _ | refine blk_drew ?_ | refine blk_alloc ?_ _)); exact BK192.out⟩, ⟨by (with_reducible repeat (first | refine blk_drewN ?_ _ | refine blk_drew ?_ | refine blk_alloc ?_ _)); exact BK198.out⟩, ⟨by repeat (first | (with_reducible first | exact HB.out | apply below_alloc | apply pw_below_drewN | apply below_drew1 | refine below_set ?_ GE192.out | refine below_set ?_ GE198.out) | exact HB.out)⟩⟩
            case round =>
             clear H'
             try clear c1
             try clear c2
             try clear p2
             try clear q2
             try clear c6
             try clear p6
             try clear c7
             try clear c8
             try clear c9
             try clear c10
             try clear c11
             try clear c12
             try clear q22
             try clear c25
             try clear c25b0
             try clear c25b1
             try clear p64
             try clear c73
             try clear c73b0
             try clear c79
             try clear c79b0
             try clear c79b1
             try clear c83
             try clear c83b0
             try clear c83b1
             try clear c83b2
             try clear c84
             try clear c84b0
             try clear c87
             try clear c87b0
             try clear c87b1
             try clear c87b2
             try clear c88
             try clear c88b0
             try clear c92
             try clear c92b0
             try clear c92b1
             try clear c92b2
             try clear c93
             try clear c94
             try clear c95
             try clear c97
             try clear c98
             try clear c105
             try clear c111
             try clear c112
             try clear c116
             try clear c122
             try clear c123
             try clear c127
             try clear hcz106_0
             try clear hcz106_1
             try clear hcz107_0
             try clear hcz107_1
             try clear hcz107_2
             try clear hcz107_3
             try clear hcz107_4
             try clear hcz107_5
             try clear hcz107_6
             try clear hcz107_7
             try clear hcz107_8
             try clear hcz107_9
             try clear hcz113_0
             try clear hcz113_1
             try clear hcz115_0
             try clear hcz115_1
             try clear hcz117_0
             try clear hcz117_1
             try clear hcz118_0
             try clear hcz118_1
             try clear hcz118_2
             try clear hcz118_3
             try clear hcz118_4
             try clear hcz118_5
             try clear hcz118_6
             try clear hcz118_7
             try clear hcz118_8
             try clear hcz118_9
             try clear hcz124_0
             try clear hcz124_1
             try clear hcz128_0
             try clear hcz128_1
             try clear hcz96_0
             try clear hcz96_1
             try clear hcz99_0
             try clear hcz99_1
             try clear hfz106_0
             try clear hfz106_1
             try clear hfz107_0
             try clear hfz107_1
             try clear hfz107_2
             try clear hfz107_3
             try clear hfz107_4
             try clear hfz107_5
             try clear hfz107_6
             try clear hfz107_7
             try clear hfz107_8
             try clear hfz107_9
             try clear hfz113_0
             try clear hfz113_1
             try clear hfz115_0
             try clear hfz115_1
             try clear hfz117_0
             try clear hfz117_1
             try clear hfz118_0
             try clear hfz118_1
             try clear hfz118_2
             try clear hfz118_3
             try clear hfz118_4
             try clear hfz118_5
             try clear hfz118_6
             try clear hfz118_7
             try clear hfz118_8
             try clear hfz118_9
             try clear hfz124_0
             try clear hfz124_1
             try clear hfz128_0
             try clear hfz128_1
             try clear hfz96_0
             try clear hfz96_1
             try clear hfz99_0
             try clear hfz99_1
             try clear p2
             try clear p6
             try clear p64
             try clear q2
             try clear q22
             try clear q222
             try clear q224
             obtain ⟨x4_4, x16_4, rfl, HA, HK4, HO_4, HO_9B, BK192, BK198, HB⟩ := hrel
             cases gk with
             | zero => exact absurd HA.out (by simp [lawDO.l4])
             | succ k4 =>
              have H := HA.out
              clear HA
              simp only [lawDO.l4] at H
              by_cases c131 : x16_4 < (x9B_9.length : Int)
              ·rw [if_pos c131] at H
               have c131b0 : decide (x16_4 < (x9B_9.length : Int)) = true := decide_eq_true c131
               clear c131
               by_cases c132 : 0 ≤ x16_4
               ·rw [if_pos c132] at H
                have c132b0 : decide (0 ≤ x16_4) = true := decide_eq_true c132
                clear c132
                by_cases c133 : ((rd_T31 x9B_9 x16_4).f0) < 1
                ·rw [if_pos c133] at H
                 exact absurd H (by simp)
                ·rw [if_neg c133] at H
                 have c133b0 : decide (((rd_T31 x9B_9 x16_4).f0) < 1) = false := decide_eq_false c133
                 clear c133
                 by_cases c134 : ((rd_T31 x9B_9 x16_4).f0) > 65
                 ·rw [if_pos c134] at H
                  exact absurd H (by simp)
                 ·rw [if_neg c134] at H
                  have c134b0 : decide (65 < ((rd_T31 x9B_9 x16_4).f0)) = false := decide_eq_false c134
                  clear c134
                  by_cases c135 : 0 ≤ ((rd_T31 x9B_9 x16_4).f0)
                  ·rw [if_pos c135] at H
                   have c135b0 : decide (0 ≤ ((rd_T31 x9B_9 x16_4).f0)) = true := decide_eq_true c135
                   clear c135
                   by_cases c136 : ((rd_T31 x9B_9 x16_4).f0) < (x4_4.length : Int)
                   ·rw [if_pos c136] at H
                    have c136b0 : decide (((rd_T31 x9B_9 x16_4).f0) < (x4_4.length : Int)) = true := decide_eq_true c136
                    clear c136
                    by_cases c137 : (rd x4_4 ((rd_T31 x9B_9 x16_4).f0)) ≥ 0
                    ·rw [if_pos c137] at H
                     have c137b0 : decide (0 ≤ (rd x4_4 ((rd_T31 x9B_9 x16_4).f0))) = true := decide_eq_true c137
                     clear c137
                     by_cases c138 : ((rd_T31 x9B_9 x16_4).f7) = (rd x4_4 ((rd_T31 x9B_9 x16_4).f0))
                     ·rw [if_pos c138] at H
                      have c138b0 : (((rd_T31 x9B_9 x16_4).f7) == (rd x4_4 ((rd_T31 x9B_9 x16_4).f0))) = true := beq_iff_eq.mpr c138
                      have c138b1 : (((rd_T31 x9B_9 x16_4).f7) != (rd x4_4 ((rd_T31 x9B_9 x16_4).f0))) = false := bne_eq_false_iff_eq.mpr c138
                      clear c138
                      obtain ⟨y230, hy230⟩ : ∃ y_ : List Int, y_ = (x4_4.set (((rd_T31 x9B_9 x16_4).f0) : Int).toNat ((rd_T31 x9B_9 x16_4).f7)) := ⟨_, rfl⟩
                      replace H : (lawDO.l4 k4 l0 y230 ji9 x7_2 (wrap64 (x16_4 + 1)) x9A_9 x9B_9) = some r := by first | (rw [hy230]; with_reducible exact H) | (have H2_ := (Option.bind_some _ _).symm.trans H; rw [hy230]; with_reducible exact H2_) | (have H2_ := (Option.bind_some _ _).symm.trans H; with_reducible exact H2_) | with_reducible exact H | (rw [hy230]; exact H) | exact H
                      have Ny230 := Aside0.mk hy230
                      clear hy230
                      have H' := Aside0.mk H
                      clear H
                      have hnb140 := NB192_198.out
                      have hnc140 := NB198_192.out
                      have hcz141_0 : wr.cell? ⟨gb192, 0, none⟩ = some (.int .i64 x9A_9) := (blk_cell BK192.out 0).trans rfl
                      have hcz141_1 : wr.cell? ⟨gb192, 1, none⟩ = some (.slice Ao129 x9B_9.length co129) := (blk_cell BK192.out 1).trans rfl
                      have hfz141_0 := blk_frozen BK192.out 0
                      have hfz141_1 := blk_frozen BK192.out 1
                      have p225 : 0 ≤ (x16_4 : Int) := of_decide_eq_true (by first | (with_reducible assumption) | assumption)
                      have q225 : x16_4 < (x9B_9.length : Int) := of_decide_eq_true (by first | (with_reducible assumption) | assumption)
                      obtain ⟨ad225, e225, hx225_0, hx225_1, hx225_2, hx225_3, hx225_4, hx225_5, hx225_6, hx225_7⟩ := at_T31 (Kd.R_reads' HO_9B.out).2.2 x16_4 p225 q225
                      cases e225
                      replace p225 := eq_true p225
                      replace q225 := eq_true q225
                      try go_wp2
                      have n0_ := Aside0.mk (Kd.R_drew HO_4.out)
                      have n1_ := Aside0.mk (Kd.R_drew HO_9B.out)
                      have n2_ := Aside0.mk (blk_drew BK192.out)
                      have n3_ := Aside0.mk (blk_drew BK198.out)
                      have n4_ := Aside0.mk (below_drew1 HB.out)
                      clear HO_4
                      clear HO_9B
                      clear BK192
                      clear BK198
                      clear HB
                      have HO_4 := n0_
                      have HO_9B := n1_
                      have BK192 := n2_
                      have BK198 := n3_
                      have HB := n4_
                      clear n0_ n1_ n2_ n3_ n4_
                      obtain ⟨Ao143, co143, eo143⟩ := Kd.R_slice HO_4.out
                      (first | subst eo143 | (injection eo143 with f1_ f2_ f3_; have f4_ := f1_.symm; have f5_ := f3_.symm; clear f1_ f2_ f3_; subst f4_; subst f5_))
                      have p226 : 0 ≤ (((rd_T31 x9B_9 x16_4).f0) : Int) := of_decide_eq_true (by first | (with_reducible assumption) | assumption)
                      have q226 : ((rd_T31 x9B_9 x16_4).f0) < (x4_4.length : Int) := of_decide_eq_true (by first | (with_reducible assumption) | assumption)
                      obtain ⟨ad226, e226, hx226_0⟩ := Kd.at_int (Kd.R_reads' HO_4.out).2.2 ((rd_T31 x9B_9 x16_4).f0) p226 q226
                      cases e226
                      replace p226 := eq_true p226
                      replace q226 := eq_true q226
                      have p227 : 0 ≤ (x16_4 : Int) := of_decide_eq_true (by first | (with_reducible assumption) | assumption)
                      have q227 : x16_4 < (x9B_9.length : Int) := of_decide_eq_true (by first | (with_reducible assumption) | assumption)
                      obtain ⟨ad227, e227, hx227_0, hx227_1, hx227_2, hx227_3, hx227_4, hx227_5, hx227_6, hx227_7⟩ := at_T31 (Kd.R_reads' HO_9B.out).2.2 x16_4 p227 q227
                      obtain rfl : ad225 = ad227 := (by injection e227)
                      replace p227 := eq_true p227
                      replace q227 := eq_true q227
                      have p228 : 0 ≤ (((rd_T31 x9B_9 x16_4).f0) : Int) := of_decide_eq_true (by first | (with_reducible assumption) | assumption)
                      have q228 : ((rd_T31 x9B_9 x16_4).f0) < (x4_4.length : Int) := of_decide_eq_true (by first | (with_reducible assumption) | assumption)
                      obtain ⟨ad228, e228, hx228_0⟩ := Kd.at_int (Kd.R_reads' HO_4.out).2.2 ((rd_T31 x9B_9 x16_4).f0) p228 q228
                      obtain rfl : ad226 = ad228 := (by injection e228)
                      replace p228 := eq_true p228
                      replace q228 := eq_true q228
                      refine start_ (n := 18) (S := fun w' => w'.cell? ⟨gb192, 0, none⟩ = some (.int .i64 x9A_9) ∧ w'.cell? ⟨gb192, 1, none⟩ = some (.slice (some ad225) x9B_9.length co129) ∧ w'.cell? (ad226.add (((rd_T31 x9B_9 x16_4).f0)).toNat) = some (.int .i64 (rd x4_4 ((rd_T31 x9B_9 x16_4).f0))) ∧ w'.cell? (ad225.add ((x16_4).toNat * 8)) = some (.int .i64 ((rd_T31 x9B_9 x16_4).f0)) ∧ w'.cell? ⟨(ad225.add ((x16_4).toNat * 8)).block, (ad225.add ((x16_4).toNat * 8)).off + 1, none⟩ = some (.int .i64 ((rd_T31 x9B_9 x16_4).f1)) ∧ w'.cell? ⟨(ad225.add ((x16_4).toNat * 8)).block, (ad225.add ((x16_4).toNat * 8)).off + 2, none⟩ = some (.int .i64 ((rd_T31 x9B_9 x16_4).f2)) ∧ w'.cell? ⟨(ad225.add ((x16_4).toNat * 8)).block, (ad225.add ((x16_4).toNat * 8)).off + 3, none⟩ = some (.int .i64 ((rd_T31 x9B_9 x16_4).f3)) ∧ w'.cell? ⟨(ad225.add ((x16_4).toNat * 8)).block, (ad225.add ((x16_4).toNat * 8)).off + 4, none⟩ = some (.bool ((rd_T31 x9B_9 x16_4).f4)) ∧ w'.cell? ⟨(ad225.add ((x16_4).toNat * 8)).block, (ad225.add ((x16_4).toNat * 8)).off + 5, none⟩ = some (.int .i64 ((rd_T31 x9B_9 x16_4).f5)) ∧ w'.cell? ⟨(ad225.add ((x16_4).toNat * 8)).block, (ad225.add ((x16_4).toNat * 8)).off + 6, none⟩ = some (.int .i64 ((rd_T31 x9B_9 x16_4).f6)) ∧ w'.cell? ⟨(ad225.add ((x16_4).toNat * 8)).block, (ad225.add ((x16_4).toNat * 8)).off + 7, none⟩ = some (.int .i64 ((rd_T31 x9B_9 x16_4).f7)) ∧ w'.cell? (ad226.add (((rd_T31 x9B_9 x16_4).f0)).toNat) = some (.int .i64 (rd x4_4 ((rd_T31 x9B_9 x16_4).f0)))) (ds := []) #[false, false, false, false, false, false, false, false, false, false, false, false, false, false, false, false, false, false] (by kernel_rfl) rfl rfl ⟨(blk_cell BK192.out 0).trans rfl, (blk_cell BK192.out 1).trans rfl, hx226_0, hx227_0, hx227_1, hx227_2, hx227_3, hx227_4, hx227_5, hx227_6, hx227_7, hx228_0⟩ (fun hHeld => ?_); refine with_tabW lawDO.tab43 lawDO.bits43 (fun HT_ HW_ => ?_)
                      generalize wr.drew = w142 at HO_4 HO_9B BK192 BK198 HB hx226_0 hx227_0 hx227_1 hx227_2 hx227_3 hx227_4 hx227_5 hx227_6 hx227_7 hx228_0 hHeld ⊢
                      refine pure_ (i := 0) (N := some 128) (v := ?_) (a' := ?_) #[true, false, false, false, false, false, false, false, false, false, false, false, false, false, false, false, false, false] rfl rfl (any_of HT_.out (by kernel_rfl)) (fun _ _ _ h => h) (Or.inl ⟨by rfl, ?_⟩) ?_ ?_
                      rotate_left
                      ·intro w'
                       go_simp
                       with_reducible rfl
                      rotate_left
                      ·simp only [Act.put, List.setIfInBounds_toArray, List.set_cons_zero, List.set_cons_succ, i64_w, i32_w]
                       rfl
                      refine pure_ (i := 1) (N := some 129) (v := ?_) (a' := ?_) #[true, true, false, false, false, false, false, false, false, false, false, false, false, false, false, false, false, false] rfl rfl (any_of HT_.out (by kernel_rfl)) (fun _ _ _ h => h) (Or.inl ⟨by rfl, ?_⟩) ?_ ?_
                      rotate_left
                      ·intro w'
                       go_simp
                       with_reducible rfl
                      rotate_left
                      ·simp only [Act.put, List.setIfInBounds_toArray, List.set_cons_zero, List.set_cons_succ, i64_w, i32_w]
                       rfl
                      refine pure_ (i := 2) (N := some 130) (v := ?_) (a' := ?_) #[true, true, true, false, false, false, false, false, false, false, false, false, false, false, false, false, false, false] rfl rfl (any_of HT_.out (by kernel_rfl)) (fun _ _ _ h => h) (Or.inl ⟨by rfl, ?_⟩) ?_ ?_
                      rotate_left
                      ·intro w'
                       go_simp
                       with_reducible rfl
                      rotate_left
                      ·simp only [Act.put, List.setIfInBounds_toArray, List.set_cons_zero, List.set_cons_succ, i64_w, i32_w]
                       rfl
                      refine take_ (i := 3) (N := some 131) (v := ?_) (a' := ?_) #[true, true, true, true, false, false, false, false, false, false, false, false, false, false, false, false, false, false] rfl rfl (take_ofW HT_.out HW_.out (by kernel_rfl)) (fun _ _ _ h => h) (Or.inl ⟨by rfl, ?_⟩) hHeld ?_ ?_
                      rotate_left
                      ·rintro w' ⟨s0, s1, s2, s3, s4, s5, s6, s7, s8, s9, s10, s11⟩
                       go_simp
                       with_reducible rfl
                      rotate_left
                      ·simp only [Act.put, List.setIfInBounds_toArray, List.set_cons_zero, List.set_cons_succ, i64_w, i32_w]
                       rfl
                      refine pure_ (i := 4) (N := some 132) (v := ?_) (a' := ?_) #[true, true, true, true, true, false, false, false, false, false, false, false, false, false, false, false, false, false] rfl rfl (any_of HT_.out (by kernel_rfl)) (fun _ _ _ h => h) (Or.inl ⟨by rfl, ?_⟩) ?_ ?_
                      rotate_left
                      ·intro w'
                       go_simp
                       with_reducible rfl
                      rotate_left
                      ·simp only [Act.put, List.setIfInBounds_toArray, List.set_cons_zero, List.set_cons_succ, i64_w, i32_w]
                       rfl
                      refine pure_ (i := 5) (N := some 133) (v := ?_) (a' := ?_) #[true, true, true, true, true, true, false, false, false, false, false, false, false, false, false, false, false, false] rfl rfl (any_of HT_.out (by kernel_rfl)) (fun _ _ _ h => h) (Or.inl ⟨by rfl, ?_⟩) ?_ ?_
                      rotate_left
                      ·intro w'
                       go_simp
                       with_reducible rfl
                      rotate_left
                      ·simp only [Act.put, List.setIfInBounds_toArray, List.set_cons_zero, List.set_cons_succ, i64_w, i32_w]
                       rfl
                      refine pure_ (i := 6) (N := some 134) (v := ?_) (a' := ?_) #[true, true, true, true, true, true, true, false, false, false, false, false, false, false, false, false, false, false] rfl rfl (any_of HT_.out (by kernel_rfl)) (fun _ _ _ h => h) (Or.inl ⟨by rfl, ?_⟩) ?_ ?_
                      rotate_left
                      ·intro w'
                       go_simp
                       with_reducible rfl
                      rotate_left
                      ·simp only [Act.put, List.setIfInBounds_toArray, List.set_cons_zero, List.set_cons_succ, i64_w, i32_w]
                       rfl
                      refine pure_ (i := 8) (N := some 136) (v := ?_) (a' := ?_) #[true, true, true, true, true, true, true, false, true, false, false, false, false, false, false, false, false, false] rfl rfl (any_of HT_.out (by kernel_rfl)) (fun _ _ _ h => h) (Or.inl ⟨by rfl, ?_⟩) ?_ ?_
                      rotate_left
                      ·intro w'
                       go_simp
                       with_reducible rfl
                      rotate_left
                      ·simp only [Act.put, List.setIfInBounds_toArray, List.set_cons_zero, List.set_cons_succ, i64_w, i32_w]
                       rfl
                      refine pure_ (i := 12) (N := some 140) (v := ?_) (a' := ?_) #[true, true, true, true, true, true, true, false, true, false, false, false, true, false, false, false, false, false] rfl rfl (any_of HT_.out (by kernel_rfl)) (fun _ _ _ h => h) (Or.inl ⟨by rfl, ?_⟩) ?_ ?_
                      rotate_left
                      ·intro w'
                       go_simp
                       with_reducible rfl
                      rotate_left
                      ·simp only [Act.put, List.setIfInBounds_toArray, List.set_cons_zero, List.set_cons_succ, i64_w, i32_w]
                       rfl
                      refine pure_ (i := 13) (N := some 141) (v := ?_) (a' := ?_) #[true, true, true, true, true, true, true, false, true, false, false, false, true, true, false, false, false, false] rfl rfl (any_of HT_.out (by kernel_rfl)) (fun _ _ _ h => h) (Or.inl ⟨by rfl, ?_⟩) ?_ ?_
                      rotate_left
                      ·intro w'
                       go_simp
                       with_reducible rfl
                      rotate_left
                      ·simp only [Act.put, List.setIfInBounds_toArray, List.set_cons_zero, List.set_cons_succ, i64_w, i32_w]
                       rfl
                      refine pure_ (i := 14) (N := some 142) (v := ?_) (a' := ?_) #[true, true, true, true, true, true, true, false, true, false, false, false, true, true, true, false, false, false] rfl rfl (any_of HT_.out (by kernel_rfl)) (fun _ _ _ h => h) (Or.inl ⟨by rfl, ?_⟩) ?_ ?_
                      rotate_left
                      ·intro w'
                       go_simp
                       with_reducible rfl
                      rotate_left
                      ·simp only [Act.put, List.setIfInBounds_toArray, List.set_cons_zero, List.set_cons_succ, i64_w, i32_w]
                       rfl
                      refine take_ (i := 7) (N := some 135) (v := ?_) (a' := ?_) #[true, true, true, true, true, true, true, true, true, false, false, false, true, true, true, false, false, false] rfl rfl (take_ofW HT_.out HW_.out (by kernel_rfl)) (fun _ _ _ h => h) (Or.inl ⟨by rfl, ?_⟩) hHeld ?_ ?_
                      rotate_left
                      ·rintro w' ⟨s0, s1, s2, s3, s4, s5, s6, s7, s8, s9, s10, s11⟩
                       go_simp
                       with_reducible rfl
                      rotate_left
                      ·simp only [Act.put, List.setIfInBounds_toArray, List.set_cons_zero, List.set_cons_succ, i64_w, i32_w]
                       rfl
                      refine pure_ (i := 9) (N := some 137) (v := ?_) (a' := ?_) #[true, true, true, true, true, true, true, true, true, true, false, false, true, true, true, false, false, false] rfl rfl (any_of HT_.out (by kernel_rfl)) (fun _ _ _ h => h) (Or.inl ⟨by rfl, ?_⟩) ?_ ?_
                      rotate_left
                      ·intro w'
                       go_simp
                       with_reducible rfl
                      rotate_left
                      ·simp only [Act.put, List.setIfInBounds_toArray, List.set_cons_zero, List.set_cons_succ, i64_w, i32_w]
                       rfl
                      refine pure_ (i := 10) (N := some 138) (v := ?_) (a' := ?_) #[true, true, true, true, true, true, true, true, true, true, true, false, true, true, true, false, false, false] rfl rfl (any_of HT_.out (by kernel_rfl)) (fun _ _ _ h => h) (Or.inl ⟨by rfl, ?_⟩) ?_ ?_
                      rotate_left
                      ·intro w'
                       go_simp
                       with_reducible rfl
                      rotate_left
                      ·simp only [Act.put, List.setIfInBounds_toArray, List.set_cons_zero, List.set_cons_succ, i64_w, i32_w]
                       rfl
                      refine take_ (i := 11) (N := some 139) (v := ?_) (a' := ?_) #[true, true, true, true, true, true, true, true, true, true, true, true, true, true, true, false, false, false] rfl rfl (take_ofW HT_.out HW_.out (by kernel_rfl)) (fun _ _ _ h => h) (Or.inl ⟨by rfl, ?_⟩) hHeld ?_ ?_
                      rotate_left
                      ·rintro w' ⟨s0, s1, s2, s3, s4, s5, s6, s7, s8, s9, s10, s11⟩
                       go_simp
                       with_reducible rfl
                      rotate_left
                      ·simp only [Act.put, List.setIfInBounds_toArray, List.set_cons_zero, List.set_cons_succ, i64_w, i32_w]
                       rfl
                      refine take_ (i := 15) (N := some 143) (v := ?_) (a' := ?_) #[true, true, true, true, true, true, true, true, true, true, true, true, true, true, true, true, false, false] rfl rfl (take_ofW HT_.out HW_.out (by kernel_rfl)) (fun _ _ _ h => h) (Or.inl ⟨by rfl, ?_⟩) hHeld ?_ ?_
                      rotate_left
                      ·rintro w' ⟨s0, s1, s2, s3, s4, s5, s6, s7, s8, s9, s10, s11⟩
                       go_simp
                       with_reducible rfl
                      rotate_left
                      ·simp only [Act.put, List.setIfInBounds_toArray, List.set_cons_zero, List.set_cons_succ, i64_w, i32_w]
                       rfl
                      refine pure_ (i := 16) (N := some 144) (v := ?_) (a' := ?_) #[true, true, true, true, true, true, true, true, true, true, true, true, true, true, true, true, true, false] rfl rfl (any_of HT_.out (by kernel_rfl)) (fun _ _ _ h => h) (Or.inl ⟨by rfl, ?_⟩) ?_ ?_
                      rotate_left
                      ·intro w'
                       go_simp
                       with_reducible rfl
                      rotate_left
                      ·simp only [Act.put, List.setIfInBounds_toArray, List.set_cons_zero, List.set_cons_succ, i64_w, i32_w]
                       rfl
                      refine pure_ (i := 17) (N := some 145) (v := ?_) (a' := ?_) #[true, true, true, true, true, true, true, true, true, true, true, true, true, true, true, true, true, true] rfl rfl (any_of HT_.out (by kernel_rfl)) (fun _ _ _ h => h) (Or.inl ⟨by rfl, ?_⟩) ?_ ?_
                      rotate_left
                      ·intro w'
                       go_simp
                       with_reducible rfl
                      rotate_left
                      ·simp only [Act.put, List.setIfInBounds_toArray, List.set_cons_zero, List.set_cons_succ, i64_w, i32_w]
                       rfl
                      refine done_ (done_of HT_.out (by kernel_rfl)) ?_
                      have hcz144_0 : w142.cell? ⟨gb192, 0, none⟩ = some (.int .i64 x9A_9) := (blk_cell BK192.out 0).trans rfl
                      have hcz144_1 : w142.cell? ⟨gb192, 1, none⟩ = some (.slice (some ad225) x9B_9.length co129) := (blk_cell BK192.out 1).trans rfl
                      have hfz144_0 := blk_frozen BK192.out 0
                      have hfz144_1 := blk_frozen BK192.out 1
                      have p229 : 0 ≤ (x16_4 : Int) := of_decide_eq_true (by first | (with_reducible assumption) | assumption)
                      have q229 : x16_4 < (x9B_9.length : Int) := of_decide_eq_true (by first | (with_reducible assumption) | assumption)
                      obtain ⟨ad229, e229, hx229_0, hx229_1, hx229_2, hx229_3, hx229_4, hx229_5, hx229_6, hx229_7⟩ := at_T31 (Kd.R_reads' HO_9B.out).2.2 x16_4 p229 q229
                      obtain rfl : ad225 = ad229 := (by injection e229)
                      replace p229 := eq_true p229
                      replace q229 := eq_true q229
                      have p139 : 0 ≤ (((rd_T31 x9B_9 x16_4).f0) : Int) := of_decide_eq_true (by first | (with_reducible assumption) | assumption)
                      have q139 : (((rd_T31 x9B_9 x16_4).f0) : Int) < ((x4_4.length : Int) : Int) := of_decide_eq_true (by first | (with_reducible assumption) | assumption)
                      obtain ⟨go139, co139, eo139, gb139, gl139, cl139, HG139⟩ := Kd.R_form HO_4.out (by omega)
                      (first | cases eo139 | (injection eo139 with ea_ en_ ec_; (first | subst ea_ | (injection ea_ with ea_; subst ea_)); subst ec_; clear en_))
                      have GB139 := Aside0.mk gb139
                      have GG139 := Aside0.mk HG139
                      clear gb139 gl139 HG139
                      (first | simp only [add_plain] at hx226_0 | skip)
                      (first | simp only [add_plain] at hx228_0 | skip)
                      obtain ⟨hx139_0, hf139_0⟩ := Kd.R_celln 0 HO_4.out (((rd_T31 x9B_9 x16_4).f0) : Int) p139 q139
                      replace p139 := eq_true p139
                      replace q139 := eq_true q139
                      obtain ⟨hy145_, hz145_⟩ := Kd.R_celln 0 HO_4.out (((rd_T31 x9B_9 x16_4).f0) : Int) (of_decide_eq_true (by first | (with_reducible assumption) | assumption)) (of_decide_eq_true (by first | (with_reducible assumption) | assumption))
                      have HP145 := Kd.R_putg HO_4.out (((rd_T31 x9B_9 x16_4).f0) : Int) ((rd_T31 x9B_9 x16_4).f7)
                      try go_wp2_with (first | ((with_reducible refine gate_store (t := 3) (p := 154) rfl ?_); refine store_event (t := 3) (p := 154) (v := ?vo_w146) (w1 := (w142.setCell ⟨go139, (((rd_T31 x9B_9 x16_4).f0) : Int).toNat, none⟩ (.int .i64 ((rd_T31 x9B_9 x16_4).f7)))) ?hg ?ho ?hn ?hr ?_; (case ho => rfl); (case hg => rfl); (case hn => rfl); (case hr => first | (go_simp; done) | (go_simp; rfl)); intro w146 hw; have hg : w142.grownBy w146 (some go139) := (by rw [hw]; exact HP145.2); have hp_ : Kd.R (Kd.int .i64) 3 w146 w.heap.size (fun _ => True) (.slice (some ⟨go139, 0, none⟩) x4_4.length co143) y230 := (by rw [hw, Ny230.out]; exact HP145.1); clear HP145; have n0_ := Aside0.mk (hp_); have n1_ := Aside0.mk (Kd.R_over' (v := (.slice (some ⟨go139, 0, none⟩) x4_4.length co143)) (by (with_reducible repeat (first | apply Kd.R_alloc | apply Kd.R_drewN | apply Kd.R_drew)); exact HO_9B.out) (Kd.R_typed HO_4.out) (by decide) hg); have n2_ := Aside0.mk (blk_grown (g := gb192) (o := .cells #[.int .i64 x9A_9, .slice (some ad225) x9B_9.length co129] 25 (0, 0)) (by (with_reducible repeat (first | refine blk_drewN ?_ _ | refine blk_drew ?_ | refine blk_alloc ?_ _)); exact BK192.out) hg (Kd.R_ne HO_4.out BK192.out (by decide))); have n3_ := Aside0.mk (blk_grown (g := gb198) (o := .cells #[.int .i64 ((rd_T40 l0 x7_2).f0), .int .i64 ((rd_T40 l0 x7_2).f1.f0), .int .i64 ((rd_T40 l0 x7_2).f1.f1), .int .i64 ((rd_T40 l0 x7_2).f1.f2), .int .i64 ((rd_T40 l0 x7_2).f1.f3), .bool ((rd_T40 l0 x7_2).f1.f4), .int .i64 ((rd_T40 l0 x7_2).f1.f5), .int .i64 ((rd_T40 l0 x7_2).f1.f6), .int .i64 ((rd_T40 l0 x7_2).f1.f7), .int .i64 ((rd_T40 l0 x7_2).f2)] 40 (0, 0)) (by (with_reducible repeat (first | refine blk_drewN ?_ _ | refine blk_drew ?_ | refine blk_alloc ?_ _)); exact BK198.out) hg (Kd.R_ne HO_4.out BK198.out (by decide))); have n4_ := Aside0.mk ((by rw [hw]; exact below_set (HB.out) GB139.out : Below w.heap.size w w146)); clear HO_4; clear HO_9B; clear BK192; clear BK198; clear HB; have HO_4 := n0_; have HO_9B := n1_; have BK192 := n2_; have BK198 := n3_; have HB := n4_; clear n0_ n1_ n2_ n3_ n4_; clear hg hw hp_))
                      go_roundg k4
                      case measure => have := HK1.out; have := HK2.out; have := HJ9.out; have := HK4.out; omega
                      case rel => exact ⟨(y230), (wrap64 (x16_4 + 1)), (by first | rfl | (simp; done) | (simp [*]; done) | (simp; unfold wrap64; omega)), H', ⟨by have := HK1.out; have := HK2.out; have := HJ9.out; have := HK4.out; omega⟩, ⟨by (with_reducible repeat (first | apply Kd.R_alloc | apply Kd.R_drewN | apply Kd.R_drew)); exact HO_4.out⟩, ⟨by (with_reducible repeat (first | apply Kd.R_alloc | apply Kd.R_drewN | apply Kd.R_drew)); exact HO_9B.out⟩, ⟨by (with_reducible repeat (first | refine blk_drewN ?_ _ | refine blk_drew ?_ | refine blk_alloc ?_ _)); exact BK192.out⟩, ⟨by (with_reducible repeat (first | refine blk_drewN ?_ _ | refine blk_drew ?_ | refine blk_alloc ?_ _)); exact BK198.out⟩, ⟨by repeat (first | (with_reducible first | exact HB.out | apply below_alloc | apply pw_below_drewN | apply below_drew1 | refine below_set ?_ GE192.out | refine below_set ?_ GE198.out) | exact HB.out)⟩⟩
                     ·rw [if_neg c138] at H
                      exact absurd H (by simp)
                    ·rw [if_neg c137] at H
                     have c137b0 : decide (0 ≤ (rd x4_4 ((rd_T31 x9B_9 x16_4).f0))) = false := decide_eq_false c137
                     clear c137
                     obtain ⟨y232, hy232⟩ : ∃ y_ : List Int, y_ = (x4_4.set (((rd_T31 x9B_9 x16_4).f0) : Int).toNat ((rd_T31 x9B_9 x16_4).f7)) := ⟨_, rfl⟩
                     replace H : (lawDO.l4 k4 l0 y232 ji9 x7_2 (wrap64 (x16_4 + 1)) x9A_9 x9B_9) = some r := by first | (rw [hy232]; with_reducible exact H) | (have H2_ := (Option.bind_some _ _).symm.trans H; rw [hy232]; with_reducible exact H2_) | (have H2_ := (Option.bind_some _ _).symm.trans H; with_reducible exact H2_) | with_reducible exact H | (rw [hy232]; exact H) | exact H
                     have Ny232 := Aside0.mk hy232
                     clear hy232
                     have H' := Aside0.mk H
                     clear H
                     have hnb148 := NB192_198.out
                     have hnc148 := NB198_192.out
                     have hcz149_0 : wr.cell? ⟨gb192, 0, none⟩ = some (.int .i64 x9A_9) := (blk_cell BK192.out 0).trans rfl
                     have hcz149_1 : wr.cell? ⟨gb192, 1, none⟩ = some (.slice Ao129 x9B_9.length co129) := (blk_cell BK192.out 1).trans rfl
                     have hfz149_0 := blk_frozen BK192.out 0
                     have hfz149_1 := blk_frozen BK192.out 1
                     have p225 : 0 ≤ (x16_4 : Int) := of_decide_eq_true (by first | (with_reducible assumption) | assumption)
                     have q225 : x16_4 < (x9B_9.length : Int) := of_decide_eq_true (by first | (with_reducible assumption) | assumption)
                     obtain ⟨ad225, e225, hx225_0, hx225_1, hx225_2, hx225_3, hx225_4, hx225_5, hx225_6, hx225_7⟩ := at_T31 (Kd.R_reads' HO_9B.out).2.2 x16_4 p225 q225
                     cases e225
                     replace p225 := eq_true p225
                     replace q225 := eq_true q225
                     try go_wp2
                     have n0_ := Aside0.mk (Kd.R_drew HO_4.out)
                     have n1_ := Aside0.mk (Kd.R_drew HO_9B.out)
                     have n2_ := Aside0.mk (blk_drew BK192.out)
                     have n3_ := Aside0.mk (blk_drew BK198.out)
                     have n4_ := Aside0.mk (below_drew1 HB.out)
                     clear HO_4
                     clear HO_9B
                     clear BK192
                     clear BK198
                     clear HB
                     have HO_4 := n0_
                     have HO_9B := n1_
                     have BK192 := n2_
                     have BK198 := n3_
                     have HB := n4_
                     clear n0_ n1_ n2_ n3_ n4_
                     obtain ⟨Ao151, co151, eo151⟩ := Kd.R_slice HO_4.out
                     (first | subst eo151 | (injection eo151 with f1_ f2_ f3_; have f4_ := f1_.symm; have f5_ := f3_.symm; clear f1_ f2_ f3_; subst f4_; subst f5_))
                     have p226 : 0 ≤ (((rd_T31 x9B_9 x16_4).f0) : Int) := of_decide_eq_true (by first | (with_reducible assumption) | assumption)
                     have q226 : ((rd_T31 x9B_9 x16_4).f0) < (x4_4.length : Int) := of_decide_eq_true (by first | (with_reducible assumption) | assumption)
                     obtain ⟨ad226, e226, hx226_0⟩ := Kd.at_int (Kd.R_reads' HO_4.out).2.2 ((rd_T31 x9B_9 x16_4).f0) p226 q226
                     cases e226
                     replace p226 := eq_true p226
                     replace q226 := eq_true q226
                     refine start_ (n := 18) (S := fun w' => w'.cell? (ad226.add (((rd_T31 x9B_9 x16_4).f0)).toNat) = some (.int .i64 (rd x4_4 ((rd_T31 x9B_9 x16_4).f0)))) (ds := []) #[false, false, false, false, false, false, false, false, false, false, false, false, false, false, false, false, false, false] (by kernel_rfl) rfl rfl (hx226_0) (fun hHeld => ?_); refine with_tabW lawDO.tab43 lawDO.bits43 (fun HT_ HW_ => ?_)
                     generalize wr.drew = w150 at HO_4 HO_9B BK192 BK198 HB hx226_0 hHeld ⊢
                     refine pure_ (i := 0) (N := some 128) (v := ?_) (a' := ?_) #[true, false, false, false, false, false, false, false, false, false, false, false, false, false, false, false, false, false] rfl rfl (any_of HT_.out (by kernel_rfl)) (fun _ _ _ h => h) (Or.inl ⟨by rfl, ?_⟩) ?_ ?_
                     rotate_left
                     ·intro w'
                      go_simp
                      with_reducible rfl
                     rotate_left
                     ·simp only [Act.put, List.setIfInBounds_toArray, List.set_cons_zero, List.set_cons_succ, i64_w, i32_w]
                      rfl
                     refine pure_ (i := 1) (N := some 129) (v := ?_) (a' := ?_) #[true, true, false, false, false, false, false, false, false, false, false, false, false, false, false, false, false, false] rfl rfl (any_of HT_.out (by kernel_rfl)) (fun _ _ _ h => h) (Or.inl ⟨by rfl, ?_⟩) ?_ ?_
                     rotate_left
                     ·intro w'
                      go_simp
                      with_reducible rfl
                     rotate_left
                     ·simp only [Act.put, List.setIfInBounds_toArray, List.set_cons_zero, List.set_cons_succ, i64_w, i32_w]
                      rfl
                     refine pure_ (i := 2) (N := some 130) (v := ?_) (a' := ?_) #[true, true, true, false, false, false, false, false, false, false, false, false, false, false, false, false, false, false] rfl rfl (any_of HT_.out (by kernel_rfl)) (fun _ _ _ h => h) (Or.inl ⟨by rfl, ?_⟩) ?_ ?_
                     rotate_left
                     ·intro w'
                      go_simp
                      with_reducible rfl
                     rotate_left
                     ·simp only [Act.put, List.setIfInBounds_toArray, List.set_cons_zero, List.set_cons_succ, i64_w, i32_w]
                      rfl
                     refine take_ (i := 3) (N := some 131) (v := ?_) (a' := ?_) #[true, true, true, true, false, false, false, false, false, false, false, false, false, false, false, false, false, false] rfl rfl (take_ofW HT_.out HW_.out (by kernel_rfl)) (fun _ _ _ h => h) (Or.inl ⟨by rfl, ?_⟩) hHeld ?_ ?_
                     rotate_left
                     ·intro w' s0
                      go_simp
                      with_reducible rfl
                     rotate_left
                     ·simp only [Act.put, List.setIfInBounds_toArray, List.set_cons_zero, List.set_cons_succ, i64_w, i32_w]
                      rfl
                     refine pure_ (i := 4) (N := some 132) (v := ?_) (a' := ?_) #[true, true, true, true, true, false, false, false, false, false, false, false, false, false, false, false, false, false] rfl rfl (any_of HT_.out (by kernel_rfl)) (fun _ _ _ h => h) (Or.inl ⟨by rfl, ?_⟩) ?_ ?_
                     rotate_left
                     ·intro w'
                      go_simp
                      with_reducible rfl
                     rotate_left
                     ·simp only [Act.put, List.setIfInBounds_toArray, List.set_cons_zero, List.set_cons_succ, i64_w, i32_w]
                      rfl
                     refine pure_ (i := 5) (N := some 133) (v := ?_) (a' := ?_) #[true, true, true, true, true, true, false, false, false, false, false, false, false, false, false, false, false, false] rfl rfl (any_of HT_.out (by kernel_rfl)) (fun _ _ _ h => h) (Or.inl ⟨by rfl, ?_⟩) ?_ ?_
                     rotate_left
                     ·intro w'
                      go_simp
                      with_reducible rfl
                     rotate_left
                     ·simp only [Act.put, List.setIfInBounds_toArray, List.set_cons_zero, List.set_cons_succ, i64_w, i32_w]
                      rfl
                     refine pure_ (i := 6) (N := some 134) (v := undef) (a' := ?_) #[true, true, true, true, true, true, true, false, false, false, false, false, false, false, false, false, false, false] rfl rfl (any_of HT_.out (by kernel_rfl)) (fun _ _ _ h => h) (Or.inr ⟨by rfl, rfl⟩) ?_ ?_
                     rotate_left
                     ·simp only [Act.put, List.setIfInBounds_toArray, List.set_cons_zero, List.set_cons_succ, i64_w, i32_w]
                      rfl
                     refine pure_ (i := 7) (N := some 135) (v := undef) (a' := ?_) #[true, true, true, true, true, true, true, true, false, false, false, false, false, false, false, false, false, false] rfl rfl (any_of HT_.out (by kernel_rfl)) (fun _ _ _ h => h) (Or.inr ⟨by rfl, rfl⟩) ?_ ?_
                     rotate_left
                     ·simp only [Act.put, List.setIfInBounds_toArray, List.set_cons_zero, List.set_cons_succ, i64_w, i32_w]
                      rfl
                     refine pure_ (i := 8) (N := some 136) (v := undef) (a' := ?_) #[true, true, true, true, true, true, true, true, true, false, false, false, false, false, false, false, false, false] rfl rfl (any_of HT_.out (by kernel_rfl)) (fun _ _ _ h => h) (Or.inr ⟨by rfl, rfl⟩) ?_ ?_
                     rotate_left
                     ·simp only [Act.put, List.setIfInBounds_toArray, List.set_cons_zero, List.set_cons_succ, i64_w, i32_w]
                      rfl
                     refine pure_ (i := 9) (N := some 137) (v := undef) (a' := ?_) #[true, true, true, true, true, true, true, true, true, true, false, false, false, false, false, false, false, false] rfl rfl (any_of HT_.out (by kernel_rfl)) (fun _ _ _ h => h) (Or.inr ⟨by rfl, rfl⟩) ?_ ?_
                     rotate_left
                     ·simp only [Act.put, List.setIfInBounds_toArray, List.set_cons_zero, List.set_cons_succ, i64_w, i32_w]
                      rfl
                     refine pure_ (i := 10) (N := some 138) (v := undef) (a' := ?_) #[true, true, true, true, true, true, true, true, true, true, true, false, false, false, false, false, false, false] rfl rfl (any_of HT_.out (by kernel_rfl)) (fun _ _ _ h => h) (Or.inr ⟨by rfl, rfl⟩) ?_ ?_
                     rotate_left
                     ·simp only [Act.put, List.setIfInBounds_toArray, List.set_cons_zero, List.set_cons_succ, i64_w, i32_w]
                      rfl
                     refine pure_ (i := 11) (N := some 139) (v := undef) (a' := ?_) #[true, true, true, true, true, true, true, true, true, true, true, true, false, false, false, false, false, false] rfl rfl (any_of HT_.out (by kernel_rfl)) (fun _ _ _ h => h) (Or.inr ⟨by rfl, rfl⟩) ?_ ?_
                     rotate_left
                     ·simp only [Act.put, List.setIfInBounds_toArray, List.set_cons_zero, List.set_cons_succ, i64_w, i32_w]
                      rfl
                     refine pure_ (i := 12) (N := some 140) (v := undef) (a' := ?_) #[true, true, true, true, true, true, true, true, true, true, true, true, true, false, false, false, false, false] rfl rfl (any_of HT_.out (by kernel_rfl)) (fun _ _ _ h => h) (Or.inr ⟨by rfl, rfl⟩) ?_ ?_
                     rotate_left
                     ·simp only [Act.put, List.setIfInBounds_toArray, List.set_cons_zero, List.set_cons_succ, i64_w, i32_w]
                      rfl
                     refine pure_ (i := 13) (N := some 141) (v := undef) (a' := ?_) #[true, true, true, true, true, true, true, true, true, true, true, true, true, true, false, false, false, false] rfl rfl (any_of HT_.out (by kernel_rfl)) (fun _ _ _ h => h) (Or.inr ⟨by rfl, rfl⟩) ?_ ?_
                     rotate_left
                     ·simp only [Act.put, List.setIfInBounds_toArray, List.set_cons_zero, List.set_cons_succ, i64_w, i32_w]
                      rfl
                     refine pure_ (i := 14) (N := some 142) (v := undef) (a' := ?_) #[true, true, true, true, true, true, true, true, true, true, true, true, true, true, true, false, false, false] rfl rfl (any_of HT_.out (by kernel_rfl)) (fun _ _ _ h => h) (Or.inr ⟨by rfl, rfl⟩) ?_ ?_
                     rotate_left
                     ·simp only [Act.put, List.setIfInBounds_toArray, List.set_cons_zero, List.set_cons_succ, i64_w, i32_w]
                      rfl
                     refine pure_ (i := 15) (N := some 143) (v := undef) (a' := ?_) #[true, true, true, true, true, true, true, true, true, true, true, true, true, true, true, true, false, false] rfl rfl (any_of HT_.out (by kernel_rfl)) (fun _ _ _ h => h) (Or.inr ⟨by rfl, rfl⟩) ?_ ?_
                     rotate_left
                     ·simp only [Act.put, List.setIfInBounds_toArray, List.set_cons_zero, List.set_cons_succ, i64_w, i32_w]
                      rfl
                     refine pure_ (i := 16) (N := some 144) (v := undef) (a' := ?_) #[true, true, true, true, true, true, true, true, true, true, true, true, true, true, true, true, true, false] rfl rfl (any_of HT_.out (by kernel_rfl)) (fun _ _ _ h => h) (Or.inr ⟨by rfl, rfl⟩) ?_ ?_
                     rotate_left
                     ·simp only [Act.put, List.setIfInBounds_toArray, List.set_cons_zero, List.set_cons_succ, i64_w, i32_w]
                      rfl
                     refine pure_ (i := 17) (N := some 145) (v := ?_) (a' := ?_) #[true, true, true, true, true, true, true, true, true, true, true, true, true, true, true, true, true, true] rfl rfl (any_of HT_.out (by kernel_rfl)) (fun _ _ _ h => h) (Or.inl ⟨by rfl, ?_⟩) ?_ ?_
                     rotate_left
                     ·intro w'
                      go_simp
                      with_reducible rfl
                     rotate_left
                     ·simp only [Act.put, List.setIfInBounds_toArray, List.set_cons_zero, List.set_cons_succ, i64_w, i32_w]
                      rfl
                     refine done_ (done_of HT_.out (by kernel_rfl)) ?_
                     have hcz152_0 : w150.cell? ⟨gb192, 0, none⟩ = some (.int .i64 x9A_9) := (blk_cell BK192.out 0).trans rfl
                     have hcz152_1 : w150.cell? ⟨gb192, 1, none⟩ = some (.slice (some ad225) x9B_9.length co129) := (blk_cell BK192.out 1).trans rfl
                     have hfz152_0 := blk_frozen BK192.out 0
                     have hfz152_1 := blk_frozen BK192.out 1
                     have p231 : 0 ≤ (x16_4 : Int) := of_decide_eq_true (by first | (with_reducible assumption) | assumption)
                     have q231 : x16_4 < (x9B_9.length : Int) := of_decide_eq_true (by first | (with_reducible assumption) | assumption)
                     obtain ⟨ad231, e231, hx231_0, hx231_1, hx231_2, hx231_3, hx231_4, hx231_5, hx231_6, hx231_7⟩ := at_T31 (Kd.R_reads' HO_9B.out).2.2 x16_4 p231 q231
                     obtain rfl : ad225 = ad231 := (by injection e231)
                     replace p231 := eq_true p231
                     replace q231 := eq_true q231
                     have p147 : 0 ≤ (((rd_T31 x9B_9 x16_4).f0) : Int) := of_decide_eq_true (by first | (with_reducible assumption) | assumption)
                     have q147 : (((rd_T31 x9B_9 x16_4).f0) : Int) < ((x4_4.length : Int) : Int) := of_decide_eq_true (by first | (with_reducible assumption) | assumption)
                     obtain ⟨go147, co147, eo147, gb147, gl147, cl147, HG147⟩ := Kd.R_form HO_4.out (by omega)
                     (first | cases eo147 | (injection eo147 with ea_ en_ ec_; (first | subst ea_ | (injection ea_ with ea_; subst ea_)); subst ec_; clear en_))
                     have GB147 := Aside0.mk gb147
                     have GG147 := Aside0.mk HG147
                     clear gb147 gl147 HG147
                     (first | simp only [add_plain] at hx226_0 | skip)
                     obtain ⟨hx147_0, hf147_0⟩ := Kd.R_celln 0 HO_4.out (((rd_T31 x9B_9 x16_4).f0) : Int) p147 q147
                     replace p147 := eq_true p147
                     replace q147 := eq_true q147
                     obtain ⟨hy153_, hz153_⟩ := Kd.R_celln 0 HO_4.out (((rd_T31 x9B_9 x16_4).f0) : Int) (of_decide_eq_true (by first | (with_reducible assumption) | assumption)) (of_decide_eq_true (by first | (with_reducible assumption) | assumption))
                     have HP153 := Kd.R_putg HO_4.out (((rd_T31 x9B_9 x16_4).f0) : Int) ((rd_T31 x9B_9 x16_4).f7)
                     try go_wp2_with (first | ((with_reducible refine gate_store (t := 3) (p := 154) rfl ?_); refine store_event (t := 3) (p := 154) (v := ?vo_w154) (w1 := (w150.setCell ⟨go147, (((rd_T31 x9B_9 x16_4).f0) : Int).toNat, none⟩ (.int .i64 ((rd_T31 x9B_9 x16_4).f7)))) ?hg ?ho ?hn ?hr ?_; (case ho => rfl); (case hg => rfl); (case hn => rfl); (case hr => first | (go_simp; done) | (go_simp; rfl)); intro w154 hw; have hg : w150.grownBy w154 (some go147) := (by rw [hw]; exact HP153.2); have hp_ : Kd.R (Kd.int .i64) 3 w154 w.heap.size (fun _ => True) (.slice (some ⟨go147, 0, none⟩) x4_4.length co151) y232 := (by rw [hw, Ny232.out]; exact HP153.1); clear HP153; have n0_ := Aside0.mk (hp_); have n1_ := Aside0.mk (Kd.R_over' (v := (.slice (some ⟨go147, 0, none⟩) x4_4.length co151)) (by (with_reducible repeat (first | apply Kd.R_alloc | apply Kd.R_drewN | apply Kd.R_drew)); exact HO_9B.out) (Kd.R_typed HO_4.out) (by decide) hg); have n2_ := Aside0.mk (blk_grown (g := gb192) (o := .cells #[.int .i64 x9A_9, .slice (some ad225) x9B_9.length co129] 25 (0, 0)) (by (with_reducible repeat (first | refine blk_drewN ?_ _ | refine blk_drew ?_ | refine blk_alloc ?_ _)); exact BK192.out) hg (Kd.R_ne HO_4.out BK192.out (by decide))); have n3_ := Aside0.mk (blk_grown (g := gb198) (o := .cells #[.int .i64 ((rd_T40 l0 x7_2).f0), .int .i64 ((rd_T40 l0 x7_2).f1.f0), .int .i64 ((rd_T40 l0 x7_2).f1.f1), .int .i64 ((rd_T40 l0 x7_2).f1.f2), .int .i64 ((rd_T40 l0 x7_2).f1.f3), .bool ((rd_T40 l0 x7_2).f1.f4), .int .i64 ((rd_T40 l0 x7_2).f1.f5), .int .i64 ((rd_T40 l0 x7_2).f1.f6), .int .i64 ((rd_T40 l0 x7_2).f1.f7), .int .i64 ((rd_T40 l0 x7_2).f2)] 40 (0, 0)) (by (with_reducible repeat (first | refine blk_drewN ?_ _ | refine blk_drew ?_ | refine blk_alloc ?_ _)); exact BK198.out) hg (Kd.R_ne HO_4.out BK198.out (by decide))); have n4_ := Aside0.mk ((by rw [hw]; exact below_set (HB.out) GB147.out : Below w.heap.size w w154)); clear HO_4; clear HO_9B; clear BK192; clear BK198; clear HB; have HO_4 := n0_; have HO_9B := n1_; have BK192 := n2_; have BK198 := n3_; have HB := n4_; clear n0_ n1_ n2_ n3_ n4_; clear hg hw hp_))
                     go_roundg k4
                     case measure => have := HK1.out; have := HK2.out; have := HJ9.out; have := HK4.out; omega
                     case rel => exact ⟨(y232), (wrap64 (x16_4 + 1)), (by first | rfl | (simp; done) | (simp [*]; done) | (simp; unfold wrap64; omega)), H', ⟨by have := HK1.out; have := HK2.out; have := HJ9.out; have := HK4.out; omega⟩, ⟨by (with_reducible repeat (first | apply Kd.R_alloc | apply Kd.R_drewN | apply Kd.R_drew)); exact HO_4.out⟩, ⟨by (with_reducible repeat (first | apply Kd.R_alloc | apply Kd.R_drewN | apply Kd.R_drew)); exact HO_9B.out⟩, ⟨by (with_reducible repeat (first | refine blk_drewN ?_ _ | refine blk_drew ?_ | refine blk_alloc ?_ _)); exact BK192.out⟩, ⟨by (with_reducible repeat (first | refine blk_drewN ?_ _ | refine blk_drew ?_ | refine blk_alloc ?_ _)); exact BK198.out⟩, ⟨by repeat (first | (with_reducible first | exact HB.out | apply below_alloc | apply pw_below_drewN | apply below_drew1 | refine below_set ?_ GE192.out | refine below_set ?_ GE198.out) | exact HB.out)⟩⟩
                   ·rw [if_neg c136] at H
                    exact absurd H (by simp)
                  ·rw [if_neg c135] at H
                   exact absurd H (by simp)
               ·rw [if_neg c132] at H
                exact absurd H (by simp)
              ·rw [if_neg c131] at H
               have c131b0 : decide (x16_4 < (x9B_9.length : Int)) = false := decide_eq_false c131
               clear c131
               have H' := Aside0.mk H
               clear H
               have hnb155 := NB192_198.out
               have hnc155 := NB198_192.out
               have hcz156_0 : wr.cell? ⟨gb192, 0, none⟩ = some (.int .i64 x9A_9) := (blk_cell BK192.out 0).trans rfl
               have hcz156_1 : wr.cell? ⟨gb192, 1, none⟩ = some (.slice Ao129 x9B_9.length co129) := (blk_cell BK192.out 1).trans rfl
               have hfz156_0 := blk_frozen BK192.out 0
               have hfz156_1 := blk_frozen BK192.out 1
               go_wp2
               go_roundg k4
               case measure => have := HK1.out; have := HK2.out; have := HJ9.out; have := HK4.out; omega
               case rel => exact ⟨(x4_4), (ji9), (wrap64 (x7_2 + 1)), (x9A_9), (x9B_9), (.slice Ao129 x9B_9.length co129), (by first | rfl | (simp; done) | (simp only [← hji9] <;> (first | rfl | simp)) | (simp [*]; done)), (by first | rfl | (simp; done) | (simp [*]; done) | (simp; unfold wrap64; omega)), H', ⟨by have := HK1.out; have := HK2.out; have := HJ9.out; have := HK4.out; omega⟩, ⟨by (with_reducible repeat (first | apply Kd.R_alloc | apply Kd.R_drewN | apply Kd.R_drew)); exact HO_4.out⟩, ⟨by (with_reducible repeat (first | apply Kd.R_alloc | apply Kd.R_drewN | apply Kd.R_drew)); exact HO_9B.out⟩, ⟨by (with_reducible repeat (first | refine blk_drewN ?_ _ | refine blk_drew ?_ | refine blk_alloc ?_ _)); exact BK192.out⟩, ⟨by repeat (first | (with_reducible first | exact HB.out | apply below_alloc | apply pw_below_drewN | apply below_drew1 | refine below_set ?_ GE192.out | refine below_set ?_ GE198.out) | exact HB.out)⟩⟩
           ·have H1 : (none) = some r := by rw [if_neg (show ¬ (some q224).isNone = true by simp)] at H; exact H
            clear H
            have H := H1
            clear H1
            try simp only [errW_none, errW_some]
            exact absurd H (by simp)
        ·rw [if_neg c8] at H
         exact absurd H (by simp)
       ·rw [if_neg c7] at H
        have c7b0 : decide (x7_2 < 60) = false := decide_eq_false c7
        clear c7
        replace H := Option.bind_eq_some_iff.mp H
        obtain ⟨t196, A1570, H⟩ := H
        replace H : (some t196) = some r := H
        have A157 := Aside0.mk A1570
        clear A1570
        obtain rfl := Option.some.inj H
        go_wp2_with (first | ((with_reducible refine gate_callee (f := 9) rfl ?_); refine goesL_ (some 155) rfl rfl Try.func9 (by kernel_rfl) rfl #[] rfl (by (try simp only [List.map_toArray, List.map_cons, List.map_nil]); first | done | rfl | (simp only [List.length_drop, List.length_take]; rfl)) ?_; (with_reducible refine (belvederelaw18_sure.calls k2  t196 _ A157.out).mono ?_); rintro e w158 ⟨rfl, hb⟩; refine ⟨_, rfl, ?_⟩; have n0_ := Aside0.mk (Kd.R_below (by (with_reducible repeat (first | apply Kd.R_alloc | apply Kd.R_drewN | apply Kd.R_drew)); exact HO_4.out) hb); have n1_ := Aside0.mk (Kd.R_below (by (with_reducible repeat (first | apply Kd.R_alloc | apply Kd.R_drewN | apply Kd.R_drew)); exact HO_9B.out) hb); have n2_ := Aside0.mk (blk_below (g := gb192) (o := .cells #[.int .i64 x9A_2, u9B] 25 (0, 0)) (by (with_reducible repeat (first | refine blk_drewN ?_ _ | refine blk_drew ?_ | refine blk_alloc ?_ _)); exact BK192.out) hb); have n3_ := Aside0.mk (below_step (by repeat (first | (with_reducible first | exact HB.out | apply below_alloc | apply pw_below_drewN | apply below_drew1 | refine below_set ?_ GE192.out) | exact HB.out)) hb); clear HO_4; clear HO_9B; clear BK192; clear HB; have HO_4 := n0_; have HO_9B := n1_; have BK192 := n2_; have HB := n3_; clear n0_ n1_ n2_ n3_; (try clear hb); (try clear hb2); (try clear hk); (try clear hi)))
        go_ret
        exact ⟨by first | rfl | (simp [errW_none, errW_some] <;> rfl) | (simp [*, errW_none, errW_some] <;> rfl), by repeat (first | (with_reducible first | exact HB.out | apply below_alloc | apply pw_below_drewN | apply below_drew1 | refine below_set ?_ GE192.out) | exact HB.out)⟩
      ·rw [if_neg c6] at H
       have c6b0 : decide (x7_2 < (l0.length : Int)) = false := decide_eq_false c6
       clear c6
       replace H := Option.bind_eq_some_iff.mp H
       obtain ⟨t233, A1590, H⟩ := H
       replace H : (some t233) = some r := H
       have A159 := Aside0.mk A1590
       clear A1590
       obtain rfl := Option.some.inj H
       go_wp2_with (first | ((with_reducible refine gate_callee (f := 9) rfl ?_); refine goesL_ (some 155) rfl rfl Try.func9 (by kernel_rfl) rfl #[] rfl (by (try simp only [List.map_toArray, List.map_cons, List.map_nil]); first | done | rfl | (simp only [List.length_drop, List.length_take]; rfl)) ?_; (with_reducible refine (belvederelaw18_sure.calls k2  t233 _ A159.out).mono ?_); rintro e w160 ⟨rfl, hb⟩; refine ⟨_, rfl, ?_⟩; have n0_ := Aside0.mk (Kd.R_below (by (with_reducible repeat (first | apply Kd.R_alloc | apply Kd.R_drewN | apply Kd.R_drew)); exact HO_4.out) hb); have n1_ := Aside0.mk (Kd.R_below (by (with_reducible repeat (first | apply Kd.R_alloc | apply Kd.R_drewN | apply Kd.R_drew)); exact HO_9B.out) hb); have n2_ := Aside0.mk (blk_below (g := gb192) (o := .cells #[.int .i64 x9A_2, u9B] 25 (0, 0)) (by (with_reducible repeat (first | refine blk_drewN ?_ _ | refine blk_drew ?_ | refine blk_alloc ?_ _)); exact BK192.out) hb); have n3_ := Aside0.mk (below_step (by repeat (first | (with_reducible first | exact HB.out | apply below_alloc | apply pw_below_drewN | apply below_drew1 | refine below_set ?_ GE192.out) | exact HB.out)) hb); clear HO_4; clear HO_9B; clear BK192; clear HB; have HO_4 := n0_; have HO_9B := n1_; have BK192 := n2_; have HB := n3_; clear n0_ n1_ n2_ n3_; (try clear hb); (try clear hb2); (try clear hk); (try clear hi)))
       go_ret
       exact ⟨by first | rfl | (simp [errW_none, errW_some] <;> rfl) | (simp [*, errW_none, errW_some] <;> rfl), by repeat (first | (with_reducible first | exact HB.out | apply below_alloc | apply pw_below_drewN | apply below_drew1 | refine below_set ?_ GE192.out) | exact HB.out)⟩

/-- THE ONE PURE STATEMENT of belvederelaw18_DownOver: yours. -/
def lawDO.Pure : Prop := ∀ (l0 : List (S40)), (l0.length ≤ maxLen ∧ ∀ x ∈ l0, ((Lit.int .i64 x.f0).wf = true ∧ ((Lit.int .i64 x.f1.f0).wf = true ∧ (Lit.int .i64 x.f1.f1).wf = true ∧ (Lit.int .i64 x.f1.f2).wf = true ∧ (Lit.int .i64 x.f1.f3).wf = true ∧ True ∧ (Lit.int .i64 x.f1.f5).wf = true ∧ (Lit.int .i64 x.f1.f6).wf = true ∧ (Lit.int .i64 x.f1.f7).wf = true) ∧ (Lit.int .i64 x.f2).wf = true)) → ∃ k, lawDO.f k l0 = some true
theorem lawDO.walk (P : lawDO.Pure) (A0 : Option Addr) (c0 : Nat) (l0 : List (S40)) (w : World) (hr0 : Kd.C k40 w A0 l0.length l0) (hc0 : l0.length ≤ c0) (g0 : (l0.length ≤ maxLen ∧ ∀ x ∈ l0, ((Lit.int .i64 x.f0).wf = true ∧ ((Lit.int .i64 x.f1.f0).wf = true ∧ (Lit.int .i64 x.f1.f1).wf = true ∧ (Lit.int .i64 x.f1.f2).wf = true ∧ (Lit.int .i64 x.f1.f3).wf = true ∧ True ∧ (Lit.int .i64 x.f1.f5).wf = true ∧ (Lit.int .i64 x.f1.f6).wf = true ∧ (Lit.int .i64 x.f1.f7).wf = true) ∧ (Lit.int .i64 x.f2).wf = true))) :
  Calls Try.prog 4 #[.slice A0 l0.length c0] w fun e w' => e = .returned (.bool true) ∧ Below w.heap.size w w' := by
 obtain ⟨k, h⟩ := P l0 g0
 refine (lawDO.calls k _ _ l0 true w hr0 hc0 h).mono ?_
 rintro e w' ⟨rfl, hd⟩
 exact ⟨rfl, hd⟩

end Go.Proofs.Ytgmdaaenhmclfaa.P
-- SHRUNK
