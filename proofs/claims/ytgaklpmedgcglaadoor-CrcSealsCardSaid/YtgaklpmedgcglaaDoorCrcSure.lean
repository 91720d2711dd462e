/- The contract of layer 1's sure: it answers true. -/
import Derived.Test.YtgaklpmedgcglaaDoorCrcOpen
import Derived.Lib.SlBytesConst
import Derived.Lib.SmallJoins
namespace Go.Proofs.YtgaklpmedgcglaaDoor.P
open Go.RowKit Go.Proofs.YtgaklpmedgcglaaDoorW.PrintWords Go.Proofs.YtgaklpmedgcglaaDoorW.PrintLast Go.Proofs.YtgaklpmedgcglaaDoorW.PrintMore
attribute [local go_sem] max2_int min2_int max_two min_two max_three min_three max_four min_four
set_option linter.unusedVariables false
set_option linter.unusedSimpArgs false
theorem conv_same (w : World) (C : Array Value) (n c : Nat) : (convert 22 22 (.slice (some ⟨w.heap.size, 0, none⟩) n c)).run Tryd.prog (w.alloc (.cells C 5)) = .ok (.slice (some ⟨w.heap.size, 0, none⟩) n c) (w.alloc (.cells C 5 (C.size, C.size + 1))) :=
  Lib.run_convert_bytes_const w 22 5 C n c Tryd.underlying22 Tryd.underlying5
attribute [local go_sem] conv_same
theorem lit_C (w : World) (l : List Int) (hl : l.length ≤ 9223372036854775807) (fr : Nat × Nat) : Kd.C (Kd.int .u8) (w.alloc (.cells (l.map (Value.int .u8)).toArray 5 fr)) (some ⟨w.heap.size, 0, none⟩) l.length l := by
  refine Kd.C_of_reads (d := (0 : Int)) (h1 := fun _ => rfl) ⟨rfl, hl, fun _ => ⟨_, rfl, fun j hj => ?_⟩⟩
  rw [add_plain, World.cell?_alloc_mark]
  simp [List.getElem?_eq_getElem hj]
theorem sum_here (w7 : World) (hG : GL w7) : Calls Tryd.prog 11 #[.slice (some ⟨w7.heap.size, 0, none⟩) 9 9] (w7.alloc (.cells #[.int .u8 49, .int .u8 50, .int .u8 51, .int .u8 52, .int .u8 53, .int .u8 54, .int .u8 55, .int .u8 56, .int .u8 57] 5 (9, 10))) fun e w' => e = .returned (.int .u32 3421780262) ∧ Drawn0 (w7.alloc (.cells #[.int .u8 49, .int .u8 50, .int .u8 51, .int .u8 52, .int .u8 53, .int .u8 54, .int .u8 55, .int .u8 56, .int .u8 57] 5 (9, 10))) w' := by
  have hs : moreZ 0 [49, 50, 51, 52, 53, 54, 55, 56, 57] = 3421780262 := by decide +kernel
  have h := crc_SumH.calls (some ⟨w7.heap.size, 0, none⟩) 9 [49, 50, 51, 52, 53, 54, 55, 56, 57] _ (lit_C w7 [49, 50, 51, 52, 53, 54, 55, 56, 57] (by decide) (9, 10)) (Nat.le_refl _) (by decide) (hG.alloc _)
  rw [hs] at h
  exact h
theorem str_here (w7 : World) (A7 : Option Addr) (c7 : Nat) (h : Kd.C (Kd.int .u8) w7 A7 2 [97, 98]) (o : Obj) (m : Nat) : (convert 22 9 (.slice A7 2 c7)).run Tryd.prog ((w7.alloc o).drewN m) = .ok (.string ⟨#[97, 98]⟩) ((w7.alloc o).drewN m) :=
  Kd.C_string (P := Tryd.prog) (dst := 9) Tryd.underlying22 Tryd.underlying5 Tryd.underlying9 (Kd.C_below h (pw_below_drewN (below_alloc (Below.refl w7.heap.size w7) o) m))
def belvederelaw01_sure.f : Option Bool := some true
theorem belvederelaw01_sure.calls (r : Bool) (w : World) (h : belvederelaw01_sure.f = some r) (hG : GL w) :
    Calls Tryd.prog 10 #[] w fun e w' => e = .returned (.bool r) ∧ Below w.heap.size w w' := by
  obtain rfl := Option.some.inj h
  clear h
  obtain ⟨x, hx, ho⟩ : ∃ x, crc_Seal.f [97, 98] = some x ∧ crc_Open.f x = some ([97, 98], none) := ⟨[97, 98] ++ laidB (moreZ 0 [97, 98]), by decide +kernel, by decide +kernel⟩
  have hs : moreZ 0 [49, 50, 51, 52, 53, 54, 55, 56, 57] = 3421780262 := by decide +kernel
  have hab : strOfNums [97, 98] = ⟨#[97, 98]⟩ := rfl
  have HB := Aside0.mk (Below.refl w.heap.size w)
  have HG := Aside0.mk hG
  have HX := Aside0.mk hx
  have HO := Aside0.mk ho
  have HS := Aside0.mk hs
  have HAB := Aside0.mk hab
  clear hx ho hs hG hab
  go_enter Tryd.func10, Tryd.ntmps10
  go_wp2_with (first | ((with_reducible refine gate_callee (f := 16) rfl ?_); refine goesL_ (some 6) rfl rfl Tryd.func16 (by kernel_rfl) rfl #[.slice (some ⟨w.heap.size, 0, none⟩) 2 2] rfl (by (try simp only [List.map_toArray, List.map_cons, List.map_nil]); first | done | rfl) ?_; (refine (crc_Seal.calls (some ⟨w.heap.size, 0, none⟩) 2 [97, 98] x _ (lit_C w [97, 98] (by decide) (2, 3)) (Nat.le_refl _) HX.out (HG.out.alloc _)).mono ?_); rintro e w6 ⟨v6, rfl, ho0, hb⟩; refine ⟨_, rfl, ?_⟩; obtain ⟨A6, c6, rfl⟩ := Kd.R_slice ho0; have n1_ := Aside0.mk (below_step (below_alloc HB.out _) hb); have H6 := Aside0.mk ho0; clear HB; have HB := n1_; clear n1_ hb ho0) | ((with_reducible refine gate_callee (f := 14) rfl ?_); refine goesL_ (some 7) rfl rfl Tryd.func14 (by kernel_rfl) rfl #[.slice A6 x.length c6] rfl (by (try simp only [List.map_toArray, List.map_cons, List.map_nil]); first | done | rfl) ?_; (refine (crc_Open.calls A6 c6 x [97, 98] none _ (Kd.R_reads' H6.out).2.2 (Kd.R_reads' H6.out).2.1 HO.out (HG.out.below HB.out)).mono ?_); rintro e w7 ⟨v7, rfl, ho0, hb⟩; refine ⟨_, rfl, ?_⟩; obtain ⟨A7, c7, rfl⟩ := Kd.R_slice ho0; have n1_ := Aside0.mk (below_step HB.out hb); have H7 := Aside0.mk ho0; clear HB H6; have HB := n1_; clear n1_ hb ho0; (try simp only [errW_none])) | ((with_reducible refine gate_callee (f := 11) rfl ?_); refine goesL_ (some 12) rfl rfl Tryd.func11 (by kernel_rfl) rfl #[.slice (some ⟨w7.heap.size, 0, none⟩) 9 9] rfl (by (try simp only [List.map_toArray, List.map_cons, List.map_nil]); first | done | rfl) ?_; (refine (sum_here w7 (HG.out.below HB.out)).mono ?_); rintro e w8 ⟨rfl, ⟨m8, rfl⟩⟩; refine ⟨_, rfl, ?_⟩; have hst := str_here w7 A7 c7 (Kd.R_reads' H7.out).2.2 (.cells #[.int .u8 49, .int .u8 50, .int .u8 51, .int .u8 52, .int .u8 53, .int .u8 54, .int .u8 55, .int .u8 56, .int .u8 57] 5 (9, 10)) m8; have n1_ := Aside0.mk (pw_below_drewN (below_alloc HB.out (.cells #[.int .u8 49, .int .u8 50, .int .u8 51, .int .u8 52, .int .u8 53, .int .u8 54, .int .u8 55, .int .u8 56, .int .u8 57] 5 (9, 10))) m8); clear HB; have HB := n1_; clear n1_))
  go_ret
  exact ⟨rfl, HB.out⟩
end Go.Proofs.YtgaklpmedgcglaaDoor.P
