/- The contract of crc.Seal. -/
import Derived.Test.YtgaklpmedgcglaaDoorCrcConcat
import Derived.Test.YtgaklpmedgcglaaDoorCrcLaid
import Derived.Test.YtgaklpmedgcglaaDoorCrcMore
namespace Go.Proofs.YtgaklpmedgcglaaDoor.P
open Go.RowKit Go.Proofs.YtgaklpmedgcglaaDoorW.PrintWords Go.Proofs.YtgaklpmedgcglaaDoorW.PrintLast Go.Proofs.YtgaklpmedgcglaaDoorW.PrintMore
attribute [local go_sem] max2_int min2_int max_two min_two max_three min_three max_four min_four
set_option linter.unusedVariables false
set_option linter.unusedSimpArgs false
def laidB (s : Int) : List Int := [s % 256, s / 256 % 256, s / 65536 % 256, s / 16777216 % 256]
theorem four_cells (s : Int) (w6 : World) (t : TypeId) (o : Obj) :
    Kd.C (Kd.int .u8) ((w6.alloc (Obj.cells #[Value.int IntKind.u8 (s % 256), Value.int IntKind.u8 (s / 256 % 256), Value.int IntKind.u8 (s / 65536 % 256), Value.int IntKind.u8 (s / 16777216 % 256)] t)).alloc o) (some ⟨w6.heap.size, 0, none⟩) (laidB s).length (laidB s) := by
  refine Kd.C_of_reads (d := (0 : Int)) (h1 := fun _ => rfl) ⟨rfl, (show (4 : Nat) ≤ 9223372036854775807 by decide), fun _ => ⟨_, rfl, fun j hj => ?_⟩⟩
  have h4 : j < 4 := hj
  have : j = 0 ∨ j = 1 ∨ j = 2 ∨ j = 3 := by omega
  rcases this with rfl | rfl | rfl | rfl <;> (go_simp; rfl)
def lastCells (s : Int) : Array Value := #[Value.int IntKind.u8 (s % 256), Value.int IntKind.u8 (s / 256 % 256), Value.int IntKind.u8 (s / 65536 % 256), Value.int IntKind.u8 (s / 16777216 % 256)]
theorem seal_concat (A0 : Option Addr) (c0 : Nat) (l0 : List Int) (s : Int) (w6 : World) (hr0 : Kd.C (Kd.int .u8) w6 A0 l0.length l0) (hc0 : l0.length ≤ c0) (hl : l0.length + 4 < 140737488355328) (t t' : TypeId) (W2 : World)
    (hW : W2 = ((w6.alloc (Obj.cells #[Value.int IntKind.u8 (s % 256), Value.int IntKind.u8 (s / 256 % 256), Value.int IntKind.u8 (s / 65536 % 256), Value.int IntKind.u8 (s / 16777216 % 256)] t)).alloc (Obj.cells #[Value.slice A0 l0.length c0, Value.slice (some ⟨w6.heap.size, 0, none⟩) 4 4] t'))) :
    Calls Tryd.prog 21 #[.slice (some ⟨w6.heap.size + 1, 0, none⟩) 2 2] W2 fun e w' => ∃ v, e = .returned v ∧ Kd.R (Kd.int .u8) 5 w' W2.heap.size (fun _ => True) v (l0 ++ laidB s) ∧ Below W2.heap.size W2 w' := by
  subst hW
  refine concat2.calls (w6.heap.size + 1) A0 (some ⟨w6.heap.size, 0, none⟩) c0 4 l0 (laidB s) _ ?h0 ?h1 ?hb ?r0 hc0 ?r1 (Nat.le_refl _) hl
  case h0 => go_simp
  case h1 => show _ = some (Value.slice (some ⟨w6.heap.size, 0, none⟩) 4 4); go_simp
  case hb => simp
  case r0 => exact Kd.C_alloc (Kd.C_alloc hr0 _) _
  case r1 => exact four_cells s w6 _ _
def crc_Seal.f (l0 : List Int) : Option (List Int) := if l0.length + 4 < 140737488355328 then some (l0 ++ laidB (moreZ 0 l0)) else none
theorem crc_Seal.calls (A0 : Option Addr) (c0 : Nat) (l0 : List Int) (r : List Int) (w : World) (hr0 : Kd.C (Kd.int .u8) w A0 l0.length l0) (hc0 : l0.length ≤ c0) (h : crc_Seal.f l0 = some r) (hG : GL w) :
    Calls Tryd.prog 16 #[.slice A0 l0.length c0] w fun e w' => ∃ v0_ : Value, e = .returned (v0_) ∧ Kd.R (Kd.int .u8) 5 w' w.heap.size (fun _ => True) v0_ r ∧ Below w.heap.size w w' := by
  unfold crc_Seal.f at h
  by_cases hl : l0.length + 4 < 140737488355328
  · rw [if_pos hl] at h
    obtain rfl := Option.some.inj h
    clear h
    have HB := Aside0.mk (Below.refl w.heap.size w)
    have HL := Aside0.mk hl
    have HC0 := Aside0.mk hc0
    have HR0 := Aside0.mk hr0
    have HS := Aside0.mk (crc_SumH.calls A0 c0 l0 w hr0 hc0 (by omega) hG)
    obtain ⟨s, hs⟩ : ∃ s, moreZ 0 l0 = s := ⟨_, rfl⟩
    rw [hs] at HS ⊢
    clear hl hc0 hr0 hG hs
    go_enter Tryd.func16, Tryd.ntmps16
    go_wp2_with (first | ((with_reducible refine gate_callee (f := 11) rfl ?_); refine goesL_ (some 5) rfl rfl Tryd.func11 (by kernel_rfl) rfl #[.slice A0 l0.length c0] rfl (by (try simp only [List.map_toArray, List.map_cons, List.map_nil]); first | done | rfl) ?_; (with_reducible refine HS.out.mono ?_); rintro e w5 ⟨rfl, ⟨m5, rfl⟩⟩; refine ⟨_, rfl, ?_⟩; have n1_ := Aside0.mk (pw_below_drewN (Below.refl w.heap.size w) m5); clear HB; have HB := n1_; clear n1_) | ((with_reducible refine gate_callee (f := 19) rfl ?_); refine goesL_ (some 6) rfl rfl Tryd.func19 (by kernel_rfl) rfl #[.int .u32 s] rfl (by (try simp only [List.map_toArray, List.map_cons, List.map_nil]); first | done | rfl) ?_; (with_reducible refine (crc_laid.calls s _).mono ?_); rintro e w6 ⟨rfl, hb⟩; refine ⟨_, rfl, ?_⟩; have n1_ := Aside0.mk (below_step (by repeat (first | (with_reducible first | exact HB.out | apply below_alloc | apply pw_below_drewN | apply below_drew1) | exact HB.out)) hb); clear HB; have HB := n1_; clear n1_ hb) | ((with_reducible refine gate_callee (f := 21) rfl ?_); refine goesL_ (some 10) rfl rfl Tryd.func21 (by kernel_rfl) rfl #[.slice (some ⟨w6.heap.size + 1, 0, none⟩) 2 2] rfl (by (try simp only [List.map_toArray, List.map_cons, List.map_nil]); first | done | rfl) ?_; (refine (seal_concat A0 c0 l0 s w6 (Kd.C_below HR0.out HB.out) HC0.out HL.out _ _ _ rfl).mono ?_); rintro e w7 ⟨v10, rfl, ho0, hb⟩; refine ⟨_, rfl, ?_⟩; have n0_ := Aside0.mk (Kd.R_lower ho0 (below_size (by repeat (first | (with_reducible first | exact HB.out | apply below_alloc | apply pw_below_drewN | apply below_drew1) | exact HB.out)))); have n1_ := Aside0.mk (below_step (by repeat (first | (with_reducible first | exact HB.out | apply below_alloc | apply pw_below_drewN | apply below_drew1) | exact HB.out)) hb); clear HB; have HO := n0_; have HB := n1_; clear n0_ n1_ hb ho0))
    go_ret
    exact ⟨_, rfl, HO.out, HB.out⟩
  · rw [if_neg hl] at h
    cases h
end Go.Proofs.YtgaklpmedgcglaaDoor.P
