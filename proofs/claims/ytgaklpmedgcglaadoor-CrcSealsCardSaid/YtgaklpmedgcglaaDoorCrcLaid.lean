/- The contract of crc.laid: four bytes of a sum. -/
import Derived.Test.YtgaklpmedgcglaaDoorPx0
import Derived.WalkSpells
namespace Go.Proofs.YtgaklpmedgcglaaDoor.P
open Go.RowKit Go.Proofs.YtgaklpmedgcglaaDoorW.PrintWords Go.Proofs.YtgaklpmedgcglaaDoorW.PrintLast Go.Proofs.YtgaklpmedgcglaaDoorW.PrintMore
attribute [local go_sem] max2_int min2_int max_two min_two max_three min_three max_four min_four
set_option linter.unusedVariables false
set_option linter.unusedSimpArgs false
theorem crc_laid.calls (a0 : Int) (w : World) :
    Calls Tryd.prog 19 #[.int .u32 a0] w fun e w' => e = .returned (.agg #[.int .u8 (a0 % 256), .int .u8 (a0 / 256 % 256), .int .u8 (a0 / 65536 % 256), .int .u8 (a0 / 16777216 % 256)]) ∧ Below w.heap.size w w' := by
  have HB := Aside0.mk (Below.refl w.heap.size w)
  go_enter Tryd.func19, Tryd.ntmps19
  go_wp2
  refine bodyPost_ret (v := .agg #[.int .u8 (a0 % 256), .int .u8 (a0 / 256 % 256), .int .u8 (a0 / 65536 % 256), .int .u8 (a0 / 16777216 % 256)]) ?_ rfl ⟨rfl, ?_⟩
  · have hres : Tryd.f19.results = #[.cell 2 44] := rfl
    unfold results
    rw [hres]
    go_simp
  · exact HB.out.alloc (Nat.le_refl _) _
end Go.Proofs.YtgaklpmedgcglaaDoor.P
