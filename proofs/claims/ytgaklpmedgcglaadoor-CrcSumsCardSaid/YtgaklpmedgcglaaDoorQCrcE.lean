/- Plain mathematics of layer 1: CrcSums. -/
import Derived.Test.YtgaklpmedgcglaaDoorQCrcD
set_option linter.unusedVariables false
namespace Go.Proofs.YtgaklpmedgcglaaDoor.QCrc
open Go.RowKit Go.Proofs.YtgaklpmedgcglaaDoor.Q Go.Proofs.YtgaklpmedgcglaaDoorW.PrintWords Go.Proofs.YtgaklpmedgcglaaDoorW.PrintLast Go.Proofs.YtgaklpmedgcglaaDoorW.PrintMore
theorem crcSums : belvederelaw01_CrcSums.Pure := by
  intro l s _ _ hw hs
  have hb := by_of hw
  have bs := bounds_u32 hs
  by_cases hl : (l.length : Int) > 4000
  · exact ⟨0, by unfold belvederelaw01_CrcSums.f; rw [if_pos hl, sure]; rfl⟩
  · obtain ⟨q, rfl⟩ : ∃ q : Nat, s = (q : Int) := ⟨s.toNat, by omega⟩
    obtain ⟨K1, p1⟩ := ref_more_ev 0 l (by omega) hb (by decide)
    obtain ⟨K2, p2⟩ := ref_more_ev q l (by omega) hb (by omega)
    have q1 : belvedereref01_More.f (K1 + K2) 0 l = some (moreZ 0 l) := p1 (K1 + K2) (Nat.le_add_right ..)
    have q2 : belvedereref01_More.f (K1 + K2) (q : Int) l = some (moreZ (q : Int) l) := p2 (K1 + K2) (Nat.le_add_left ..)
    refine ⟨K1 + K2, ?_⟩
    unfold belvederelaw01_CrcSums.f
    rw [if_neg hl, sum_eq _ (by omega), Option.bind_some, q1, Option.bind_some, if_pos rfl, more_f _ _ (by omega), Option.bind_some, q2, Option.bind_some, if_pos rfl, sure]
    rfl
end Go.Proofs.YtgaklpmedgcglaaDoor.QCrc
