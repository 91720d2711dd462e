/- The pure statement of ClockStamps. -/
import Derived.Test.YtegiikkbeknodaaDoorPx8
import Derived.Test.YtegiikkbeknodaaDoorPClRef
namespace Go.Proofs.YtegiikkbeknodaaDoor.Pure
open Go.RowKit Go.Proofs.YtegiikkbeknodaaDoor.P Go.Proofs.YtegiikkbeknodaaDoorW.PrintWords Go.Proofs.YtegiikkbeknodaaDoorW.PrintLast
theorem ClockStamps : belvederelaw05_ClockStamps.Pure := by
  intro t o _ _
  obtain ⟨x, e, h1, _⟩ := stamps_of t o default
  refine (Ev.rounds (g := fun k => belvederelaw05_ClockStamps.f k t o) ?_)
  unfold belvederelaw05_ClockStamps.f belvedereref05_Stamp.f
  simp only [h1, Option.bind_some, if_true, show belvederelaw05_num.f e = some (e.getD 0) from rfl]
  exact Ev.bind Go.Proofs.YtegiikkbeknodaaDoor.PClk.sure_ev (Ev.now true)
end Go.Proofs.YtegiikkbeknodaaDoor.Pure
