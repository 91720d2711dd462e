/- The pure statement of ClockOffsets. -/
import Derived.Test.YtegiikkbeknodaaDoorClA
namespace Go.Proofs.YtegiikkbeknodaaDoor.Pure
open Go.RowKit Go.Proofs.YtegiikkbeknodaaDoor.Q Go.Proofs.YtegiikkbeknodaaDoorW.PrintWords Go.Proofs.YtegiikkbeknodaaDoorW.PrintLast
theorem ClockOffsets : belvederelaw05_ClockOffsets.Pure := fun a0 a1 _ _ => Go.Proofs.YtegiikkbeknodaaDoor.QClk.clockOffsets a0 a1
end Go.Proofs.YtegiikkbeknodaaDoor.Pure
