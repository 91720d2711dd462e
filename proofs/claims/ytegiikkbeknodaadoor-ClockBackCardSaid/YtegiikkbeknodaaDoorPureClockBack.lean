/- The pure statement of ClockBack. -/
import Derived.Test.YtegiikkbeknodaaDoorBClF
namespace Go.Proofs.YtegiikkbeknodaaDoor.Pure
open Go.RowKit Go.Proofs.YtegiikkbeknodaaDoor.B Go.Proofs.YtegiikkbeknodaaDoorW.PrintWords Go.Proofs.YtegiikkbeknodaaDoorW.PrintLast
theorem ClockBack : belvederelaw05_ClockBack.Pure := fun t o by_ _ _ _ => Go.Proofs.YtegiikkbeknodaaDoor.BClk.clockBack t o by_
end Go.Proofs.YtegiikkbeknodaaDoor.Pure
