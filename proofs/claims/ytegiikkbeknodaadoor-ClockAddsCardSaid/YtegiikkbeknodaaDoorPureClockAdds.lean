/- The pure statement of ClockAdds. -/
import Derived.Test.YtegiikkbeknodaaDoorClA
namespace Go.Proofs.YtegiikkbeknodaaDoor.Pure
open Go.RowKit Go.Proofs.YtegiikkbeknodaaDoor.Q Go.Proofs.YtegiikkbeknodaaDoorW.PrintWords Go.Proofs.YtegiikkbeknodaaDoorW.PrintLast
theorem ClockAdds : belvederelaw05_ClockAdds.Pure := fun a0 a1 h0 h1 => Go.Proofs.YtegiikkbeknodaaDoor.QClk.clockAdds a0 a1 h0 h1
end Go.Proofs.YtegiikkbeknodaaDoor.Pure
