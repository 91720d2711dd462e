/- RuleDates's mathematics, under the name that the row asks for. -/
import Derived.Test.YtpagbmkdphdjoaaDoorRuDates
namespace Go.Proofs.YtpagbmkdphdjoaaDoor.Pure
open Go.RowKit Go.Proofs.YtpagbmkdphdjoaaDoor.P
theorem RuleDates : belvederelaw06_RuleDates.Pure := PClk.dates_ok
end Go.Proofs.YtpagbmkdphdjoaaDoor.Pure
