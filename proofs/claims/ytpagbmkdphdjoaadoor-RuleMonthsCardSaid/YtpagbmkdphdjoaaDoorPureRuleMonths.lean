/- RuleMonths's mathematics, under the name that the row asks for. -/
import Derived.Test.YtpagbmkdphdjoaaDoorRuMonths
namespace Go.Proofs.YtpagbmkdphdjoaaDoor.Pure
open Go.RowKit Go.Proofs.YtpagbmkdphdjoaaDoor.P
theorem RuleMonths : belvederelaw06_RuleMonths.Pure := PClk.months_ok
end Go.Proofs.YtpagbmkdphdjoaaDoor.Pure
