/- RuleMatches's mathematics, under the name that the row asks for. -/
import Derived.Test.YtpagbmkdphdjoaaGreatDoorRuU
namespace Go.Proofs.YtpagbmkdphdjoaaGreatDoor.Pure
open Go.RowKit Go.Proofs.YtpagbmkdphdjoaaGreatDoor.P
theorem RuleMatches : w6_RuleMatches.Pure := PClk.matches_ok
end Go.Proofs.YtpagbmkdphdjoaaGreatDoor.Pure
