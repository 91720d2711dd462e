/- RuleBack's mathematics, under the name that the row asks for. -/
import Derived.Test.YtpagbmkdphdjoaaGreatDoorRuBk
namespace Go.Proofs.YtpagbmkdphdjoaaGreatDoor.Pure
open Go.RowKit Go.Proofs.YtpagbmkdphdjoaaGreatDoor.P
theorem RuleBack : w6_RuleBack.Pure := PClk.back_ok
end Go.Proofs.YtpagbmkdphdjoaaGreatDoor.Pure
