/- Words of this claim's own beside the printed ones: a make with a capacity alone. -/
import Derived.Test.YtpagbmkdphdjoaaGreatDoorWWords
import Derived.Test.YtpagbmkdphdjoaaGreatDoorWMore
import Derived.Test.YtpagbmkdphdjoaaGreatDoorWLast
set_option linter.unusedVariables false
namespace Go.Proofs.YtpagbmkdphdjoaaGreatDoorW.PrintWords
open Go.RowKit
namespace Kd
section
variable {α : Type} {P : Program} {ops : Array Oper} {rest : List Oper} {o : Oper} {a : Act} {Q : Exit → Act → World → Prop}
end
end Kd
end Go.Proofs.YtpagbmkdphdjoaaGreatDoorW.PrintWords
namespace Go.Proofs.YtpagbmkdphdjoaaGreatDoorW.PrintWords
open Go.Proofs.YtpagbmkdphdjoaaGreatDoorW.PrintMore
end Go.Proofs.YtpagbmkdphdjoaaGreatDoorW.PrintWords
namespace Go.Proofs.YtpagbmkdphdjoaaGreatDoorW.PrintLast
open Go.RowKit Go.Proofs.YtpagbmkdphdjoaaGreatDoorW.PrintWords
section
variable {P : Program} {ops : Array Oper} {Q : Exit → Act → World → Prop}
end
end Go.Proofs.YtpagbmkdphdjoaaGreatDoorW.PrintLast
