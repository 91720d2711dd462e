/- ValueUnits's mathematics, under the name that the row asks for. -/
import Derived.Test.YtahjnjlkpbjfnaaGreatDoorVaUnits
namespace Go.Proofs.YtahjnjlkpbjfnaaGreatDoor.Pure
open Go.RowKit Go.Proofs.YtahjnjlkpbjfnaaGreatDoor.P
theorem ValueUnits : belvederelaw10_ValueUnits.Pure := fun a _ => PVal.units_ok a
end Go.Proofs.YtahjnjlkpbjfnaaGreatDoor.Pure
