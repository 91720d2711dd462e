/- ValueInts's mathematics, under the name that the row asks for. -/
import Derived.Test.YtahjnjlkpbjfnaaGreatDoorVaIntL
namespace Go.Proofs.YtahjnjlkpbjfnaaGreatDoor.Pure
open Go.RowKit Go.Proofs.YtahjnjlkpbjfnaaGreatDoor.P
theorem ValueInts : belvederelaw10_ValueInts.Pure := fun a0 lo hi _ _ _ => ⟨3100, PVal.law_Ints a0 lo hi⟩
end Go.Proofs.YtahjnjlkpbjfnaaGreatDoor.Pure
