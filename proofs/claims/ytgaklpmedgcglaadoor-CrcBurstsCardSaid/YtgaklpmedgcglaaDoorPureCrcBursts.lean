/- This claim's own text: what the printed reading of CrcBursts comes to is true: from the plain mathematics of layer 1. -/
import Derived.Test.YtgaklpmedgcglaaDoorCrcG
namespace Go.Proofs.YtgaklpmedgcglaaDoor.Pure
open Go.RowKit Go.Proofs.YtgaklpmedgcglaaDoor.P
/-- At every input there is a number of rounds at which the reading tells true. -/
theorem CrcBursts : belvederelaw01_CrcBursts.Pure := Go.Proofs.YtgaklpmedgcglaaDoor.Crc.crcBursts
end Go.Proofs.YtgaklpmedgcglaaDoor.Pure
