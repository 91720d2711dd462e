/- This claim's own text: what the printed reading of CrcNested comes to is true: from the plain mathematics of layer 1. -/
import Derived.Test.YtgaklpmedgcglaaDoorCrcC
namespace Go.Proofs.YtgaklpmedgcglaaDoor.Pure
open Go.RowKit Go.Proofs.YtgaklpmedgcglaaDoor.P
/-- The reading tells true at every input. -/
theorem CrcNested : belvederelaw01_CrcNested.Pure := Go.Proofs.YtgaklpmedgcglaaDoor.Crc.crcNested
end Go.Proofs.YtgaklpmedgcglaaDoor.Pure
