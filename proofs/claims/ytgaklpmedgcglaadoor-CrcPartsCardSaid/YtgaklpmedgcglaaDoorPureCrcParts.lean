/- This claim's own text: what the printed reading of CrcParts comes to is true: from the plain mathematics of layer 1. -/
import Derived.Test.YtgaklpmedgcglaaDoorQCrcA
namespace Go.Proofs.YtgaklpmedgcglaaDoor.Pure
open Go.RowKit Go.Proofs.YtgaklpmedgcglaaDoor.Q
/-- The reading tells true at every input. -/
theorem CrcParts : belvederelaw01_CrcParts.Pure := Go.Proofs.YtgaklpmedgcglaaDoor.QCrc.crcParts
end Go.Proofs.YtgaklpmedgcglaaDoor.Pure
