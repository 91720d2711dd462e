/- This claim's own text: what the printed reading of CrcMixed comes to is true: from the plain mathematics of layer 1. -/
import Derived.Test.YtgaklpmedgcglaaDoorQCrcB
namespace Go.Proofs.YtgaklpmedgcglaaDoor.Pure
open Go.RowKit Go.Proofs.YtgaklpmedgcglaaDoor.Q
/-- The reading tells true at every input. -/
theorem CrcMixed : belvederelaw01_CrcMixed.Pure := Go.Proofs.YtgaklpmedgcglaaDoor.QCrc.crcMixed
end Go.Proofs.YtgaklpmedgcglaaDoor.Pure
