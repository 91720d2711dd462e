/- This claim's own text: what the printed reading of CrcSums comes to is true: from the plain mathematics of layer 1. -/
import Derived.Test.YtgaklpmedgcglaaDoorQCrcE
namespace Go.Proofs.YtgaklpmedgcglaaDoor.Pure
open Go.RowKit Go.Proofs.YtgaklpmedgcglaaDoor.Q
/-- At every input there is a number of rounds at which the reading tells true. -/
theorem CrcSums : belvederelaw01_CrcSums.Pure := Go.Proofs.YtgaklpmedgcglaaDoor.QCrc.crcSums
end Go.Proofs.YtgaklpmedgcglaaDoor.Pure
