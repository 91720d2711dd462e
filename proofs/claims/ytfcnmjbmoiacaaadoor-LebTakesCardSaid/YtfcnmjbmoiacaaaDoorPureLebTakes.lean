/- This claim's own text: what the printed reading of LebTakes comes to is true: from the plain mathematics of layer 2. -/
import Derived.Test.YtfcnmjbmoiacaaaDoorLebI
namespace Go.Proofs.YtfcnmjbmoiacaaaDoor.Pure
open Go.RowKit Go.Proofs.YtfcnmjbmoiacaaaDoor.P
/-- At every input there is a number of rounds at which the reading tells true. -/
theorem LebTakes : belvederelaw02_LebTakes.Pure := Go.Proofs.YtfcnmjbmoiacaaaDoor.Leb.lebTakes
end Go.Proofs.YtfcnmjbmoiacaaaDoor.Pure
