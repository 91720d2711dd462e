/- This claim's own text: what the printed reading of LebBack comes to is true: from the plain mathematics of layer 2. -/
import Derived.Test.YtfcnmjbmoiacaaaDoorLebJ
namespace Go.Proofs.YtfcnmjbmoiacaaaDoor.Pure
open Go.RowKit Go.Proofs.YtfcnmjbmoiacaaaDoor.P
/-- At every input there is a number of rounds at which the reading tells true. -/
theorem LebBack : belvederelaw02_LebBack.Pure := Go.Proofs.YtfcnmjbmoiacaaaDoor.Leb.lebBack
end Go.Proofs.YtfcnmjbmoiacaaaDoor.Pure
