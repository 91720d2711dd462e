/- This claim's own text: what the printed reading of LebTexts comes to is true: from the plain mathematics of layer 2. -/
import Derived.Test.YtfcnmjbmoiacaaaDoorLebI
namespace Go.Proofs.YtfcnmjbmoiacaaaDoor.Pure
open Go.RowKit Go.Proofs.YtfcnmjbmoiacaaaDoor.P
/-- At every input there is a number of rounds at which the reading tells true. -/
theorem LebTexts : belvederelaw02_LebTexts.Pure := Go.Proofs.YtfcnmjbmoiacaaaDoor.Leb.lebTexts
end Go.Proofs.YtfcnmjbmoiacaaaDoor.Pure
