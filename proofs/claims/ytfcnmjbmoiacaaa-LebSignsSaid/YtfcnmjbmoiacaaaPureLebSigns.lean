/- This claim's own text: what the printed reading of LebSigns comes to is true: from the plain mathematics of layer 2. -/
import Derived.Test.YtfcnmjbmoiacaaaLebC
namespace Go.Proofs.Ytfcnmjbmoiacaaa.Pure
open Go.RowKit Go.Proofs.Ytfcnmjbmoiacaaa.P
/-- At every input there is a number of rounds at which the reading tells true. -/
theorem LebSigns : belvederelaw02_LebSigns.Pure := Go.Proofs.Ytfcnmjbmoiacaaa.Leb.lebSigns
end Go.Proofs.Ytfcnmjbmoiacaaa.Pure
