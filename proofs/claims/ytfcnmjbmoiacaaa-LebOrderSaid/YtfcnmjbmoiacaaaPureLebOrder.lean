/- This claim's own text: what the printed reading of LebOrder comes to is true: from the plain mathematics of layer 2. -/
import Derived.Test.YtfcnmjbmoiacaaaLebC
namespace Go.Proofs.Ytfcnmjbmoiacaaa.Pure
open Go.RowKit Go.Proofs.Ytfcnmjbmoiacaaa.P
/-- At every input there is a number of rounds at which the reading tells true. -/
theorem LebOrder : belvederelaw02_LebOrder.Pure := Go.Proofs.Ytfcnmjbmoiacaaa.Leb.lebOrder
end Go.Proofs.Ytfcnmjbmoiacaaa.Pure
