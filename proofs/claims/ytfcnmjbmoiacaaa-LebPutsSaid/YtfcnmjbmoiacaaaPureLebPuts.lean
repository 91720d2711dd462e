/- This claim's own text: what the printed reading of LebPuts comes to is true: from the plain mathematics of layer 2. -/
import Derived.Test.YtfcnmjbmoiacaaaLebE
namespace Go.Proofs.Ytfcnmjbmoiacaaa.Pure
open Go.RowKit Go.Proofs.Ytfcnmjbmoiacaaa.P
/-- At every input there is a number of rounds at which the reading tells true. -/
theorem LebPuts : belvederelaw02_LebPuts.Pure := Go.Proofs.Ytfcnmjbmoiacaaa.Leb.lebPuts
end Go.Proofs.Ytfcnmjbmoiacaaa.Pure
