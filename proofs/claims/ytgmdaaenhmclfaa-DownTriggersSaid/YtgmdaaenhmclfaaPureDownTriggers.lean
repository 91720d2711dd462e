/- DownTriggers' mathematics, under the name that the row asks for. -/
import Derived.Test.YtgmdaaenhmclfaaDnA
namespace Go.Proofs.Ytgmdaaenhmclfaa.Pure
open Go.RowKit Go.Proofs.Ytgmdaaenhmclfaa.P
theorem DownTriggers : belvederelaw18_DownTriggers.Pure := triggers_ok
end Go.Proofs.Ytgmdaaenhmclfaa.Pure
