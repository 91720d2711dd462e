/- DownOver's mathematics, under the name that the row asks for. -/
import Derived.Test.YtgmdaaenhmclfaaDnOverM
namespace Go.Proofs.Ytgmdaaenhmclfaa.Pure
open Go.RowKit Go.Proofs.Ytgmdaaenhmclfaa.P
theorem DownOver : lawDO.Pure := Dn.over_ok
end Go.Proofs.Ytgmdaaenhmclfaa.Pure
