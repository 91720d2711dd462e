/- DownFixed's mathematics, under the name that the row asks for. -/
import Derived.Test.YtgmdaaenhmclfaaDnFixed
namespace Go.Proofs.Ytgmdaaenhmclfaa.Pure
open Go.RowKit Go.Proofs.Ytgmdaaenhmclfaa.P
theorem DownFixed : belvederelaw18_DownFixed.Pure := Dn.fixed_ok
end Go.Proofs.Ytgmdaaenhmclfaa.Pure
