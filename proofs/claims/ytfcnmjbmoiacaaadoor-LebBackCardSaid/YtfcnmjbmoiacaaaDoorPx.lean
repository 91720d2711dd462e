-- written by myprint.py (this claim's own program, after the kit's print)
import Derived.Test.YtfcnmjbmoiacaaaDoorPx0
import Derived.Test.YtfcnmjbmoiacaaaDoorPx1
import Derived.Test.YtfcnmjbmoiacaaaDoorPx2
import Derived.Test.YtfcnmjbmoiacaaaDoorPx3
import Derived.Test.YtfcnmjbmoiacaaaDoorPx4
import Derived.Test.YtfcnmjbmoiacaaaDoorPx5
namespace Go.Proofs.YtfcnmjbmoiacaaaDoor.P
open Go.RowKit Go.Proofs.YtfcnmjbmoiacaaaDoorW.PrintWords Go.Proofs.YtfcnmjbmoiacaaaDoorW.PrintLast Go.Proofs.YtfcnmjbmoiacaaaDoorW.PrintMore
attribute [local go_sem] max2_int min2_int max_two min_two max_three min_three max_four min_four   -- for this text's walks alone
set_option linter.unusedVariables false
set_option linter.unusedSimpArgs false

end Go.Proofs.YtfcnmjbmoiacaaaDoor.P
