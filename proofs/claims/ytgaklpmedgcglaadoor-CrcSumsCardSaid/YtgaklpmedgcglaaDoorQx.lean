-- written by myprint.py (this claim's own program, after the kit's print)
import Derived.Test.YtgaklpmedgcglaaDoorQx0
import Derived.Test.YtgaklpmedgcglaaDoorQx1
import Derived.Test.YtgaklpmedgcglaaDoorQx2
import Derived.Test.YtgaklpmedgcglaaDoorQx3
import Derived.Test.YtgaklpmedgcglaaDoorQx4
namespace Go.Proofs.YtgaklpmedgcglaaDoor.Q
open Go.RowKit Go.Proofs.YtgaklpmedgcglaaDoorW.PrintWords Go.Proofs.YtgaklpmedgcglaaDoorW.PrintLast Go.Proofs.YtgaklpmedgcglaaDoorW.PrintMore
attribute [local go_sem] max2_int min2_int max_two min_two max_three min_three max_four min_four   -- for this text's walks alone
set_option linter.unusedVariables false
set_option linter.unusedSimpArgs false

end Go.Proofs.YtgaklpmedgcglaaDoor.Q
