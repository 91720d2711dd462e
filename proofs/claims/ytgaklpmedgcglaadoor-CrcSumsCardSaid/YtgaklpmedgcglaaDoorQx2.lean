-- written by myprint.py (this claim's own program, after the kit's print)
import Derived.Test.YtgaklpmedgcglaaDoorQx0
namespace Go.Proofs.YtgaklpmedgcglaaDoor.Q
open Go.RowKit Go.Proofs.YtgaklpmedgcglaaDoorW.PrintWords Go.Proofs.YtgaklpmedgcglaaDoorW.PrintLast Go.Proofs.YtgaklpmedgcglaaDoorW.PrintMore
attribute [local go_sem] max2_int min2_int max_two min_two max_three min_three max_four min_four   -- for this text's walks alone
set_option linter.unusedVariables false
set_option linter.unusedSimpArgs false

-- NOT PRINTED: function 23 (slices_Grow_byte_byte)

-- NOT PRINTED: function 21 (slices_Concat_byte_byte)

end Go.Proofs.YtgaklpmedgcglaaDoor.Q
