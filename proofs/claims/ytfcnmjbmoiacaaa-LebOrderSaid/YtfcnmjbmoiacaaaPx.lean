-- written by myprint.py (this claim's own program, after the kit's print)
import Derived.Test.YtfcnmjbmoiacaaaPx0
import Derived.Test.YtfcnmjbmoiacaaaPx1
import Derived.Test.YtfcnmjbmoiacaaaPx2
import Derived.Test.YtfcnmjbmoiacaaaPx3
import Derived.Test.YtfcnmjbmoiacaaaPx4
import Derived.Test.YtfcnmjbmoiacaaaPx5
namespace Go.Proofs.Ytfcnmjbmoiacaaa.P
open Go.RowKit Go.Proofs.YtfcnmjbmoiacaaaW.PrintWords Go.Proofs.YtfcnmjbmoiacaaaW.PrintLast Go.Proofs.YtfcnmjbmoiacaaaW.PrintMore
attribute [local go_sem] max2_int min2_int max_two min_two max_three min_three max_four min_four   -- for this text's walks alone
set_option linter.unusedVariables false
set_option linter.unusedSimpArgs false

end Go.Proofs.Ytfcnmjbmoiacaaa.P
