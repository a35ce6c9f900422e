-- Laid by a program of this work (wip/gen): out of the translation, with texts of our own.
import Derived.Test.YtpfmebpalejadaaPALLx0
import Derived.Test.YtpfmebpalejadaaPALLx1
import Derived.Test.YtpfmebpalejadaaPALLx2
import Derived.Test.YtpfmebpalejadaaPALLx3
import Derived.Test.YtpfmebpalejadaaPALLx4
import Derived.Test.YtpfmebpalejadaaPALLx5
import Derived.Test.YtpfmebpalejadaaPALLx6
import Derived.Test.YtpfmebpalejadaaPALLx7
import Derived.Test.YtpfmebpalejadaaPALLx8
import Derived.Test.YtpfmebpalejadaaPALLx9
import Derived.Test.YtpfmebpalejadaaPALLx10
namespace Go.Proofs.Ytpfmebpalejadaa.PALL
open Go.RowKit Go.Proofs.YtpfmebpalejadaaW.PrintWords Go.Proofs.YtpfmebpalejadaaW.PrintLast Go.Proofs.YtpfmebpalejadaaW.PrintMore Go.Proofs.YtpfmebpalejadaaW.SepW
attribute [local go_sem] max2_int min2_int max_two min_two max_three min_three max_four min_four   -- for this text's walks alone
set_option linter.unusedVariables false
set_option linter.unusedSimpArgs false

end Go.Proofs.Ytpfmebpalejadaa.PALL
