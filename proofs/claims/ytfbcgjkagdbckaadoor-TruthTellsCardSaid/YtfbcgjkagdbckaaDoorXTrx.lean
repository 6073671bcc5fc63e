-- Written for this claim by a program of ours (wip/xp.py), out of the translation and of hand-written contracts.
import Derived.Test.YtfbcgjkagdbckaaDoorXTrx0
import Derived.Test.YtfbcgjkagdbckaaDoorXTrx1
import Derived.Test.YtfbcgjkagdbckaaDoorXTrx2
import Derived.Test.YtfbcgjkagdbckaaDoorXTrx3
import Derived.Test.YtfbcgjkagdbckaaDoorXTrx4
import Derived.Test.YtfbcgjkagdbckaaDoorXTrx5
import Derived.Test.YtfbcgjkagdbckaaDoorXTrx6
import Derived.Test.YtfbcgjkagdbckaaDoorXTrx7
import Derived.Test.YtfbcgjkagdbckaaDoorXTrx8
import Derived.Test.YtfbcgjkagdbckaaDoorXTrx9
import Derived.Test.YtfbcgjkagdbckaaDoorXTrx10
import Derived.Test.YtfbcgjkagdbckaaDoorXTrx11
namespace Go.Proofs.YtfbcgjkagdbckaaDoor.XTr
open Go.RowKit Go.Proofs.YtfbcgjkagdbckaaDoorW.PrintWords Go.Proofs.YtfbcgjkagdbckaaDoorW.PrintLast Go.Proofs.YtfbcgjkagdbckaaDoorW.PrintMore
attribute [local go_sem] max2_int min2_int max_two min_two max_three min_three max_four min_four   -- for this text's walks alone
set_option linter.unusedVariables false
set_option linter.unusedSimpArgs false

end Go.Proofs.YtfbcgjkagdbckaaDoor.XTr
