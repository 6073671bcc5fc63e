-- Written for this claim by a program of ours (wip/xp.py), out of the translation and of hand-written contracts.
import Derived.Test.YtfbcgjkagdbckaaDoorXTmx0
import Derived.Test.YtfbcgjkagdbckaaDoorXTmx1
import Derived.Test.YtfbcgjkagdbckaaDoorXTmx2
import Derived.Test.YtfbcgjkagdbckaaDoorXTmx3
import Derived.Test.YtfbcgjkagdbckaaDoorXTmx4
import Derived.Test.YtfbcgjkagdbckaaDoorXTmx5
import Derived.Test.YtfbcgjkagdbckaaDoorXTmx6
import Derived.Test.YtfbcgjkagdbckaaDoorXTmx7
import Derived.Test.YtfbcgjkagdbckaaDoorXTmx8
namespace Go.Proofs.YtfbcgjkagdbckaaDoor.XTm
open Go.RowKit Go.Proofs.YtfbcgjkagdbckaaDoorW.PrintWords Go.Proofs.YtfbcgjkagdbckaaDoorW.PrintLast Go.Proofs.YtfbcgjkagdbckaaDoorW.PrintMore
attribute [local go_sem] max2_int min2_int max_two min_two max_three min_three max_four min_four   -- for this text's walks alone
set_option linter.unusedVariables false
set_option linter.unusedSimpArgs false

end Go.Proofs.YtfbcgjkagdbckaaDoor.XTm
