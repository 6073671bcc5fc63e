-- Written for this claim by a program of ours (wip/xp.py), out of the translation and of hand-written contracts.
import Derived.Test.YtfbcgjkagdbckaaDoorXFnx0
import Derived.Test.YtfbcgjkagdbckaaDoorXFnx1
import Derived.Test.YtfbcgjkagdbckaaDoorXFnx2
import Derived.Test.YtfbcgjkagdbckaaDoorXFnx3
import Derived.Test.YtfbcgjkagdbckaaDoorXFnx4
import Derived.Test.YtfbcgjkagdbckaaDoorXFnx5
import Derived.Test.YtfbcgjkagdbckaaDoorXFnx6
import Derived.Test.YtfbcgjkagdbckaaDoorXFnx7
namespace Go.Proofs.YtfbcgjkagdbckaaDoor.XFn
open Go.RowKit Go.Proofs.YtfbcgjkagdbckaaDoorW.PrintWords Go.Proofs.YtfbcgjkagdbckaaDoorW.PrintLast Go.Proofs.YtfbcgjkagdbckaaDoorW.PrintMore
attribute [local go_sem] max2_int min2_int max_two min_two max_three min_three max_four min_four   -- for this text's walks alone
set_option linter.unusedVariables false
set_option linter.unusedSimpArgs false

end Go.Proofs.YtfbcgjkagdbckaaDoor.XFn
