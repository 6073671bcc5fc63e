-- Written for this claim by a program of ours (wip/xp.py), out of the translation and of hand-written contracts.
import Derived.Test.YtfbcgjkagdbckaaDoorXFlx0
import Derived.Test.YtfbcgjkagdbckaaDoorXFlx1
import Derived.Test.YtfbcgjkagdbckaaDoorXFlx2
import Derived.Test.YtfbcgjkagdbckaaDoorXFlx3
import Derived.Test.YtfbcgjkagdbckaaDoorXFlx4
namespace Go.Proofs.YtfbcgjkagdbckaaDoor.XFl
open Go.RowKit Go.Proofs.YtfbcgjkagdbckaaDoorW.PrintWords Go.Proofs.YtfbcgjkagdbckaaDoorW.PrintLast Go.Proofs.YtfbcgjkagdbckaaDoorW.PrintMore
attribute [local go_sem] max2_int min2_int max_two min_two max_three min_three max_four min_four   -- for this text's walks alone
set_option linter.unusedVariables false
set_option linter.unusedSimpArgs false

end Go.Proofs.YtfbcgjkagdbckaaDoor.XFl
