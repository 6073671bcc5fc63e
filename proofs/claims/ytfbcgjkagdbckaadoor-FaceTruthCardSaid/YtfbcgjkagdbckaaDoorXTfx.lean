-- Written for this claim by a program of ours (wip/xp.py), out of the translation and of hand-written contracts.
import Derived.Test.YtfbcgjkagdbckaaDoorXTfx0
import Derived.Test.YtfbcgjkagdbckaaDoorXTfx1
import Derived.Test.YtfbcgjkagdbckaaDoorXTfx2
import Derived.Test.YtfbcgjkagdbckaaDoorXTfx3
import Derived.Test.YtfbcgjkagdbckaaDoorXTfx4
import Derived.Test.YtfbcgjkagdbckaaDoorXTfx5
namespace Go.Proofs.YtfbcgjkagdbckaaDoor.XTf
open Go.RowKit Go.Proofs.YtfbcgjkagdbckaaDoorW.PrintWords Go.Proofs.YtfbcgjkagdbckaaDoorW.PrintLast Go.Proofs.YtfbcgjkagdbckaaDoorW.PrintMore
attribute [local go_sem] max2_int min2_int max_two min_two max_three min_three max_four min_four   -- for this text's walks alone
set_option linter.unusedVariables false
set_option linter.unusedSimpArgs false

end Go.Proofs.YtfbcgjkagdbckaaDoor.XTf
