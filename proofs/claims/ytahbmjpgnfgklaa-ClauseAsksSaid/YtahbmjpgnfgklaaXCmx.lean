-- Written for this claim by a program of ours (wip/xp.py), out of the translation and of hand-written contracts.
import Derived.Test.YtahbmjpgnfgklaaXCmx0
import Derived.Test.YtahbmjpgnfgklaaXCmx1
import Derived.Test.YtahbmjpgnfgklaaXCmx2
import Derived.Test.YtahbmjpgnfgklaaXCmx3
import Derived.Test.YtahbmjpgnfgklaaXCmx4
import Derived.Test.YtahbmjpgnfgklaaXCmx5
import Derived.Test.YtahbmjpgnfgklaaXCmx6
import Derived.Test.YtahbmjpgnfgklaaXCmx7
import Derived.Test.YtahbmjpgnfgklaaXCmx8
namespace Go.Proofs.Ytahbmjpgnfgklaa.XCm
open Go.RowKit Go.Proofs.YtahbmjpgnfgklaaW.PrintWords Go.Proofs.YtahbmjpgnfgklaaW.PrintLast Go.Proofs.YtahbmjpgnfgklaaW.PrintMore
attribute [local go_sem] max2_int min2_int max_two min_two max_three min_three max_four min_four   -- for this text's walks alone
set_option linter.unusedVariables false
set_option linter.unusedSimpArgs false

end Go.Proofs.Ytahbmjpgnfgklaa.XCm
