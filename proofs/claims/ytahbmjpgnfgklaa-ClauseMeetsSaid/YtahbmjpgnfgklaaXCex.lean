-- Written for this claim by a program of ours (wip/xp.py), out of the translation and of hand-written contracts.
import Derived.Test.YtahbmjpgnfgklaaXCex0
import Derived.Test.YtahbmjpgnfgklaaXCex1
import Derived.Test.YtahbmjpgnfgklaaXCex2
import Derived.Test.YtahbmjpgnfgklaaXCex3
namespace Go.Proofs.Ytahbmjpgnfgklaa.XCe
open Go.RowKit Go.Proofs.YtahbmjpgnfgklaaW.PrintWords Go.Proofs.YtahbmjpgnfgklaaW.PrintLast Go.Proofs.YtahbmjpgnfgklaaW.PrintMore
attribute [local go_sem] max2_int min2_int max_two min_two max_three min_three max_four min_four   -- for this text's walks alone
set_option linter.unusedVariables false
set_option linter.unusedSimpArgs false

end Go.Proofs.Ytahbmjpgnfgklaa.XCe
