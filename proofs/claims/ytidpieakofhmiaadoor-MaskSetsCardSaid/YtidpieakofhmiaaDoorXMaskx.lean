-- Written for this claim by a program of ours (wip/xp.py), out of the translation and of hand-written contracts.
import Derived.Test.YtidpieakofhmiaaDoorXMaskx0
import Derived.Test.YtidpieakofhmiaaDoorXMaskx1
import Derived.Test.YtidpieakofhmiaaDoorXMaskx2
import Derived.Test.YtidpieakofhmiaaDoorXMaskx3
import Derived.Test.YtidpieakofhmiaaDoorXMaskx4
import Derived.Test.YtidpieakofhmiaaDoorXMaskx5
namespace Go.Proofs.YtidpieakofhmiaaDoor.XMask
open Go.RowKit Go.Proofs.YtidpieakofhmiaaDoorW.PrintWords Go.Proofs.YtidpieakofhmiaaDoorW.PrintLast Go.Proofs.YtidpieakofhmiaaDoorW.PrintMore
attribute [local go_sem] max2_int min2_int max_two min_two max_three min_three max_four min_four   -- for this text's walks alone
set_option linter.unusedVariables false
set_option linter.unusedSimpArgs false

end Go.Proofs.YtidpieakofhmiaaDoor.XMask
