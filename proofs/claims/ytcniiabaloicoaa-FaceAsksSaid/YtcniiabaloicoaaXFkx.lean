-- Written for this claim by a program of ours (wip/xp.py), out of the translation and of hand-written contracts.
import Derived.Test.YtcniiabaloicoaaXFkx0
import Derived.Test.YtcniiabaloicoaaXFkx1
import Derived.Test.YtcniiabaloicoaaXFkx2
import Derived.Test.YtcniiabaloicoaaXFkx3
import Derived.Test.YtcniiabaloicoaaXFkx4
import Derived.Test.YtcniiabaloicoaaXFkx5
import Derived.Test.YtcniiabaloicoaaXFkx6
namespace Go.Proofs.Ytcniiabaloicoaa.XFk
open Go.RowKit Go.Proofs.YtcniiabaloicoaaW.PrintWords Go.Proofs.YtcniiabaloicoaaW.PrintLast Go.Proofs.YtcniiabaloicoaaW.PrintMore
attribute [local go_sem] max2_int min2_int max_two min_two max_three min_three max_four min_four   -- for this text's walks alone
set_option linter.unusedVariables false
set_option linter.unusedSimpArgs false

end Go.Proofs.Ytcniiabaloicoaa.XFk
