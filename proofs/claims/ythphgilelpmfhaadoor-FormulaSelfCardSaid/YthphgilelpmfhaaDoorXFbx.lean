-- Written for this claim by a program of ours (wip/xp.py), out of the translation and of hand-written contracts.
import Derived.Test.YthphgilelpmfhaaDoorXFbx0
import Derived.Test.YthphgilelpmfhaaDoorXFbx1
import Derived.Test.YthphgilelpmfhaaDoorXFbx2
import Derived.Test.YthphgilelpmfhaaDoorXFbx3
import Derived.Test.YthphgilelpmfhaaDoorXFbx4
import Derived.Test.YthphgilelpmfhaaDoorXFbx5
namespace Go.Proofs.YthphgilelpmfhaaDoor.XFb
open Go.RowKit Go.Proofs.YthphgilelpmfhaaDoorW.PrintWords Go.Proofs.YthphgilelpmfhaaDoorW.PrintLast Go.Proofs.YthphgilelpmfhaaDoorW.PrintMore
attribute [local go_sem] max2_int min2_int max_two min_two max_three min_three max_four min_four   -- for this text's walks alone
set_option linter.unusedVariables false
set_option linter.unusedSimpArgs false

end Go.Proofs.YthphgilelpmfhaaDoor.XFb
