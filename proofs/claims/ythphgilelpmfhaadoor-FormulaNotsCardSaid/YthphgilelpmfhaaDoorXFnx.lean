-- Written for this claim by a program of ours (wip/xp.py), out of the translation and of hand-written contracts.
import Derived.Test.YthphgilelpmfhaaDoorXFnx0
import Derived.Test.YthphgilelpmfhaaDoorXFnx1
import Derived.Test.YthphgilelpmfhaaDoorXFnx2
import Derived.Test.YthphgilelpmfhaaDoorXFnx3
import Derived.Test.YthphgilelpmfhaaDoorXFnx4
import Derived.Test.YthphgilelpmfhaaDoorXFnx5
import Derived.Test.YthphgilelpmfhaaDoorXFnx6
import Derived.Test.YthphgilelpmfhaaDoorXFnx7
import Derived.Test.YthphgilelpmfhaaDoorXFnx8
namespace Go.Proofs.YthphgilelpmfhaaDoor.XFn
open Go.RowKit Go.Proofs.YthphgilelpmfhaaDoorW.PrintWords Go.Proofs.YthphgilelpmfhaaDoorW.PrintLast Go.Proofs.YthphgilelpmfhaaDoorW.PrintMore
attribute [local go_sem] max2_int min2_int max_two min_two max_three min_three max_four min_four   -- for this text's walks alone
set_option linter.unusedVariables false
set_option linter.unusedSimpArgs false

end Go.Proofs.YthphgilelpmfhaaDoor.XFn
