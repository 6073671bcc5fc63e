/-
Walks: face's functions.
-/
import Derived.RangeFuncBox
import Derived.Test.YtahdjajdaggmjaaDoorFc
import Derived.Test.YtahdjajdaggmjaaDoorWAll
import Derived.Test.YtahdjajdaggmjaaDoorWLast
import Derived.Test.YtahdjajdaggmjaaDoorLst
/-! Walk: the inner function of face.All (written by wip/mkdrawn.py). -/
namespace Go.Proofs.YtahdjajdaggmjaaDoor
open Go.RowKit H
open Go.Proofs.YtahdjajdaggmjaaDoorW.PrintWords Go.Proofs.YtahdjajdaggmjaaDoorW.PrintLast Go.Proofs.YtahdjajdaggmjaaDoorW.PrintMore

end Go.Proofs.YtahdjajdaggmjaaDoor
/-! Walk: the inner function of face.Restrict (written by wip/mkdrawn.py). -/
namespace Go.Proofs.YtahdjajdaggmjaaDoor
open Go.RowKit H
open Go.Proofs.YtahdjajdaggmjaaDoorW.PrintWords Go.Proofs.YtahdjajdaggmjaaDoorW.PrintLast Go.Proofs.YtahdjajdaggmjaaDoorW.PrintMore

end Go.Proofs.YtahdjajdaggmjaaDoor
/-! Walks: face.Of, face.Restrict, face.All, face.Holds. -/
namespace Go.Proofs.YtahdjajdaggmjaaDoor
open Go.RowKit H

end Go.Proofs.YtahdjajdaggmjaaDoor
/-! Walks: face.Restrict. -/
namespace Go.Proofs.YtahdjajdaggmjaaDoor
open Go.RowKit H

end Go.Proofs.YtahdjajdaggmjaaDoor
/-! Walks: face.All. -/
namespace Go.Proofs.YtahdjajdaggmjaaDoor
open Go.RowKit H

end Go.Proofs.YtahdjajdaggmjaaDoor
/-! Walk: mask.Has, at a dimension. -/
namespace Go.Proofs.YtahdjajdaggmjaaDoor
open Go.RowKit H
end Go.Proofs.YtahdjajdaggmjaaDoor
