/-
Walk: hypercuberef10.Kids (an array of numbers written out, laid into memory).
-/
import Derived.Deep.WholeRow
import Derived.Laws.Tables
import Derived.Test.YtahdjajdaggmjaaDoorUtab
namespace Go.Proofs.YtahdjajdaggmjaaDoor
open Go.RowKit

def kidTab : List Int := [-1, 0, 0, 0, 2, 1, 2, 2, 2, 1, 1, 3, 1, 3, 2, 2, 1, 1, 1, 0, 0, 0, 4, 1, 0, 0, 1, 5, 2]
/-- How many kids a kind has; below 0: there is no such kind. -/
def kidsI (k : Int) : Int := if k < 0 ∨ 28 < k then -1 else kidTab.getD k.toNat 0
end Go.Proofs.YtahdjajdaggmjaaDoor
