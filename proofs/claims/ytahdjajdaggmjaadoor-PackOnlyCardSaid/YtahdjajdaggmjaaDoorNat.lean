/-
PLAIN LAW: sets of dimensions as sums of powers of two.
-/
import Derived.Test.YtahdjajdaggmjaaDoorCore
namespace Go.Proofs.YtahdjajdaggmjaaDoor.H

def sumPow : List Nat → Nat
  | [] => 0
  | a :: l => 2 ^ a + sumPow l
def dimsN (n : Nat) : List Nat := (List.range 24).filter fun i => n.testBit i
/-- Moved from 'from' on, by 'by_'. -/
def moved (from_ by_ x : Nat) : Nat := if x < from_ then x else x + by_
def lifted (n from_ by_ : Nat) : Nat := sumPow ((dimsN n).map (moved from_ by_))
end Go.Proofs.YtahdjajdaggmjaaDoor.H
