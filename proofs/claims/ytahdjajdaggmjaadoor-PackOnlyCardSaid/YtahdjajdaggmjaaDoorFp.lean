/-
PLAIN LAW: formulas: what joining, meeting, the opposite and putting tell, by what a formula says of a clause. No program in sight.
-/
import Derived.Test.YtahdjajdaggmjaaDoorWd
namespace Go.Proofs.YtahdjajdaggmjaaDoor
open H

/-! ### Told or not -/
/-! ### The package's functions -/
def wo (x : UInt32) (i : Int) : UInt32 := if dimI i = true then (x &&& M24) &&& ~~~(H.one i.toNat) else x &&& M24
def dimsF (f : List C) : UInt32 := (f.foldl (fun s c => s ||| (c.1 ||| c.2)) 0) &&& M24

/-! ### Bits -/
theorem tb_dimsF (f : List C) (j : Nat) : tb (dimsF f) j = (decide (j < 24) && f.any fun c => tb c.1 j || tb c.2 j) := by
  unfold dimsF
  rw [tb_and, tb_M24, Bool.and_comm]
  congr 1
  have key : ∀ (l : List C) (s : UInt32), tb (l.foldl (fun s c => s ||| (c.1 ||| c.2)) s) j = (tb s j || l.any fun c => tb c.1 j || tb c.2 j) := by
    intro l
    induction l with
    | nil => intro s; simp
    | cons c l ih =>
      intro s
      rw [List.foldl_cons, ih, tb_or, tb_or, List.any_cons, Bool.or_assoc]
  rw [key, tb_zero, Bool.false_or]

/-! ### Putting -/
end Go.Proofs.YtahdjajdaggmjaaDoor
