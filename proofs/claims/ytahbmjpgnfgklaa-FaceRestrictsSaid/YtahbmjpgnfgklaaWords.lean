/-
Words for the walks: a 32-bit word as the model holds it, its bits.
-/
import Derived.WalkKit
import Derived.BigQuiet
import Derived.Deep.QuietTactic
import Derived.Laws.StructEq
import Derived.Laws.BitsAllLaws
import Derived.Laws.OwnMore

import Derived.Maps.AppendAt
import Derived.Deep.AppendLies
import Derived.Outline
import Derived.Test.YtahbmjpgnfgklaaProg
import Derived.Test.YtahbmjpgnfgklaaCore
namespace Go.Proofs.Ytahbmjpgnfgklaa
open Go.RowKit H

/-- A 32-bit word as a number. -/
def un (x : UInt32) : Int := (x.toNat : Int)
theorem un_range (x : UInt32) : 0 ≤ un x ∧ un x < 4294967296 := by
  have := x.toNat_lt
  unfold un
  omega
theorem un_inj {a b : UInt32} : un a = un b ↔ a = b := by
  unfold un
  rw [Int.ofNat_inj, UInt32.toNat_inj]
theorem un_beq (a b : UInt32) : (un a == un b) = decide (a = b) := by
  rw [Bool.eq_iff_iff]
  simp [un_inj]
theorem un_and (a b : UInt32) : bits .and .u32 (un a) (un b) = un (a &&& b) := by
  unfold un
  rw [u32_and_nat _ _ a.toNat_lt b.toNat_lt, UInt32.toNat_and]
theorem un_or (a b : UInt32) : bits .or .u32 (un a) (un b) = un (a ||| b) := by
  unfold un
  rw [u32_or_nat _ _ a.toNat_lt b.toNat_lt, UInt32.toNat_or]
theorem un_andNot (a b : UInt32) : bits .andNot .u32 (un a) (un b) = un (a &&& ~~~b) := by
  unfold un
  rw [u32_andNot_nat _ _ a.toNat_lt b.toNat_lt, UInt32.toNat_and, UInt32.toNat_not]
  rfl
theorem un_lit (n : Nat) (h : n < 4294967296) : (n : Int) = un (UInt32.ofNat n) := by
  unfold un
  rw [UInt32.toNat_ofNat', Nat.mod_eq_of_lt h]
theorem un_all : (16777215 : Int) = un 16777215 := by decide
theorem un_zero : (0 : Int) = un 0 := by decide

theorem below_then {B : Nat} {w w1 w2 : World} (h : Below B w w1) (hB : B ≤ w1.heap.size) (k : Below w1.heap.size w1 w2) : Below B w w2 := h.trans (k.mono hB)
end Go.Proofs.Ytahbmjpgnfgklaa
