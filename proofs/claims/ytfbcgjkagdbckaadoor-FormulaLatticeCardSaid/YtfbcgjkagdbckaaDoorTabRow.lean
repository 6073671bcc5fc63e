/-
From a row's list of variables to the table's cells; a start for the witness in which the table lies.
-/
import Derived.Test.YtfbcgjkagdbckaaDoorRows
import Derived.WalkKit
import Derived.ProofKit
import Derived.OpenShut
import Derived.Deep.DeepHandedRow
import Derived.Lib.LaidTab
import Derived.Test.YtfbcgjkagdbckaaDoorLz
namespace Go.Proofs.YtfbcgjkagdbckaaDoor
open Go.ChangeShapes Go.WideShapes Go.ChangeAt Go.RowKit

theorem own_knob : ownKnob Tryd.prog.godebug = none := by kernel_rfl
theorem gTab : Tryd.prog.globalNamed "math/bits.deBruijn32tab" = some 3 := by kernel_rfl
theorem gTabType : (Tryd.prog.globals[3]?).map (·.type) = some 123 := by kernel_rfl
theorem gTabCells : Tryd.prog.cellsOf 123 = 32 := by kernel_rfl
theorem gTabElem : Tryd.prog.cellsOf 5 = 1 := by kernel_rfl
def tabInts : List Int := Lib.deBruijn32tab.map fun n : Nat => (n : Int)
theorem tab_data {H : Type} : (Rows.laid_math_bits_deBruijn32tab : DataW H) = Lib.tabData .u8 tabInts := rfl
theorem tab_of {W : World} (h : laidMetH Tryd.prog [("math/bits.deBruijn32tab", Rows.laid_math_bits_deBruijn32tab)] W) : Tab W := by
  have ht : Lib.TabIs Tryd.prog W "math/bits.deBruijn32tab" .u8 tabInts := Lib.tabIs_of_head (rest := []) gTab gTabType Tryd.underlying123 Tryd.underlying5 gTabElem gTabCells h
  intro j hj
  have hc := ht.cell gTab j (by simpa [tabInts, Lib.deBruijn32tab] using hj)
  rw [hc]
  have : ∀ j, j < 32 → tabInts.getD j 0 = ((Lib.deBruijn32tab.getD j 0 : Nat) : Int) := by decide
  rw [this j hj]
def tabG : Nat := 3
theorem own : ownKnob Tryd.prog.godebug = none := own_knob
def tabCells : Array Value := (tabInts.map fun n => Value.int .u8 n).toArray
/-- A start's memory: the table's block holds what its initialiser lays. -/
def laidHeap (h : Array Obj) : Array Obj := h.modify tabG fun
  | .cells _ t frozen => .cells tabCells t frozen
  | o => o
end Go.Proofs.YtfbcgjkagdbckaaDoor
