/-
From a row's list of variables to the tables' cells (the library's table and the three of truth); a start for the witness in which they lie.
-/
import Derived.Test.YtfbcgjkagdbckaaDoorRows
import Derived.WalkKit
import Derived.ProofKit
import Derived.OpenShut
import Derived.Deep.DeepHandedRow
import Derived.Lib.LaidTab
import Derived.Test.YtfbcgjkagdbckaaDoorTt
namespace Go.Proofs.YtfbcgjkagdbckaaDoor
open Go.ChangeShapes Go.WideShapes Go.ChangeAt Go.RowKit

theorem own_knob : ownKnob Tryd.prog.godebug = none := by kernel_rfl
theorem gTab : Tryd.prog.globalNamed "math/bits.deBruijn32tab" = some 3 := by kernel_rfl
theorem gMeets : Tryd.prog.globalNamed "hypercube/truth.meets" = some 0 := by kernel_rfl
theorem gJoins : Tryd.prog.globalNamed "hypercube/truth.joins" = some 1 := by kernel_rfl
theorem gNots : Tryd.prog.globalNamed "hypercube/truth.nots" = some 2 := by kernel_rfl
theorem gTabType : (Tryd.prog.globals[3]?).map (·.type) = some 123 := by kernel_rfl
theorem gMeetsType : (Tryd.prog.globals[0]?).map (·.type) = some 73 := by kernel_rfl
theorem gJoinsType : (Tryd.prog.globals[1]?).map (·.type) = some 73 := by kernel_rfl
theorem gNotsType : (Tryd.prog.globals[2]?).map (·.type) = some 72 := by kernel_rfl
theorem gTabCells : Tryd.prog.cellsOf 123 = 32 := by kernel_rfl
theorem gTabElem : Tryd.prog.cellsOf 5 = 1 := by kernel_rfl
theorem gInt : Tryd.prog.cellsOf 3 = 1 := by kernel_rfl
theorem g4 : Tryd.prog.cellsOf 72 = 4 := by kernel_rfl
theorem g16 : Tryd.prog.cellsOf 73 = 16 := by kernel_rfl
def tabInts : List Int := Lib.deBruijn32tab.map fun n : Nat => (n : Int)
/-- A row of a table of rows. -/
theorem cells_of_rows {H : Type} {enc : TypeId × Value → H} {P : Program} {w : World} {base : Nat} {sp : Nat → Bool} {held : Bool} {fuel : Nat} {t e e2 : TypeId} {n m : Nat} {k : IntKind} {cs : List Value} {zs : List (List Int)} {p : List MemPlace}
    (ht : P.underlying t = some (.array n e)) (he : P.underlying e = some (.array m e2)) (he2 : P.underlying e2 = some (.int k)) (hc2 : P.cellsOf e2 = 1) (hce : P.cellsOf e = m) (hct : P.cellsOf t = n * m)
    (h : DataW.trod enc P w base sp held fuel t cs = some (.agg (zs.map (Lib.tabData k)), p)) (i : Nat) (hi : i < n) (j : Nat) (hj : j < m) (z : Int) (hz : (zs.getD i []).getD j 0 = z) (hl : ∀ x ∈ zs, x.length = m) : cs[i * m + j]? = some (.int k z) := by
  cases fuel with
  | zero => simp [DataW.trod] at h
  | succ fuel =>
    simp only [DataW.trod, ht, hce, hct] at h
    split at h
    · rename_i hlen
      obtain ⟨xs, hm, hx⟩ := Option.map_eq_some_iff.1 h
      have hxs : xs.map (·.1) = zs.map (Lib.tabData k) := by
        have := congrArg Prod.fst hx
        simpa using this
      obtain ⟨b, hb, hf⟩ := Lib.mapM_at hm i i (by simp [hi])
      have h2 : (xs.map (·.1))[i]? = some b.1 := by rw [List.getElem?_map, hb]; rfl
      rw [hxs, List.getElem?_map] at h2
      obtain ⟨r, hr, hrb⟩ := Option.map_eq_some_iff.1 h2
      have hf' : DataW.trod enc P w base sp held fuel e ((cs.drop (i * m)).take m) = some (Lib.tabData k r, b.2) := by rw [hrb]; exact hf
      have hc := Lib.cells_of_tab he he2 hc2 hce hf'
      have hrl : r.length = m := hl r (List.mem_of_getElem? hr)
      have h3 : ((cs.drop (i * m)).take m)[j]? = some (.int k z) := by
        rw [hc, List.getElem?_map]
        have : r[j]? = some z := by
          rw [List.getD_eq_getElem?_getD (l := zs), hr] at hz
          replace hz : r.getD j 0 = z := hz
          rw [List.getD_eq_getElem?_getD, List.getElem?_eq_getElem (by omega)] at hz
          rw [List.getElem?_eq_getElem (by omega)]
          exact congrArg some hz
        rw [this]
        rfl
      rw [List.getElem?_take, if_pos hj, List.getElem?_drop] at h3
      exact h3
    · cases h
theorem tab_of {W : World} (h : laidMetH Tryd.prog [("math/bits.deBruijn32tab", Rows.laid_math_bits_deBruijn32tab), ("hypercube/truth.meets", Rows.laid_hypercube_truth_meets), ("hypercube/truth.joins", Rows.laid_hypercube_truth_joins), ("hypercube/truth.nots", Rows.laid_hypercube_truth_nots)] W) : TabT W := by
  have h' : laidMet Tryd.prog [("math/bits.deBruijn32tab", Rows.laid_math_bits_deBruijn32tab), ("hypercube/truth.meets", Rows.laid_hypercube_truth_meets), ("hypercube/truth.joins", Rows.laid_hypercube_truth_joins), ("hypercube/truth.nots", Rows.laid_hypercube_truth_nots)] W := h
  have ht : Lib.TabIs Tryd.prog W "math/bits.deBruijn32tab" .u8 tabInts := Lib.tabIs_of_head gTab gTabType Tryd.underlying123 Tryd.underlying5 gTabElem gTabCells h'
  obtain ⟨_, ⟨_, _, _, _, _, _, _, _, _, _, ⟨g1, t1, cs1, fu1, p1, q1, eg1, et1, ev1, ed1, ⟨g2, t2, cs2, fu2, p2, q2, eg2, et2, ev2, ed2, ⟨g3, t3, cs3, fu3, p3, q3, eg3, et3, ev3, ed3, _, _⟩, _⟩, _⟩, _⟩, _, _⟩ := h'
  obtain rfl := Option.some.inj (gMeets.symm.trans eg1)
  obtain rfl := Option.some.inj (gMeetsType.symm.trans et1)
  obtain rfl := Option.some.inj (gJoins.symm.trans eg2)
  obtain rfl := Option.some.inj (gJoinsType.symm.trans et2)
  obtain rfl := Option.some.inj (gNots.symm.trans eg3)
  obtain rfl := Option.some.inj (gNotsType.symm.trans et3)
  refine ⟨fun j hj => ?_, fun j hj => ?_, fun j hj => ?_, fun j hj => ?_⟩
  · have hc := ht.cell gTab j (by simpa [tabInts, Lib.deBruijn32tab] using hj)
    rw [hc]
    have : ∀ j, j < 32 → tabInts.getD j 0 = ((Lib.deBruijn32tab.getD j 0 : Nat) : Int) := by decide
    rw [this j hj]
  · have hd : ∀ j, j < 16 → ([[0, 0, 0, 0], [0, 1, 2, 3], [0, 2, 2, 0], [0, 3, 0, 3]].getD (j / 4) []).getD (j % 4) 0 = meetTab.getD j 0 := by decide
    have h1 := cells_of_rows (zs := [[0, 0, 0, 0], [0, 1, 2, 3], [0, 2, 2, 0], [0, 3, 0, 3]]) Tryd.underlying73 Tryd.underlying72 Tryd.underlying3 gInt g4 g16 ed1 (j / 4) (by omega) (j % 4) (by omega) _ (hd j hj) (by decide)
    rw [show j / 4 * 4 + j % 4 = j by omega] at h1
    have h2 := World.var?_cell gMeets ev1 j
    rw [h2]
    simpa using h1
  · have hd : ∀ j, j < 16 → ([[0, 1, 2, 3], [1, 1, 1, 1], [2, 1, 2, 1], [3, 1, 1, 3]].getD (j / 4) []).getD (j % 4) 0 = joinTab.getD j 0 := by decide
    have h1 := cells_of_rows (zs := [[0, 1, 2, 3], [1, 1, 1, 1], [2, 1, 2, 1], [3, 1, 1, 3]]) Tryd.underlying73 Tryd.underlying72 Tryd.underlying3 gInt g4 g16 ed2 (j / 4) (by omega) (j % 4) (by omega) _ (hd j hj) (by decide)
    rw [show j / 4 * 4 + j % 4 = j by omega] at h1
    have h2 := World.var?_cell gJoins ev2 j
    rw [h2]
    simpa using h1
  · have h1 := Lib.cells_of_tab (zs := notTab) Tryd.underlying72 Tryd.underlying3 gInt g4 ed3
    have h2 := World.var?_cell gNots ev3 j
    rw [h2, ← Array.getElem?_toList, h1]
    have hd : ∀ j, j < 4 → notTab[j]? = some (notTab.getD j 0) := by decide
    rw [List.getElem?_map, hd j hj]
    rfl
theorem own : ownKnob Tryd.prog.godebug = none := own_knob
def tabCells : Array Value := (tabInts.map fun n => Value.int .u8 n).toArray
/-- A start's memory: the tables' blocks hold what their initialisers lay. -/
def laidHeap (h : Array Obj) : Array Obj :=
  let put (h : Array Obj) (g : Nat) (cs : Array Value) : Array Obj := h.modify g fun
    | .cells _ t frozen => .cells cs t frozen
    | o => o
  put (put (put (put h 3 tabCells) 0 (meetTab.map fun n => Value.int .i64 n).toArray) 1 (joinTab.map fun n => Value.int .i64 n).toArray) 2 (notTab.map fun n => Value.int .i64 n).toArray
end Go.Proofs.YtfbcgjkagdbckaaDoor
