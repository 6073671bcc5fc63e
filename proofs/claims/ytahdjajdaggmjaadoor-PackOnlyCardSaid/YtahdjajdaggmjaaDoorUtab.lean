/-
The tables of the decoder and of the lexer's signs, as their initialisers lay them.
-/
import Derived.WalkMore
import Derived.Deep.LoopGhost
import Derived.Lib.Hide
import Derived.Test.YtahdjajdaggmjaaDoorWWords
import Derived.Test.YtahdjajdaggmjaaDoorWd
import Derived.Test.YtahdjajdaggmjaaDoorUtfLay
namespace Go.Proofs.YtahdjajdaggmjaaDoor
open Go.RowKit

/-- The signs, in their order. -/
def signTab : List (List UInt8) := [[45, 62], [47, 92], [92, 47], [40], [41], [91], [93], [44], [46], [58], [59], [61], [92], [60], [62], [64], [126], [42], [48], [49]]
def signV (j : Nat) : ByteArray := ⟨(signTab.getD j []).toArray⟩
def signArr : Array Value := (signTab.map fun l => Value.string ⟨l.toArray⟩).toArray
/-- The library's two tables and the lexer's signs lie in their variables. -/
structure Tab (w : World) : Prop where
  utf : Lib.Utf8Tabs 1 2 w
  signs : ∃ t fr, w.heap[0]? = some (.cells signArr t fr)
theorem Tab.below {w w1 : World} (h : Tab w) (hb : Below w.heap.size w w1) : Tab w1 := by
  refine ⟨Utf8Tabs_below h.utf hb, ?_⟩
  obtain ⟨t, fr, hs⟩ := h.signs
  refine ⟨t, fr, (hb.block _ ?_).trans hs⟩
  exact (Array.getElem?_eq_some_iff.1 hs).1
/-- A block of the call's own, behind a callee that left it alone. -/
theorem own_cell {w w2 : World} {cs : Array Value} {t : TypeId} (hb : Below (w.alloc (.cells cs t)).heap.size (w.alloc (.cells cs t)) w2) : w2.heap[w.heap.size]? = some (.cells cs t (0, 0)) := by
  rw [hb.block _ (by simp)]
  exact Array.getElem?_push_size
theorem own_at {w : World} {b : Nat} {cs : Array Value} {t : TypeId} (h : w.heap[b]? = some (.cells cs t (0, 0))) (i : Nat) (v : Value) (hv : cs[i]? = some v) :
    w.cell? ⟨b, i, none⟩ = some v ∧ w.frozen? ⟨b, i, none⟩ = false := by
  constructor
  · simp [World.cell?, h, hv]
  · simp [World.frozen?, h]
/-- A cell written twice holds what was written last. -/
theorem setCell_twice (w : World) (a : Addr) (x y : Value) : (w.setCell a x).setCell a y = w.setCell a y := by
  unfold World.setCell
  congr 1
  apply Array.ext_getElem?
  intro i
  simp only [Array.getElem?_modify]
  by_cases h : a.block = i
  · rw [if_pos h, if_pos h, if_pos h, Option.map_map]
    congr 1
    funext o
    cases o with
    | cells c e f =>
      simp only [Function.comp_apply]
      cases a.spot with
      | some s => rfl
      | none =>
        simp only [Option.isSome_none, Bool.false_eq_true, if_false]
        congr 1
        simp
    | _ => rfl
  · rw [if_neg h, if_neg h, if_neg h]
theorem cell_twice (w : World) (a : Addr) (x y : Value) (h : (w.cell? a).isSome = true) : ((w.setCell a x).setCell a y).cell? a = some y := by
  rw [setCell_twice]
  exact World.cell?_setCell_same' w a y h
/-- The decoder. -/
theorem utf8_Decode (s : ByteArray) (w : World) (hT : Tab w) :
    Calls Tryd.prog 38 #[.string s] w fun e w' => e = .returned (.tuple #[.int .i32 ((Lib.decodeGo s).1 : Int), .int .i64 ((Lib.decodeGo s).2 : Int)]) ∧ Below w.heap.size w w' :=
  Tryd.utf8_DecodeRuneInString s w hT.utf
/-- Does a text begin with another one? -/
def hpre (a b : ByteArray) : Bool := b.data.toList.isPrefixOf a.data.toList
end Go.Proofs.YtahdjajdaggmjaaDoor
