/-
Walk: slices.SortFunc of a slice of the call's own that holds clauses.
-/
import Derived.Test.YtahbmjpgnfgklaaSortC
namespace Go.Proofs.Ytahbmjpgnfgklaa
open Go.RowKit H
open Go.Sort hiding Below

theorem ltOf_cmpC : Go.Proofs.ltOf cmpC = ltC := by
  funext a b
  unfold Go.Proofs.ltOf cmpC
  cases h : ltC a b
  · by_cases h2 : ltC b a = true <;> simp [h2]
  · simp
theorem flatK_cc (l : List C) : flatK cc 2 l.toArray = (flat l).toArray := by
  apply Array.ext
  · rw [size_flatK]
    simp [flat_length]
  · intro i h1 h2
    rw [size_flatK] at h1
    simp only [List.size_toArray] at h1 h2
    have hj : i / 2 < l.length := by omega
    obtain ⟨g0, g1⟩ := flat_get l (i / 2) hj
    have e1 : (flatK cc 2 l.toArray)[i]'(by rw [size_flatK]; simpa using h1) = (cc (l.toArray[i / 2]!))[i % 2]! := by
      unfold flatK
      simp
    rw [e1]
    have e2 : l.toArray[i / 2]! = l[i / 2] := by simp [hj]
    rw [e2]
    simp only [List.getElem_toArray]
    rcases Nat.mod_two_eq_zero_or_one i with h | h
    · have e : i / 2 * 2 = i := by omega
      rw [e] at g0
      have := (List.getElem?_eq_some_iff.1 g0).2
      rw [this, h]
      rfl
    · have e : i / 2 * 2 + 1 = i := by omega
      rw [e] at g1
      have := (List.getElem?_eq_some_iff.1 g1).2
      rw [this, h]
      rfl
theorem holdsF {w : World} {g : Nat} {cur : Array Value} {e : TypeId} {F : List Value} (hb : w.heap[g]? = some (.cells cur e (0, 0))) (ht : cur.toList.take F.length = F) : Holds id w g 0 F.toArray := by
  intro j hj
  have hj' : j < F.length := by simpa using hj
  refine ⟨?_, by simp [World.frozen?, hb]⟩
  have h1 : (cur.toList.take F.length)[j]? = F[j]? := by rw [ht]
  rw [List.getElem?_take_of_lt hj'] at h1
  simp only [World.cell?, hb, Nat.zero_add]
  simp only [Option.isSome_none, Bool.false_eq_true, if_false]
  rw [← Array.getElem?_toList, h1]
  simp [hj']
theorem heapF {w : World} {g n : Nat} {os : Array Obj} {cur : Array Value} {e : TypeId} {fr : Nat × Nat} (d : Array Value) (hb : w.heap[g]? = some (.cells cur e fr)) :
    (grow (putRow id (Sort.ahead w n) g 0 d) os).heap[g]? = some (.cells (putCells id 0 d cur) e fr) := by
  have hg : g < w.heap.size := (Array.getElem?_eq_some_iff.1 hb).1
  rw [heap_grow_old _ _ (by simpa using hg)]
  simp [putRow, mapBlock, Sort.ahead, Array.getElem?_modify, hb, onCells]
theorem grownF {w : World} {g n : Nat} {os : Array Obj} (d : Array Value) : w.grownBy (grow (putRow id (Sort.ahead w n) g 0 d) os) (some g) := by
  refine ⟨rfl, rfl, rfl, by simp, fun k hk hne => ?_⟩
  rw [heap_grow_old _ _ (by simpa using hk)]
  have : g ≠ k := fun e => hne (by rw [e])
  simp [putRow, mapBlock, Sort.ahead, Array.getElem?_modify, this]
theorem takeF (cur : Array Value) (F : List Value) (h : F.length ≤ cur.size) : (putCells id 0 F.toArray cur).toList.take F.length = F := by
  apply List.ext_getElem?
  intro j
  by_cases hj : j < F.length
  · rw [List.getElem?_take_of_lt hj, Array.getElem?_toList]
    simp [putCells, hj, show j < cur.size by omega]
  · rw [List.getElem?_take_eq_none (by omega), List.getElem?_eq_none (by omega)]

theorem swo_ltC : SWO ltC where
  irrefl := ltC_irrefl
  trans _ _ _ := ltC_trans
  ntrans x y z h1 h2 := by
    cases h3 : ltC x z
    · rfl
    · by_cases e : x = y
      · subst e; rw [h3] at h2; cases h2
      · rcases ltC_total e with h4 | h4
        · rw [h4] at h1; cases h1
        · rw [ltC_trans h4 h3] at h2; cases h2
theorem total_ltC (x y : C) (h1 : ltC x y = false) (h2 : ltC y x = false) : x = y := by
  by_cases e : x = y
  · exact e
  · rcases ltC_total e with h | h
    · rw [h] at h1; cases h1
    · rw [h] at h2; cases h2
theorem sort_own (l : List C) (v : Value) (base : Nat) (w : World) (h : Own w base v l) :
    Calls Try.prog 49 #[v, .func (.func 16) #[] #[]] w fun e w' => e = .returned (.tuple #[]) ∧ Own w' base v (sortC l) ∧ Below base w w' := by
  rcases h.1.2 with ⟨rfl, h0⟩ | ⟨g, cap, cur, rfl, hbase, hb, h1, h2, h3, h4⟩
  · have hl : l = [] := List.eq_nil_of_length_eq_zero h0
    subst hl
    refine (Go.Proofs.AnyF.slices_SortFunc_none (P := Try.prog) (ρ := Try.sortC_ren) { Try.sortC with } none 0 _ w).mono ?_
    rintro e w' ⟨rfl, rfl⟩
    have e : sortC [] = [] := by simp [sortC]
    rw [e]
    exact ⟨rfl, h, Below.refl _ _⟩
  · have hglt : g < w.heap.size := (Array.getElem?_eq_some_iff.1 hb).1
    have hH : HoldsK cc 2 w g 0 l.toArray := by
      unfold HoldsK
      rw [flatK_cc]
      exact holdsF hb (by rw [flat_length]; exact h4)
    have eg : ∀ args w, (callFunc 16 args).run Try.prog w = .ok (.enter 16 args) w := enters_of Try.func16 (by kernel_rfl) rfl
    have hO : SWO (Go.Proofs.ltOf cmpC) := by
      rw [ltOf_cmpC]
      exact swo_ltC
    have hT : ∀ x y, (Go.Proofs.ltOf cmpC) x y = false → (Go.Proofs.ltOf cmpC) y x = false → x = y := by
      rw [ltOf_cmpC]
      exact total_ltC
    have hs := h.2
    refine (Go.Proofs.AnyQ.slices_SortFunc_total (P := Try.prog) (ρ := Try.sortC_ren) Try.sortC 2 Try.isAgg24 Try.sizeOf24 cc (fun _ => rfl) (fun x u hu => by simp [cc] at hu; rcases hu with rfl | rfl <;> rfl) cmpC hO
      16 #[] g 0 cap l.toArray w eg (fun _ _ _ _ x y => clause_cmp x y _) hH hglt (by simp; omega) hT).mono ?_
    rintro e w' ⟨rfl, n, os, rfl⟩
    rw [ltOf_cmpC]
    have hsl := length_sortC l
    change _ ∧ Own (grow (putRow id (Sort.ahead w n) g 0 (flatK cc 2 (sortC l).toArray)) os) _ _ _ ∧ Below base w (grow (putRow id (Sort.ahead w n) g 0 (flatK cc 2 (sortC l).toArray)) os)
    rw [flatK_cc]
    have hg := grownF (w := w) (g := g) (n := n) (os := os) (flat (sortC l)).toArray
    refine ⟨rfl, ⟨⟨by rw [flat_length], .inr ⟨g, cap, _, by rw [hsl], hbase, heapF _ hb, by omega, h2, by simp [putCells, h3], ?_⟩⟩, by omega⟩, ?_⟩
    · have := takeF cur (flat (sortC l)) (by rw [flat_length, h3, hsl]; exact Nat.mul_le_mul_right _ h1)
      rw [flat_length] at this
      exact this
    · exact ⟨hg.os, hg.tape, hg.output, hg.size, fun k hk => hg.block k (by have := hg.size; omega) (by simp; omega)⟩
end Go.Proofs.Ytahbmjpgnfgklaa
