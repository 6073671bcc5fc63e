/-
PLAIN LAW: the statement FormulaLattice.
-/
import Derived.Test.YtfbcgjkagdbckaaDoorLawsF3
namespace Go.Proofs.YtfbcgjkagdbckaaDoor.Pure
open Go.RowKit Go.Proofs.YtfbcgjkagdbckaaDoor.XFl Go.Proofs.YtfbcgjkagdbckaaDoorW.PrintWords Go.Proofs.YtfbcgjkagdbckaaDoorW.PrintLast Go.Proofs.YtfbcgjkagdbckaaDoorW.PrintMore H

theorem told_iff {e : Int} : (e == 0) = true ↔ e = 0 := by simp
theorem lat6 (k : Nat) (hk : 100 < k) (f g h : List C) (hf : f.length ≤ 20) (hh : h.length ≤ 20) : hypercubelaw03_FormulaLattice.j6 k (LC f) (LC h) (LC (fJoin f g).1) ((fJoin f g).2 == 0) (LC (fJoin g h).1) ((fJoin g h).2 == 0) false = some true := by
  obtain ⟨k, rfl⟩ : ∃ m, k = m + 1 := ⟨k - 1, by omega⟩
  have l1 := fJoin_len g h
  have l2 := fJoin_len f g
  have l3 := fJoin_len f (fJoin g h).1
  rw [hypercubelaw03_FormulaLattice.j6, if_neg (by simp), joinL _ _ (by omega) (by omega), Option.bind_some, toldL, Option.bind_some, joinL _ _ (by omega) (by omega), Option.bind_some, toldL, Option.bind_some]
  show (if ((fJoin g h).2 == 0) = true then (if ((fJoin f (fJoin g h).1).2 == 0) = true then (if ((fJoin f g).2 == 0) = true then (if ((fJoin (fJoin f g).1 h).2 == 0) = true then _ else _) else _) else _) else _) = _
  split
  · rename_i p
    split
    · rename_i t
      split
      · rename_i a
        split
        · rename_i u
          show (hypercuberef02_Same.f k (LC _) (LC _)).bind _ = _
          rw [assoc (told_iff.1 p) (told_iff.1 t) (told_iff.1 a) (told_iff.1 u), same _ _ (by have := fJoin_len (fJoin f g).1 h; omega) (by have := fJoin_len (fJoin f g).1 h; omega), Option.bind_some]
        · rfl
      · rfl
    · rfl
  · rfl
theorem lat5 (k : Nat) (hk : 101 < k) (f g h : List C) (hf : f.length ≤ 20) (hg : g.length ≤ 20) (hh : h.length ≤ 20) : hypercubelaw03_FormulaLattice.j5 k (LC f) (LC g) (LC h) (LC (fJoin f g).1) ((fJoin f g).2 == 0) (LC (fMeet f g).1) ((fMeet f g).2 == 0) = some true := by
  obtain ⟨k, rfl⟩ : ∃ m, k = m + 1 := ⟨k - 1, by omega⟩
  have l1 := fJoin_len g h
  have l2 := fMeet_len f g
  have l3 := fMeet_len f h
  have l4 := fMeet_len f (fJoin g h).1
  have h6 := lat6 k (by omega) f g h hf hh
  rw [hypercubelaw03_FormulaLattice.j5, joinL _ _ (by omega) (by omega), Option.bind_some, toldL, Option.bind_some, meetL _ _ (by omega) (by omega), Option.bind_some, toldL, Option.bind_some, meetL _ _ (by omega) (by omega), Option.bind_some, toldL, Option.bind_some, joinL _ _ (by omega) (by omega), Option.bind_some, toldL, Option.bind_some]
  show (if ((fJoin g h).2 == 0) = true then (if ((fMeet f (fJoin g h).1).2 == 0) = true then (if ((fMeet f g).2 == 0) = true then (if ((fMeet f h).2 == 0) = true then (if ((fJoin (fMeet f g).1 (fMeet f h).1).2 == 0) = true then _ else _) else _) else _) else _) else _) = _
  split
  · rename_i p
    split
    · rename_i q
      split
      · rename_i c
        split
        · rename_i r
          split
          · rename_i s
            show (hypercuberef02_Same.f k (LC _) (LC _)).bind _ = _
            rw [distr (told_iff.1 p) (told_iff.1 q) (told_iff.1 c) (told_iff.1 r) (told_iff.1 s), same _ _ (by have := fJoin_len (fMeet f g).1 (fMeet f h).1; omega) (by have := fJoin_len (fMeet f g).1 (fMeet f h).1; omega), Option.bind_some]
            exact h6
          · exact h6
        · exact h6
      · exact h6
    · exact h6
  · exact h6
theorem lat4 (k : Nat) (hk : 102 < k) (f g h : List C) (hf : f.length ≤ 20) (hg : g.length ≤ 20) (hh : h.length ≤ 20) (b : Bool) (hb : b = true → (fMeet f g).2 = 0) : hypercubelaw03_FormulaLattice.j4 k (LC f) (LC g) (LC h) (LC (fJoin f g).1) ((fJoin f g).2 == 0) (LC (fMeet f g).1) ((fMeet f g).2 == 0) b = some true := by
  obtain ⟨k, rfl⟩ : ∃ m, k = m + 1 := ⟨k - 1, by omega⟩
  have l2 := fMeet_len f g
  have h5 := lat5 k (by omega) f g h hf hg hh
  rw [hypercubelaw03_FormulaLattice.j4]
  cases b
  · exact h5
  · rw [if_pos rfl, joinL _ _ (by omega) (by omega), Option.bind_some, toldL, Option.bind_some]
    show (if ((fJoin f (fMeet f g).1).2 == 0) = true then _ else _) = _
    split
    · rename_i u
      show (hypercuberef02_Same.f k (LC _) (LC _)).bind _ = _
      rw [absorb2 (hb rfl) (told_iff.1 u), same _ _ (by omega) (by omega), Option.bind_some, if_pos rfl]
      exact h5
    · exact h5
theorem lat3 (k : Nat) (hk : 103 < k) (f g h : List C) (hf : f.length ≤ 20) (hg : g.length ≤ 20) (hh : h.length ≤ 20) : hypercubelaw03_FormulaLattice.j3 k (LC f) (LC g) (LC h) (LC (fJoin f g).1) ((fJoin f g).2 == 0) (LC (fMeet f g).1) ((fMeet f g).2 == 0) = some true := by
  obtain ⟨k, rfl⟩ : ∃ m, k = m + 1 := ⟨k - 1, by omega⟩
  rw [hypercubelaw03_FormulaLattice.j3]
  split
  · rename_i c
    rw [rightL f k (by omega) (by omega), Option.bind_some]
    exact lat4 k (by omega) f g h hf hg hh _ fun _ => told_iff.1 c
  · exact lat4 k (by omega) f g h hf hg hh _ fun h => by cases h
theorem lat2 (k : Nat) (hk : 104 < k) (f g h : List C) (hf : f.length ≤ 20) (hg : g.length ≤ 20) (hh : h.length ≤ 20) (b : Bool) (hb : b = true → (fJoin f g).2 = 0) : hypercubelaw03_FormulaLattice.j2 k (LC f) (LC g) (LC h) (LC (fJoin f g).1) ((fJoin f g).2 == 0) (LC (fMeet f g).1) ((fMeet f g).2 == 0) b = some true := by
  obtain ⟨k, rfl⟩ : ∃ m, k = m + 1 := ⟨k - 1, by omega⟩
  have l2 := fJoin_len f g
  have h3 := lat3 k (by omega) f g h hf hg hh
  rw [hypercubelaw03_FormulaLattice.j2]
  cases b
  · exact h3
  · rw [if_pos rfl, meetL _ _ (by omega) (by omega), Option.bind_some, toldL, Option.bind_some]
    show (if ((fMeet f (fJoin f g).1).2 == 0) = true then _ else _) = _
    split
    · rename_i u
      show (hypercuberef02_Same.f k (LC _) (LC _)).bind _ = _
      rw [absorb1 (hb rfl) (told_iff.1 u), same _ _ (by omega) (by omega), Option.bind_some, if_pos rfl]
      exact h3
    · exact h3
theorem lat1 (k : Nat) (hk : 105 < k) (f g h : List C) (hf : f.length ≤ 20) (hg : g.length ≤ 20) (hh : h.length ≤ 20) : hypercubelaw03_FormulaLattice.j1 k (LC f) (LC g) (LC h) (LC (fJoin f g).1) ((fJoin f g).2 == 0) (LC (fMeet f g).1) ((fMeet f g).2 == 0) false = some true := by
  obtain ⟨k, rfl⟩ : ∃ m, k = m + 1 := ⟨k - 1, by omega⟩
  rw [hypercubelaw03_FormulaLattice.j1, if_neg (by simp)]
  split
  · rename_i c
    rw [rightL f k (by omega) (by omega), Option.bind_some]
    exact lat2 k (by omega) f g h hf hg hh _ fun _ => told_iff.1 c
  · exact lat2 k (by omega) f g h hf hg hh _ fun h => by cases h
theorem FormulaLattice (f g h : List C) : ∃ k, hypercubelaw03_FormulaLattice.f k (LC f) (LC g) (LC h) = some true := by
  obtain ⟨k, hk⟩ : ∃ k, k = 200 := ⟨_, rfl⟩
  refine ⟨k + 1, ?_⟩
  have j0t : hypercubelaw03_FormulaLattice.j0 (k + 1) (LC f) (LC g) (LC h) true = some true := by
    rw [hypercubelaw03_FormulaLattice.j0, if_pos rfl]
  unfold hypercubelaw03_FormulaLattice.f
  rw [works _ (by omega), Option.bind_some, if_pos rfl]
  by_cases h1 : f.length > 20
  · rw [if_pos (by rw [LC_len]; omega)]
    exact j0t
  rw [if_neg (by rw [LC_len]; omega)]
  by_cases h2 : g.length > 20
  · rw [if_pos (by rw [LC_len]; omega)]
    exact j0t
  rw [if_neg (by rw [LC_len]; omega)]
  by_cases h3 : h.length > 20
  · rw [decide_eq_true (by rw [LC_len]; omega)]
    exact j0t
  rw [decide_eq_false (by rw [LC_len]; omega), hypercubelaw03_FormulaLattice.j0, if_neg (by simp), joinL _ _ (by omega) (by omega), Option.bind_some, toldL, Option.bind_some, joinL _ _ (by omega) (by omega), Option.bind_some, toldL, Option.bind_some, meetL _ _ (by omega) (by omega), Option.bind_some, toldL, Option.bind_some, meetL _ _ (by omega) (by omega), Option.bind_some, toldL, Option.bind_some,
    fJoin_comm g f, fMeet_comm g f]
  have l1 := fJoin_len f g
  have l2 := fMeet_len f g
  rw [if_neg (by simp), if_neg (by simp)]
  show (hypercuberef02_Same.f k (LC _) (LC _)).bind _ = _
  rw [same _ _ (by omega) (by omega), Option.bind_some, if_pos rfl]
  show (hypercuberef02_Same.f k (LC _) (LC _)).bind _ = _
  rw [same _ _ (by omega) (by omega), Option.bind_some]
  exact lat1 k (by omega) f g h (by omega) (by omega) (by omega)
end Go.Proofs.YtfbcgjkagdbckaaDoor.Pure
