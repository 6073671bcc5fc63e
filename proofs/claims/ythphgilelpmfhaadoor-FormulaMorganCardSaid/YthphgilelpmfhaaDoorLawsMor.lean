/-
PLAIN LAW: the statement FormulaMorgan.
-/
import Derived.Test.YthphgilelpmfhaaDoorLawsF3
namespace Go.Proofs.YthphgilelpmfhaaDoor.Pure
open Go.RowKit Go.Proofs.YthphgilelpmfhaaDoor.XFb Go.Proofs.YthphgilelpmfhaaDoorW.PrintWords Go.Proofs.YthphgilelpmfhaaDoorW.PrintLast Go.Proofs.YthphgilelpmfhaaDoorW.PrintMore H

theorem mor2 (k : Nat) (hk : 100 < k) (f g : List C) (hf : f.length ≤ 16) (hg : g.length ≤ 16) (a : (fNot f).2 = 0) (b : (fNot g).2 = 0) : hypercubelaw03_FormulaMorgan.j2 k (LC f) (LC g) (LC (fNot f).1) (LC (fNot g).1) false = some true := by
  obtain ⟨k, rfl⟩ : ∃ m, k = m + 1 := ⟨k - 1, by omega⟩
  have l1 := fJoin_len f g
  have l2 := fNot_len f
  have l3 := fNot_len g
  have l4 := fNot_len (fJoin f g).1
  have l5 := fMeet_len (fNot f).1 (fNot g).1
  rw [hypercubelaw03_FormulaMorgan.j2, if_neg (by simp), joinL _ _ (by omega) (by omega), Option.bind_some, toldL, Option.bind_some, notL _ (by omega), Option.bind_some, toldL, Option.bind_some, meetL _ _ (by omega) (by omega), Option.bind_some, toldL, Option.bind_some]
  show (if ((fJoin f g).2 == 0) = true then (if ((fNot (fJoin f g).1).2 == 0) = true then (if ((fMeet (fNot f).1 (fNot g).1).2 == 0) = true then _ else _) else _) else _) = _
  split
  · rename_i c
    split
    · rename_i d
      split
      · rename_i e
        show (hypercuberef02_Same.f k (LC _) (LC _)).bind _ = _
        rw [morgan a b (by simpa using c) (by simpa using d) (by simpa using e), same _ _ (by omega) (by omega), Option.bind_some]
      · rfl
    · rfl
  · rfl
theorem FormulaMorgan (f g : List C) : ∃ k, hypercubelaw03_FormulaMorgan.f k (LC f) (LC g) = some true := by
  obtain ⟨k, hk⟩ : ∃ k, k = 200 := ⟨_, rfl⟩
  refine ⟨k + 2, ?_⟩
  have j0t : hypercubelaw03_FormulaMorgan.j0 (k + 2) (LC f) (LC g) true = some true := by
    rw [hypercubelaw03_FormulaMorgan.j0, if_pos rfl]
  have j1t : ∀ x y, hypercubelaw03_FormulaMorgan.j1 (k + 1) (LC f) (LC g) x y true = some true := fun x y => by
    rw [hypercubelaw03_FormulaMorgan.j1, if_pos rfl]
  unfold hypercubelaw03_FormulaMorgan.f
  rw [works _ (by omega), Option.bind_some, if_pos rfl]
  by_cases h1 : f.length > 16
  · rw [if_pos (by rw [LC_len]; omega)]
    exact j0t
  rw [if_neg (by rw [LC_len]; omega)]
  by_cases h2 : g.length > 16
  · rw [decide_eq_true (by rw [LC_len]; omega)]
    exact j0t
  have l2 := fNot_len f
  have l3 := fNot_len (fNot f).1
  rw [decide_eq_false (by rw [LC_len]; omega), hypercubelaw03_FormulaMorgan.j0, if_neg (by simp), notL _ (by omega), Option.bind_some, toldL, Option.bind_some, notL _ (by omega), Option.bind_some, toldL, Option.bind_some]
  show (if ((fNot f).2 == 0) = true then hypercubelaw03_FormulaMorgan.j1 (k + 1) (LC f) (LC g) (LC (fNot f).1) (LC (fNot g).1) (!((fNot g).2 == 0)) else _) = _
  split
  · rename_i a
    cases hb : ((fNot g).2 == 0)
    · exact j1t _ _
    · have a' : (fNot f).2 = 0 := by simpa using a
      have b' : (fNot g).2 = 0 := by simpa using hb
      have h2' := mor2 k (by omega) f g (by omega) (by omega) a' b'
      show hypercubelaw03_FormulaMorgan.j1 (k + 1) (LC f) (LC g) (LC (fNot f).1) (LC (fNot g).1) false = _
      rw [hypercubelaw03_FormulaMorgan.j1, if_neg (by simp), notL _ (by omega), Option.bind_some, toldL, Option.bind_some]
      show (if ((fNot (fNot f).1).2 == 0) = true then _ else _) = _
      split
      · rename_i u
        show (hypercuberef02_Same.f k (LC _) (LC _)).bind _ = _
        rw [not_not a' (by simpa using u), same _ _ (by omega) (by omega), Option.bind_some]
        exact h2'
      · exact h2'
  · exact j1t _ _
end Go.Proofs.YthphgilelpmfhaaDoor.Pure
