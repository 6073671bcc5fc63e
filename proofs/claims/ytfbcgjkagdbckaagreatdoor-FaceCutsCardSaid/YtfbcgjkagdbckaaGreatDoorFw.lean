/-
PLAIN LAW: the chapter's example of formulas; what the statements on formulas need. No program in sight.
-/
import Derived.Test.YtfbcgjkagdbckaaGreatDoorFp
namespace Go.Proofs.YtfbcgjkagdbckaaGreatDoor
open H
theorem leastIs' {l o : List C} (h1 : l.all ok = true) (h2 : o.length ≤ 64) (h3 : Sorted o) (h4 : ∀ c ∈ o, c ∈ l ∧ ∀ d ∈ l, below c d = true → d = c) (h5 : ∀ c ∈ l, (∀ d ∈ l, below c d = true → d = c) → c ∈ o) : least l = (o, 0) := by
  have h : IsLeast l o := ⟨h3, fun c => ⟨h4 c, fun h => h5 c h.1 h.2⟩⟩
  have e : sortC (keep l) = o := (isLeast_keep l).unique h
  have e2 : (keep l).length = o.length := by rw [← length_sortC, e]
  unfold least
  rw [h1, if_pos rfl, if_pos (by omega), e]
theorem m1 : least [(0, 1), (0, 2)] = ([(0, 1), (0, 2)], 0) := leastIs' (by decide) (by decide) (by unfold Sorted; decide) (by decide) (by decide)
/-! ### The lattice -/
theorem not_not {f : List C} (h1 : (fNot f).2 = 0) (h2 : (fNot (fNot f).1).2 = 0) : (fNot (fNot f).1).1 = f := by
  obtain ⟨r1, _, e1⟩ := fNot_told h1
  obtain ⟨_, r2, e2⟩ := fNot_told h2
  refine right_ext r2 r1 fun c hc => ?_
  rw [e2, e1, dual_dual hc, Bool.not_not]
theorem fNot_len (f : List C) : (fNot f).1.length ≤ 64 := by
  unfold fNot
  split
  · exact notF_len f
  · simp
end Go.Proofs.YtfbcgjkagdbckaaGreatDoor
