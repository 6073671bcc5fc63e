/-
Plain law: faces restricted; the chapter's example.
-/
import Derived.Test.YthphgilelpmfhaaDoorFd
/-! PLAIN LAW: what a face's restriction says. -/
namespace Go.Proofs.YthphgilelpmfhaaDoor
open H

theorem faceR_iff {f : List C} : faceR f = true ↔ H.right f = true ∧ ∀ x ∈ f, H.clash x = false := by
  unfold faceR
  rw [Bool.and_eq_true, Bool.not_eq_true', List.any_eq_false]
  simp
theorem right_all {f : List C} (h : H.right f = true) : f.all ok = true := (right_iff.1 h).1

section
variable {f : List C} {c d : C} (hf : faceR f = true) (hcd : H.clash (meet c d) = false)
include hf
end
end Go.Proofs.YthphgilelpmfhaaDoor
/-! PLAIN LAW: the chapter's example, its values. -/
namespace Go.Proofs.YthphgilelpmfhaaDoor
open H
theorem leastIs {l o : List C} (h1 : l.all ok = true) (h2 : o.length ≤ 64) (h3 : Sorted o) (h4 : ∀ c ∈ o, c ∈ l ∧ ∀ d ∈ l, below c d = true → d = c) (h5 : ∀ c ∈ l, (∀ d ∈ l, below c d = true → d = c) → c ∈ o) : least l = (o, 0) := by
  have h : IsLeast l o := ⟨h3, fun c => ⟨h4 c, fun h => h5 c h.1 h.2⟩⟩
  have e : sortC (keep l) = o := (isLeast_keep l).unique h
  have e2 : (keep l).length = o.length := by rw [← length_sortC, e]
  unfold least
  rw [h1, if_pos rfl, if_pos (by omega), e]
theorem rightIs {l : List C} (h : least l = (l, 0)) : H.right l = true := by
  unfold H.right
  rw [h]
  simp
theorem l1 : least [(0, 2), (1, 0)] = ([(0, 2), (1, 0)], 0) := leastIs (by decide) (by decide) (by unfold Sorted; decide) (by decide) (by decide)
theorem l3 : least [(1, 2), (4, 0)] = ([(1, 2), (4, 0)], 0) := leastIs (by decide) (by decide) (by unfold Sorted; decide) (by decide) (by decide)
theorem l3' : least [(0, 2), (4, 0)] = ([(0, 2), (4, 0)], 0) := leastIs (by decide) (by decide) (by unfold Sorted; decide) (by decide) (by decide)
theorem l4 : least [(0, 1), (1, 0), (2, 0)] = ([(0, 1), (1, 0), (2, 0)], 0) := leastIs (by decide) (by decide) (by unfold Sorted; decide) (by decide) (by decide)
theorem l4' : least [(2, 0)] = ([(2, 0)], 0) := leastIs (by decide) (by decide) (by unfold Sorted; decide) (by decide) (by decide)
theorem ex1 : ofF [(0, 2), (1, 0)] = ([(0, 2), (1, 0)], 0) := by
  unfold ofF
  rw [if_pos (rightIs l1), show keepC calmP [(0, 2), (1, 0)] = [(0, 2), (1, 0)] by decide +kernel, l1]
theorem ex2 : ofF [(1, 1)] = ([], 0) := by decide +kernel
theorem ex3 : restrF [(1, 2), (4, 0)] (1, 0) = ([(0, 2), (4, 0)], 0) := by
  unfold restrF
  rw [if_pos ⟨faceR_iff.2 ⟨rightIs l3, by decide⟩, by decide⟩, show keepC (restrP (1, 0)) [(1, 2), (4, 0)] = [(0, 2), (4, 0)] by decide +kernel, l3']
theorem ex4 : allF [(0, 1), (1, 0), (2, 0)] 0 = ([(2, 0)], 0) := by
  unfold allF
  rw [if_pos ⟨faceR_iff.2 ⟨rightIs l4, by decide⟩, by decide⟩, show keepC (allP 0) [(0, 1), (1, 0), (2, 0)] = [(2, 0)] by decide +kernel, l4']
end Go.Proofs.YthphgilelpmfhaaDoor
