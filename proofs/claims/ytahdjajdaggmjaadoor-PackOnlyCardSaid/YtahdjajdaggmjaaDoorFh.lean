/-
Plain law: faces restricted; the chapter's example.
-/
import Derived.Test.YtahdjajdaggmjaaDoorFd
/-! PLAIN LAW: what a face's restriction says. -/
namespace Go.Proofs.YtahdjajdaggmjaaDoor
open H

section
variable {f : List C} {c d : C} (hf : faceR f = true) (hcd : H.clash (meet c d) = false)
include hf
end
end Go.Proofs.YtahdjajdaggmjaaDoor
/-! PLAIN LAW: the chapter's example, its values. -/
namespace Go.Proofs.YtahdjajdaggmjaaDoor
open H
theorem leastIs {l o : List C} (h1 : l.all ok = true) (h2 : o.length ≤ 64) (h3 : Sorted o) (h4 : ∀ c ∈ o, c ∈ l ∧ ∀ d ∈ l, below c d = true → d = c) (h5 : ∀ c ∈ l, (∀ d ∈ l, below c d = true → d = c) → c ∈ o) : least l = (o, 0) := by
  have h : IsLeast l o := ⟨h3, fun c => ⟨h4 c, fun h => h5 c h.1 h.2⟩⟩
  have e : sortC (keep l) = o := (isLeast_keep l).unique h
  have e2 : (keep l).length = o.length := by rw [← length_sortC, e]
  unfold least
  rw [h1, if_pos rfl, if_pos (by omega), e]
theorem l1 : least [(0, 2), (1, 0)] = ([(0, 2), (1, 0)], 0) := leastIs (by decide) (by decide) (by unfold Sorted; decide) (by decide) (by decide)
theorem l3 : least [(1, 2), (4, 0)] = ([(1, 2), (4, 0)], 0) := leastIs (by decide) (by decide) (by unfold Sorted; decide) (by decide) (by decide)
theorem l4 : least [(0, 1), (1, 0), (2, 0)] = ([(0, 1), (1, 0), (2, 0)], 0) := leastIs (by decide) (by decide) (by unfold Sorted; decide) (by decide) (by decide)
end Go.Proofs.YtahdjajdaggmjaaDoor
