/-
Plain law: faces restricted; the chapter's example.
-/
import Derived.Test.YtfbcgjkagdbckaaGreatDoorFd
/-! PLAIN LAW: what a face's restriction says. -/
namespace Go.Proofs.YtfbcgjkagdbckaaGreatDoor
open H

theorem clash_iff {c : C} : H.clash c = false ↔ ∀ i, tb c.1 i = true → tb c.2 i = true → False := by
  unfold H.clash
  rw [decide_eq_false_iff_not, ne_eq, Decidable.not_not]
  constructor
  · intro h i h1 h2
    have h3 := tb_and c.1 c.2 i
    rw [h, tb_zero, h1, h2] at h3
    exact absurd h3 (by decide)
  · intro h
    refine tb_ext fun i => ?_
    rw [tb_and, tb_zero]
    cases h1 : tb c.1 i
    · rfl
    · cases h2 : tb c.2 i
      · rfl
      · exact (h i h1 h2).elim
theorem tb_off (a b : UInt32) (i : Nat) : tb (a &&& ~~~b) i = (tb a i && !tb b i) := by
  rw [tb_and, tb_not]
  cases h : tb a i
  · rfl
  · simp [tb_lt h]
theorem clash_below {c d : C} (hb : below c d = true) (h : H.clash c = false) : H.clash d = false := by
  rw [clash_iff] at *
  rw [below_bits] at hb
  exact fun i h1 h2 => h i (hb.1 i h1) (hb.2 i h2)
theorem faceR_iff {f : List C} : faceR f = true ↔ H.right f = true ∧ ∀ x ∈ f, H.clash x = false := by
  unfold faceR
  rw [Bool.and_eq_true, Bool.not_eq_true', List.any_eq_false]
  simp
theorem mem_keepC {p : C → C × Bool} {l : List C} {x : C} : x ∈ keepC p l ↔ ∃ y ∈ l, (p y).2 = true ∧ (p y).1 = x := by
  unfold keepC
  rw [List.mem_map]
  constructor
  · rintro ⟨y, hy, rfl⟩
    rw [List.mem_filter] at hy
    exact ⟨y, hy.1, hy.2, rfl⟩
  · rintro ⟨y, hy, h, rfl⟩
    exact ⟨y, List.mem_filter.2 ⟨hy, h⟩, rfl⟩
theorem least_told {l : List C} (h : l.all ok = true) (hl : l.length ≤ 64) : (least l).2 = 0 := by
  have := length_keep l
  rcases least_cases l with ⟨h1, e⟩ | ⟨h1, h2, e⟩ | ⟨h1, h2, e⟩
  · rw [h] at h1; cases h1
  · omega
  · rw [e]
theorem least_sub {l : List C} (h : (least l).2 = 0) {x : C} (hx : x ∈ (least l).1) : x ∈ l := by
  rw [least_ok h] at hx
  exact (((isLeast_keep l).2 x).1 hx).1
theorem right_all {f : List C} (h : H.right f = true) : f.all ok = true := (right_iff.1 h).1

section
variable {f : List C} {c d : C} (hf : faceR f = true) (hcd : H.clash (meet c d) = false)
include hf
end
end Go.Proofs.YtfbcgjkagdbckaaGreatDoor
/-! PLAIN LAW: the chapter's example, its values. -/
namespace Go.Proofs.YtfbcgjkagdbckaaGreatDoor
open H
theorem leastIs {l o : List C} (h1 : l.all ok = true) (h2 : o.length ≤ 64) (h3 : Sorted o) (h4 : ∀ c ∈ o, c ∈ l ∧ ∀ d ∈ l, below c d = true → d = c) (h5 : ∀ c ∈ l, (∀ d ∈ l, below c d = true → d = c) → c ∈ o) : least l = (o, 0) := by
  have h : IsLeast l o := ⟨h3, fun c => ⟨h4 c, fun h => h5 c h.1 h.2⟩⟩
  have e : sortC (keep l) = o := (isLeast_keep l).unique h
  have e2 : (keep l).length = o.length := by rw [← length_sortC, e]
  unfold least
  rw [h1, if_pos rfl, if_pos (by omega), e]
theorem rightIs {l : List C} (h : least l = (l, 0)) : H.right l = true := by
  unfold H.right
  rw [h]
  simp
theorem l1 : least [(0, 2), (1, 0)] = ([(0, 2), (1, 0)], 0) := leastIs (by decide) (by decide) (by unfold Sorted; decide) (by decide) (by decide)
theorem l3 : least [(1, 2), (4, 0)] = ([(1, 2), (4, 0)], 0) := leastIs (by decide) (by decide) (by unfold Sorted; decide) (by decide) (by decide)
theorem l3' : least [(0, 2), (4, 0)] = ([(0, 2), (4, 0)], 0) := leastIs (by decide) (by decide) (by unfold Sorted; decide) (by decide) (by decide)
theorem l4 : least [(0, 1), (1, 0), (2, 0)] = ([(0, 1), (1, 0), (2, 0)], 0) := leastIs (by decide) (by decide) (by unfold Sorted; decide) (by decide) (by decide)
theorem l4' : least [(2, 0)] = ([(2, 0)], 0) := leastIs (by decide) (by decide) (by unfold Sorted; decide) (by decide) (by decide)
theorem ex1 : ofF [(0, 2), (1, 0)] = ([(0, 2), (1, 0)], 0) := by
  unfold ofF
  rw [if_pos (rightIs l1), show keepC calmP [(0, 2), (1, 0)] = [(0, 2), (1, 0)] by decide +kernel, l1]
theorem ex2 : ofF [(1, 1)] = ([], 0) := by decide +kernel
theorem ex3 : restrF [(1, 2), (4, 0)] (1, 0) = ([(0, 2), (4, 0)], 0) := by
  unfold restrF
  rw [if_pos ⟨faceR_iff.2 ⟨rightIs l3, by decide⟩, by decide⟩, show keepC (restrP (1, 0)) [(1, 2), (4, 0)] = [(0, 2), (4, 0)] by decide +kernel, l3']
theorem ex4 : allF [(0, 1), (1, 0), (2, 0)] 0 = ([(2, 0)], 0) := by
  unfold allF
  rw [if_pos ⟨faceR_iff.2 ⟨rightIs l4, by decide⟩, by decide⟩, show keepC (allP 0) [(0, 1), (1, 0), (2, 0)] = [(2, 0)] by decide +kernel, l4']
end Go.Proofs.YtfbcgjkagdbckaaGreatDoor
