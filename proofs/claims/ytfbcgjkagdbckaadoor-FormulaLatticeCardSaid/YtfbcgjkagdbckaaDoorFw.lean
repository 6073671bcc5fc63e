/-
PLAIN LAW: the chapter's example of formulas; what the statements on formulas need. No program in sight.
-/
import Derived.Test.YtfbcgjkagdbckaaDoorFp
namespace Go.Proofs.YtfbcgjkagdbckaaDoor
open H
theorem leastIs' {l o : List C} (h1 : l.all ok = true) (h2 : o.length ≤ 64) (h3 : Sorted o) (h4 : ∀ c ∈ o, c ∈ l ∧ ∀ d ∈ l, below c d = true → d = c) (h5 : ∀ c ∈ l, (∀ d ∈ l, below c d = true → d = c) → c ∈ o) : least l = (o, 0) := by
  have h : IsLeast l o := ⟨h3, fun c => ⟨h4 c, fun h => h5 c h.1 h.2⟩⟩
  have e : sortC (keep l) = o := (isLeast_keep l).unique h
  have e2 : (keep l).length = o.length := by rw [← length_sortC, e]
  unfold least
  rw [h1, if_pos rfl, if_pos (by omega), e]
theorem rightIs' {l : List C} (h : least l = (l, 0)) : H.right l = true := by
  unfold H.right
  rw [h]
  simp
theorem m1 : least [(0, 1), (0, 2)] = ([(0, 1), (0, 2)], 0) := leastIs' (by decide) (by decide) (by unfold Sorted; decide) (by decide) (by decide)
theorem m2 : least [(3, 0)] = ([(3, 0)], 0) := leastIs' (by decide) (by decide) (by unfold Sorted; decide) (by decide) (by decide)
theorem m3 : least [(1, 1)] = ([(1, 1)], 0) := leastIs' (by decide) (by decide) (by unfold Sorted; decide) (by decide) (by decide)
theorem m4 : least [(1, 0)] = ([(1, 0)], 0) := leastIs' (by decide) (by decide) (by unfold Sorted; decide) (by decide) (by decide)
theorem m5 : least [(0, 1)] = ([(0, 1)], 0) := leastIs' (by decide) (by decide) (by unfold Sorted; decide) (by decide) (by decide)
theorem m6 : least [(0, 0)] = ([(0, 0)], 0) := leastIs' (by decide) (by decide) (by unfold Sorted; decide) (by decide) (by decide)
theorem m7 : least [(0, 1), (1, 0)] = ([(0, 1), (1, 0)], 0) := leastIs' (by decide) (by decide) (by unfold Sorted; decide) (by decide) (by decide)
theorem m8 : least [] = ([], 0) := by decide +kernel
theorem w_dim : fDim 0 = ([(1, 0)], 0) := by decide +kernel
theorem w_not : fNot [(3, 0)] = ([(0, 1), (0, 2)], 0) := by
  have e : notStep [top] (3, 0) = ([(0, 1), (0, 2)], 0) := by
    rw [notStep_eq]
    unfold H.meetF
    rw [show opps (3, 0) = [(0, 1), (0, 2)] by decide +kernel, m1, show meets [top] (([((0 : UInt32), (1 : UInt32)), (0, 2)], (0 : Int)) : List C × Int).1 = [(0, 1), (0, 2)] by decide +kernel, m1]
  unfold fNot
  rw [if_pos (rightIs' m2)]
  unfold H.notF foldE
  rw [e, if_pos rfl]
  rfl
theorem w_meet : fMeet [(1, 0)] [(0, 1)] = ([(1, 1)], 0) := by
  unfold fMeet
  rw [if_pos ⟨rightIs' m4, rightIs' m5⟩]
  unfold H.meetF
  rw [show meets [((1 : UInt32), (0 : UInt32))] [(0, 1)] = [(1, 1)] by decide +kernel, m3]
theorem w_put : fPut [(0, 1), (1, 0)] 0 [] = ([(0, 0)], 0) := by
  have e1 : putStep 0 [] [] (0, 1) = ([(0, 0)], 0) := by
    have a : putA 0 [] (0, 1) = ([(0, 0)], 0) := by decide +kernel
    have b : putB 0 [] (0, 1) = ([(0, 0)], 0) := by
      unfold putB
      rw [a, if_pos rfl, show hasI ((0, 1) : C).2 0 = true by decide +kernel, if_pos rfl, show H.notF [] = ([top], 0) from rfl, if_pos rfl]
      unfold H.meetF
      rw [show meets (([((0 : UInt32), (0 : UInt32))], (0 : Int)) : List C × Int).1 (([top], (0 : Int)) : List C × Int).1 = [(0, 0)] by decide +kernel, m6]
    unfold putStep
    rw [b, if_pos rfl]
    unfold H.joinF
    rw [List.nil_append, m6]
  have e2 : putStep 0 [] [(0, 0)] (1, 0) = ([(0, 0)], 0) := by
    have a : putA 0 [] (1, 0) = ([], 0) := by decide +kernel
    have b : putB 0 [] (1, 0) = ([], 0) := by
      unfold putB
      rw [a, if_pos rfl, show hasI ((1, 0) : C).2 0 = false by decide +kernel, if_neg Bool.false_ne_true]
    unfold putStep
    rw [b, if_pos rfl]
    unfold H.joinF
    rw [List.append_nil, m6]
  unfold fPut
  rw [if_pos ⟨rightIs' m7, right_nil⟩, show dimI 0 = true by decide, if_pos rfl]
  unfold putF foldE
  rw [e1, if_pos rfl]
  unfold foldE
  rw [e2, if_pos rfl]
  rfl
/-! ### The lattice -/
theorem absorb1 {f g : List C} (h1 : (fJoin f g).2 = 0) (h2 : (fMeet f (fJoin f g).1).2 = 0) : (fMeet f (fJoin f g).1).1 = f := by
  obtain ⟨r1, _, _, e1⟩ := fJoin_told h1
  obtain ⟨_, _, r2, e2⟩ := fMeet_told h2
  refine right_ext r2 r1 fun c _ => ?_
  rw [e2, e1]
  cases E f c <;> simp
theorem absorb2 {f g : List C} (h1 : (fMeet f g).2 = 0) (h2 : (fJoin f (fMeet f g).1).2 = 0) : (fJoin f (fMeet f g).1).1 = f := by
  obtain ⟨r1, _, _, e1⟩ := fMeet_told h1
  obtain ⟨_, _, r2, e2⟩ := fJoin_told h2
  refine right_ext r2 r1 fun c _ => ?_
  rw [e2, e1]
  cases E f c <;> simp
theorem distr {f g h : List C} (p : (fJoin g h).2 = 0) (q : (fMeet f (fJoin g h).1).2 = 0) (c : (fMeet f g).2 = 0) (r : (fMeet f h).2 = 0) (s : (fJoin (fMeet f g).1 (fMeet f h).1).2 = 0) : (fMeet f (fJoin g h).1).1 = (fJoin (fMeet f g).1 (fMeet f h).1).1 := by
  obtain ⟨_, _, _, e1⟩ := fJoin_told p
  obtain ⟨_, _, r2, e2⟩ := fMeet_told q
  obtain ⟨_, _, _, e3⟩ := fMeet_told c
  obtain ⟨_, _, _, e4⟩ := fMeet_told r
  obtain ⟨_, _, r5, e5⟩ := fJoin_told s
  refine right_ext r2 r5 fun c _ => ?_
  rw [e2, e1, e5, e3, e4, Bool.and_or_distrib_left]
theorem assoc {f g h : List C} (p : (fJoin g h).2 = 0) (t : (fJoin f (fJoin g h).1).2 = 0) (a : (fJoin f g).2 = 0) (u : (fJoin (fJoin f g).1 h).2 = 0) : (fJoin f (fJoin g h).1).1 = (fJoin (fJoin f g).1 h).1 := by
  obtain ⟨_, _, _, e1⟩ := fJoin_told p
  obtain ⟨_, _, r2, e2⟩ := fJoin_told t
  obtain ⟨_, _, _, e3⟩ := fJoin_told a
  obtain ⟨_, _, r4, e4⟩ := fJoin_told u
  refine right_ext r2 r4 fun c _ => ?_
  rw [e2, e1, e4, e3, Bool.or_assoc]
theorem not_not {f : List C} (h1 : (fNot f).2 = 0) (h2 : (fNot (fNot f).1).2 = 0) : (fNot (fNot f).1).1 = f := by
  obtain ⟨r1, _, e1⟩ := fNot_told h1
  obtain ⟨_, r2, e2⟩ := fNot_told h2
  refine right_ext r2 r1 fun c hc => ?_
  rw [e2, e1, dual_dual hc, Bool.not_not]
theorem morgan {f g : List C} (a : (fNot f).2 = 0) (b : (fNot g).2 = 0) (c : (fJoin f g).2 = 0) (d : (fNot (fJoin f g).1).2 = 0) (e : (fMeet (fNot f).1 (fNot g).1).2 = 0) : (fNot (fJoin f g).1).1 = (fMeet (fNot f).1 (fNot g).1).1 := by
  obtain ⟨_, _, e1⟩ := fNot_told a
  obtain ⟨_, _, e2⟩ := fNot_told b
  obtain ⟨_, _, _, e3⟩ := fJoin_told c
  obtain ⟨_, r4, e4⟩ := fNot_told d
  obtain ⟨_, _, r5, e5⟩ := fMeet_told e
  refine right_ext r4 r5 fun c _ => ?_
  rw [e4, e3, e5, e1, e2]
  simp
theorem fJoin_len (f g : List C) : (fJoin f g).1.length ≤ 64 := by
  unfold fJoin
  split
  · exact least_len _
  · simp
theorem fMeet_len (f g : List C) : (fMeet f g).1.length ≤ 64 := by
  unfold fMeet
  split
  · exact least_len _
  · simp
theorem fNot_len (f : List C) : (fNot f).1.length ≤ 64 := by
  unfold fNot
  split
  · exact notF_len f
  · simp
theorem putF_len (f : List C) (i : Int) (r : List C) : (putF f i r).1.length ≤ 64 := by
  by_cases h : (putF f i r).2 = 0
  · exact foldE_keep (fun b => b.length ≤ 64) f [] (fun b c _ _ _ => putStep_len i r b c) (by simp) h
  · rw [show (putF f i r).1 = [] from foldE_none _ _ _ _ h]
    simp
theorem fPut_len (f : List C) (i : Int) (r : List C) : (fPut f i r).1.length ≤ 64 := by
  unfold fPut
  split
  · split
    · exact putF_len f i r
    · simp
  · simp
end Go.Proofs.YtfbcgjkagdbckaaDoor
