/-
PLAIN LAW: the statement ClauseLifts.
-/
import Derived.Test.YtahbmjpgnfgklaaRefS
namespace Go.Proofs.Ytahbmjpgnfgklaa.Pure
open Go.RowKit Go.Proofs.Ytahbmjpgnfgklaa.XCm Go.Proofs.YtahbmjpgnfgklaaW.PrintWords Go.Proofs.YtahbmjpgnfgklaaW.PrintLast Go.Proofs.YtahbmjpgnfgklaaW.PrintMore H

theorem refright (s k : Nat) (hs : s < 4294967296) (hk : 41 ≤ k) : hypercuberef01_Right.f k (s : Int) = some (decide (s < 16777216)) := by
  unfold hypercuberef01_Right.f
  have := power 24 k (by omega) hk
  rw [show ((24 : Nat) : Int) = 24 from rfl] at this
  rw [this, Option.bind_some, wrap64_small (by omega) (by omega), Option.some.injEq, decide_eq_decide]
  omega
theorem r1_lt (x : UInt32) : r1 x = decide (x.toNat < 16777216) := by
  rw [Bool.eq_iff_iff, r1_iff, decide_eq_true_eq]
  constructor
  · intro h
    exact Nat.lt_pow_two_of_testBit (n := 24) _ fun i hi => by
      rw [Bool.eq_false_iff]
      intro hb
      have := h i hb
      omega
  · intro h i hi
    rcases Nat.lt_or_ge i 24 with h1 | h1
    · exact h1
    · have h2 := testBit_high h h1
      rw [show x.toNat.testBit i = true from hi] at h2
      cases h2
theorem refright24 (c : C) (k : Nat) (hk : 41 ≤ k) : hypercuberef02_Right.f k (un c.1) (un c.2) = some (ok c) := by
  have h1 : ∀ x : UInt32, hypercuberef01_Right.f k (un x) = some (r1 x) := fun x => by
    unfold un
    rw [refright x.toNat k x.toNat_lt hk, r1_lt]
  unfold hypercuberef02_Right.f
  rw [h1, h1, Option.bind_some]
  unfold ok
  cases r1 c.1
  · rfl
  · rfl
/-- The two lifts are one, whatever the numbers. -/
theorem lift_same (s k : Nat) (a1 a2 : Int) (hs : s < 4294967296) (b1 : -9223372036854775808 ≤ a1 ∧ a1 < 9223372036854775808) (b2 : -9223372036854775808 ≤ a2 ∧ a2 < 9223372036854775808) (hk : 100 ≤ k) :
    ∃ r, mask_Lift.f k (s : Int) a1 a2 = some r ∧ hypercuberef01_Lift.f k (s : Int) a1 a2 = some r := by
  by_cases hn : a1 < 0 ∨ a2 < 0
  · rw [mlift_neg k _ _ _ hn (by omega), reflift_neg k _ _ _ hn (by omega)]
    exact ⟨_, rfl, rfl⟩
  · obtain ⟨f, rfl⟩ := Int.eq_ofNat_of_zero_le (show 0 ≤ a1 by omega)
    obtain ⟨b, rfl⟩ := Int.eq_ofNat_of_zero_le (show 0 ≤ a2 by omega)
    rw [mlift s k f b hs (by omega) (by omega) (by omega), reflift s k f b hs (by omega) (by omega) (by omega)]
    exact ⟨_, rfl, rfl⟩
theorem ClauseLifts (c : C) (a1 : Int) (w1 : (Lit.int .i64 a1).wf = true) (a2 : Int) (w2 : (Lit.int .i64 a2).wf = true) : ∃ k, hypercubelaw02_ClauseLifts.f k (un c.1) (un c.2) a1 a2 = some true := by
  obtain ⟨k, hk⟩ : ∃ k, 200 ≤ k := ⟨200, Nat.le_refl _⟩
  refine ⟨k, ?_⟩
  have b1 := wf_i64 w1
  have b2 := wf_i64 w2
  obtain ⟨p, p1, p2⟩ := lift_same c.1.toNat k a1 a2 c.1.toNat_lt b1 b2 (by omega)
  obtain ⟨n, n1, n2⟩ := lift_same c.2.toNat k a1 a2 c.2.toNat_lt b1 b2 (by omega)
  have key : ∃ r, clause_Lift.f k (un c.1) (un c.2) a1 a2 = some r ∧ hypercuberef02_Lift.f k (un c.1) (un c.2) a1 a2 = some r := by
    unfold clause_Lift.f hypercuberef02_Lift.f
    rw [right24, refright24 c k (by omega), Option.bind_some, Option.bind_some]
    rw [show un c.1 = ((c.1.toNat : Nat) : Int) from rfl, show un c.2 = ((c.2.toNat : Nat) : Int) from rfl]
    cases ok c
    · exact ⟨_, rfl, rfl⟩
    · rw [if_pos rfl, if_pos rfl, p1, p2, Option.bind_some, Option.bind_some]
      by_cases h1 : p.2 = 0
      · rw [if_pos h1, if_pos h1, n1, n2, Option.bind_some]
        by_cases h2 : n.2 = 0
        · rw [if_pos h2]; exact ⟨_, rfl, rfl⟩
        · rw [if_neg h2]; exact ⟨_, rfl, rfl⟩
      · rw [if_neg h1, if_neg h1]; exact ⟨_, rfl, rfl⟩
  obtain ⟨r, e1, e2⟩ := key
  unfold hypercubelaw02_ClauseLifts.f
  rw [e1, e2, Option.bind_some, Option.bind_some, if_pos (by simp), if_pos rfl, works k (by omega), Option.bind_some]
end Go.Proofs.Ytahbmjpgnfgklaa.Pure
