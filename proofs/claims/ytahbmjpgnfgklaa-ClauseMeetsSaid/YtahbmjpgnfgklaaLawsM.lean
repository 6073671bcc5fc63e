/-
PLAIN LAW: the statement ClauseMeets.
-/
import Derived.Test.YtahbmjpgnfgklaaClE
namespace Go.Proofs.Ytahbmjpgnfgklaa.Pure
open Go.RowKit Go.Proofs.Ytahbmjpgnfgklaa.XCe Go.Proofs.YtahbmjpgnfgklaaW.PrintWords Go.Proofs.YtahbmjpgnfgklaaW.PrintLast Go.Proofs.YtahbmjpgnfgklaaW.PrintMore H

theorem meet_comm (a b : C) : meet a b = meet b a := by
  unfold meet
  rw [UInt32.or_comm a.1, UInt32.or_comm a.2]
theorem meet_assoc (a b c : C) : meet (meet a b) c = meet a (meet b c) := by
  unfold meet
  rw [UInt32.or_assoc, UInt32.or_assoc]
theorem eqU (a b : C) : (un a.1 == un b.1 && (un a.2 == un b.2)) = decide (a = b) := by
  rw [un_beq, un_beq, Bool.eq_iff_iff]
  simp [Prod.ext_iff]
theorem neS (a : C) : ¬ (!(un a.1 == un a.1) || (!(un a.2 == un a.2))) = true := by simp
theorem meets_j2 (a b c : C) (k : Nat) : hypercubelaw02_ClauseMeets.j2 (k + 1) false (un a.1) (un a.2) (un b.1) (un b.2) (un c.1) (un c.2) = some true := by
  have b1 := below24 a a
  rw [below_refl] at b1
  have b2 := below24 a b
  have b3 := below24 b a
  have b4 := below24 b c
  have b5 := below24 a c
  rw [hypercubelaw02_ClauseMeets.j2, if_neg Bool.false_ne_true, b1, Option.bind_some, if_pos rfl, b2, Option.bind_some, eqU]
  cases hab : below a b
  · have hne : a ≠ b := fun e => by
      rw [e, below_refl] at hab
      cases hab
    rw [if_neg Bool.false_ne_true, decide_eq_false hne, if_pos (by rfl), Option.bind_some, if_neg Bool.false_ne_true]
  · rw [if_pos rfl, b3, Option.bind_some]
    have he : below b a = decide (a = b) := by
      rw [Bool.eq_iff_iff, decide_eq_true_eq]
      constructor
      · intro h; exact below_antisymm hab h
      · intro h; rw [h]; exact below_refl b
    rw [he, if_pos (by simp), Option.bind_some, if_pos rfl, b4, Option.bind_some]
    cases hbc : below b c
    · rw [if_neg Bool.false_ne_true]
    · rw [if_pos rfl, b5, Option.bind_some, below_trans hab hbc]
theorem meets_j1 (a b c : C) (k : Nat) : hypercubelaw02_ClauseMeets.j1 (k + 2) false (un a.1) (un a.2) (un b.1) (un b.2) (un c.1) (un c.2) (un (meet a b).1) (un (meet a b).2) = some true := by
  have b1 := below24 c a
  have b2 := below24 c b
  have b3 := below24 c (meet a b)
  have he : below c (meet a b) = (below c a && below c b) := by
    rw [Bool.eq_iff_iff, Bool.and_eq_true]
    exact below_meet
  rw [he] at b3
  rw [hypercubelaw02_ClauseMeets.j1, if_neg Bool.false_ne_true, b1, Option.bind_some, b2, b3]
  cases below c a
  · rw [if_neg Bool.false_ne_true, Option.bind_some, Bool.false_and, bne_self_eq_false]
    exact meets_j2 a b c k
  · rw [if_pos rfl, Option.bind_some, Option.bind_some, Bool.true_and, bne_self_eq_false]
    exact meets_j2 a b c k
theorem ClauseMeets (a b c : C) : ∃ k, hypercubelaw02_ClauseMeets.f k (un a.1) (un a.2) (un b.1) (un b.2) (un c.1) (un c.2) = some true := by
  obtain ⟨k, hk⟩ : ∃ k, 300 ≤ k := ⟨300, Nat.le_refl _⟩
  refine ⟨k + 3, ?_⟩
  have hyes : hypercubelaw02_ClauseMeets.j0 (k + 3) true (un a.1) (un a.2) (un b.1) (un b.2) (un c.1) (un c.2) = some true := by
    rw [hypercubelaw02_ClauseMeets.j0, if_pos rfl]
  unfold hypercubelaw02_ClauseMeets.f
  rw [works (k + 3) (by omega), Option.bind_some, if_pos rfl, right24, Option.bind_some]
  cases ok a
  · rw [if_neg Bool.false_ne_true]; exact hyes
  rw [if_pos rfl, right24, Option.bind_some]
  cases ok b
  · rw [if_neg Bool.false_ne_true]; exact hyes
  rw [if_pos rfl, right24, Option.bind_some]
  cases ok c
  · exact hyes
  have m1 := meet24 a b
  have b1 := below24 (meet a b) a
  rw [(below_meet.1 (below_refl (meet a b))).1] at b1
  have b2 := below24 (meet a b) b
  rw [(below_meet.1 (below_refl (meet a b))).2] at b2
  have m2 := meet24 b a
  rw [meet_comm b a] at m2
  have m3 := meet24 (meet a b) c
  have m4 := meet24 b c
  have m5 := meet24 a (meet b c)
  rw [← meet_assoc] at m5
  have hj := meets_j1 a b c k
  rw [Bool.not_true, hypercubelaw02_ClauseMeets.j0, if_neg Bool.false_ne_true, m1, Option.bind_some, b1, Option.bind_some, if_pos rfl, b2, Option.bind_some, if_pos rfl, m2, Option.bind_some, if_neg (neS _), m3, Option.bind_some, m4, Option.bind_some, m5, Option.bind_some, Bool.eq_false_iff.2 (neS _)]
  exact hj
end Go.Proofs.Ytahbmjpgnfgklaa.Pure
