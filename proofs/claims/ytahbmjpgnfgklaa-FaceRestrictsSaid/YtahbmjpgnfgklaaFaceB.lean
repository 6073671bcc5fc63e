/-
Walks: face.Of, face.Restrict, face.All, face.Holds.
-/
import Derived.Test.YtahbmjpgnfgklaaKeep
import Derived.Test.YtahbmjpgnfgklaaLeast
import Derived.Test.YtahbmjpgnfgklaaAllP
import Derived.Test.YtahbmjpgnfgklaaResP
namespace Go.Proofs.Ytahbmjpgnfgklaa
open Go.RowKit H

structure SmallG : Prop extends SmallF where
  calm : ∀ (c : C) (w : World), Calls Try.prog 78 #[.agg #[.int .u32 (un c.1), .int .u32 (un c.2)]] w fun e w' => e = .returned (.tuple #[.agg #[.int .u32 (un c.1), .int .u32 (un c.2)], .bool (!H.clash c)]) ∧ Below w.heap.size w w'
  single : ∀ (c : C) (w : World), Calls Try.prog 55 #[.agg #[.int .u32 (un c.1), .int .u32 (un c.2)]] w fun e w' => e = .returned (.bool (H.ok c && !H.clash c)) ∧ Below w.heap.size w w'
def calmP (c : C) : C × Bool := (c, !H.clash c)
def ofF (l : List C) : List C × Int := if H.right l = true then H.least (keepC calmP l) else ([], 2)
set_option maxRecDepth 100000 in
set_option maxHeartbeats 2000000 in
theorem face_Of (S : SmallG) (A : Option Addr) (cap : Nat) (l : List C) (w : World) (hR : Rd w A l) (hcp : l.length ≤ cap) (hl : l.length ≤ 1000000) :
    Calls Try.prog 53 #[.slice A l.length cap] w fun e w' => ∃ v, e = .returned (.tuple #[v, .int .i64 (ofF l).2]) ∧ Own w' w.heap.size v (ofF l).1 ∧ Below w.heap.size w w' := by
  have h1 := S.fright A cap l w hR hcp hl
  have eg : ∀ args w, (callFunc 78 args).run Try.prog w = .ok (.enter 78 args) w := enters_of Try.func78 (by kernel_rfl) rfl
  have h2 : ∀ w1, Below w.heap.size w w1 → Calls Try.prog 56 #[.slice A l.length cap, .func (.func 78) #[] #[]] w1 fun e w' => ∃ v, e = .returned v ∧ Own w' w1.heap.size v (keepC calmP l) ∧ Below w1.heap.size w1 w' :=
    fun w1 hb => keep_plain 78 calmP cap A l w1 (hR.below hb) hl eg fun d w2 _ => S.calm d w2
  have h3 : ∀ A1 c1 w1, Rd w1 A1 (keepC calmP l) → Calls Try.prog 24 #[.slice A1 (keepC calmP l).length c1] w1 fun e w' => ∃ v, e = .returned (.tuple #[v, .int .i64 (least (keepC calmP l)).2]) ∧ Own w' w1.heap.size v (least (keepC calmP l)).1 ∧ Below w1.heap.size w1 w' :=
    fun A1 c1 w1 h => clause_Least S.toSmall A1 c1 _ w1 h (Nat.le_trans (keepC_length _ _) hl)
  clear eg
  unfold ofF
  cases h : H.right l
  · rw [h] at h1
    rw [if_neg Bool.false_ne_true]
    clear h2 h3
    go_enter Try.func53, Try.ntmps53
    go_wp2_with (go_at_call 54; refine h1.mono ?_; rintro e w2 ⟨rfl, hb2⟩)
    go_ret2
    exact ⟨_, rfl, Own.nil _ _, hb2⟩
  · rw [h] at h1
    rw [if_pos rfl]
    generalize least (keepC calmP l) = L at *
    generalize keepC calmP l = K at *
    go_enter Try.func53, Try.ntmps53
    go_wp2_with (first
      | (go_at_call 54; refine h1.mono ?_; rintro e w2 ⟨rfl, hb2⟩)
      | (go_at_call 56; refine (h2 _ hb2).mono ?_; rintro e w3 ⟨v, rfl, ho, hb3⟩; obtain ⟨A1, c1, rfl, hR1⟩ := ho.slice; have hb23 := below_then hb2 hb2.size hb3)
      | (go_at_call 24; refine (h3 _ _ _ hR1).mono ?_; rintro e w4 ⟨v4, rfl, ho4, hb4⟩))
    go_ret2
    exact ⟨_, rfl, ho4.mono hb23.size, below_then hb23 hb23.size hb4⟩
end Go.Proofs.Ytahbmjpgnfgklaa
