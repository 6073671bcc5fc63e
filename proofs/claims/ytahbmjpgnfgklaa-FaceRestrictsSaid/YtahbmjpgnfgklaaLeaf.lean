/-
Walks of the small functions on words.
-/
import Derived.Test.YtahbmjpgnfgklaaWords
namespace Go.Proofs.Ytahbmjpgnfgklaa
open Go.RowKit H

theorem r1_andNot (x : UInt32) : decide (x &&& ~~~16777215 = 0) = r1 x := by
  rw [Bool.eq_iff_iff, decide_eq_true_eq, r1_iff]
  constructor
  · intro h i hi
    have := congrArg (fun s => tb s i) h
    simp only [tb_and, tb_not, tb_zero, hi, Bool.true_and] at this
    have hl := tb_lt hi
    rw [show tb (16777215 : UInt32) i = decide (i < 24) from tb_M24 i] at this
    simp [hl] at this
    exact this
  · intro h
    refine tb_ext fun i => ?_
    rw [tb_and, tb_not, tb_zero, show tb (16777215 : UInt32) i = decide (i < 24) from tb_M24 i]
    cases hb : tb x i
    · rfl
    · simp [h i hb]

theorem mask_Right (x : UInt32) (w : World) : Calls Try.prog 41 #[.int .u32 (un x)] w fun e w' => e = .returned (.bool (r1 x)) ∧ w = w' := by
  have h1 : bits .andNot .u32 (un x) 16777215 = un (x &&& ~~~16777215) := by rw [un_all, un_andNot]
  have h2 : (un (x &&& ~~~16777215) == 0) = r1 x := by rw [un_zero, un_beq, r1_andNot]
  go_enter Try.func41, Try.ntmps41
  go_wp2
  go_ret
  exact ⟨rfl, rfl⟩

end Go.Proofs.Ytahbmjpgnfgklaa
