/-
Walk: mask.Free: the least dimension that is not in the set; -1, if all are.
-/
import Derived.Test.YtidpieakofhmiaaDoorTz
namespace Go.Proofs.YtidpieakofhmiaaDoor
open Go.RowKit H

def freeP (s : UInt32) : Int := if s &&& 16777215 = 16777215 then -1 else (low (~~~s) : Nat)
theorem un_not (s : UInt32) : bits .xor .u32 IntKind.u32.max (un s) = un (~~~s) := by
  have e : IntKind.u32.max = un 4294967295 := by decide
  rw [e]
  unfold un
  rw [u32_xor_nat _ _ (UInt32.toNat_lt _) s.toNat_lt, ← UInt32.toNat_xor]
  congr 2

theorem mask_Free (s : UInt32) (w : World) (hT : Tab w) : Calls Tryd.prog 19 #[.int .u32 (un s)] w fun e w' => e = .returned (.int .i64 (freeP s)) ∧ w = w' := by
  have h1 : bits .and .u32 (un s) 16777215 = un (s &&& 16777215) := by rw [un_all, un_and]
  have h2 : (un (s &&& 16777215) == 16777215) = decide (s &&& 16777215 = 16777215) := by rw [un_all, un_beq]
  unfold freeP
  by_cases h : s &&& 16777215 = 16777215
  · have h3 : (un (s &&& 16777215) == 16777215) = true := by rw [h2]; simpa using h
    rw [if_pos h]
    clear h h2
    go_enter Tryd.func19, Tryd.ntmps19
    go_wp2
    go_ret
    exact ⟨rfl, rfl⟩
  · have h3 : (un (s &&& 16777215) == 16777215) = false := by rw [h2]; simpa using h
    have hne : ~~~s ≠ 0 := by
      intro e
      apply h
      refine tb_ext fun i => ?_
      have := congrArg (fun x => tb x i) e
      simp only [tb_not, tb_zero] at this
      rw [tb_mask, show tb (16777215 : UInt32) i = decide (i < 24) from tb_M24 i]
      by_cases hi : i < 24
      · simp [hi, show i < 32 by omega] at this ⊢
        exact this
      · simp [hi]
    rw [if_neg h]
    have hn := un_not s
    clear h h2
    go_enter Tryd.func19, Tryd.ntmps19
    go_wp2_with (go_at_call 34; ((with_reducible refine (bits_tz32 (~~~s) hne _ hT).mono ?_); rintro e w' ⟨rfl, rfl⟩))
    go_ret
    exact ⟨rfl, rfl⟩
end Go.Proofs.YtidpieakofhmiaaDoor
