/-
Walks: face.right, face.join.
-/
import Derived.Test.YtfbcgjkagdbckaaGreatDoorFd
import Derived.Test.YtfbcgjkagdbckaaGreatDoorApp
import Derived.Test.YtfbcgjkagdbckaaGreatDoorAg
namespace Go.Proofs.YtfbcgjkagdbckaaGreatDoor
open Go.RowKit H

set_option maxRecDepth 100000 in
set_option maxHeartbeats 2000000 in
/-- face.join -/
theorem face_join (S : SmallF) (A0 A1 : Option Addr) (c0 c1 : Nat) (l0 l1 : List C) (w : World) (hR0 : Rd w A0 l0) (hR1 : Rd w A1 l1) (hl : l0.length + l1.length ≤ 1000000) :
    Calls Tryz.prog 36 #[.slice A0 l0.length c0, .slice A1 l1.length c1] w fun e w' => ∃ v, e = .returned (.tuple #[v, .int .i64 (least (l0 ++ l1)).2]) ∧ Own w' w.heap.size v (least (l0 ++ l1)).1 ∧ Below w.heap.size w w' := by
  have hb0 : Below w.heap.size w (w.alloc (.cells #[] 25)) := (Below.refl _ _).alloc (Nat.le_refl _) _
  have ho0 := Own.made (w := w) (Nat.le_refl _)
  have h3 : ∀ A1 c1 w1, Rd w1 A1 (l0 ++ l1) → Calls Tryz.prog 17 #[.slice A1 (l0 ++ l1).length c1] w1 fun e w' => ∃ v, e = .returned (.tuple #[v, .int .i64 (least (l0 ++ l1)).2]) ∧ Own w' w1.heap.size v (least (l0 ++ l1)).1 ∧ Below w1.heap.size w1 w' :=
    fun A1 c1 w1 h => clause_Least S.toSmall A1 c1 _ w1 h (by rw [List.length_append]; exact hl)
  generalize least (l0 ++ l1) = R at *
  have HB0 := Lib.hid hb0
  have HO := Lib.hid ho0
  clear hb0 ho0
  go_enter Tryz.func36, Tryz.ntmps36
  go_wp2_with (first
    | (at_builtin; refine wpList_append_rd rfl (.tmp 6) (.tmp 7) rfl rfl HO rfl (hR0.below HB0) (by simp; omega) (by simp) ?_; intro v1 w1 ho1 hb1 _; rw [List.nil_append] at ho1; have hb01 := HB0.trans hb1)
    | (at_builtin; refine wpList_append_rd rfl (.tmp 8) (.tmp 9) rfl rfl ho1 rfl (hR1.below hb01) (by omega) hb01.size ?_; intro v2 w2 ho2 hb2 _; have hb02 := hb01.trans hb2; generalize l0 ++ l1 = L at ho2 h3; obtain ⟨A2, c2, rfl, hR2⟩ := ho2.slice)
    | (go_at_call 17; refine (h3 _ _ _ hR2).mono ?_; rintro e w3 ⟨v3, rfl, ho3, hb3⟩))
  go_ret2
  exact ⟨_, rfl, ho3.mono hb02.size, below_then hb02 hb02.size hb3⟩
end Go.Proofs.YtfbcgjkagdbckaaGreatDoor
