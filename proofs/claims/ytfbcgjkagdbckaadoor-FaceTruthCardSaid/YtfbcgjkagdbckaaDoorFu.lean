/-
Walk: face.under.
-/
import Derived.Test.YtfbcgjkagdbckaaDoorFc
/-! Walks: face.under with its inner function. -/
namespace Go.Proofs.YtfbcgjkagdbckaaDoor
open Go.RowKit H

set_option maxRecDepth 100000 in
/-- face.under's inner function. -/
theorem under_pred (S : SmallF) (c d : C) (b : Nat) (w : World) (h : At2 w b c) : Calls Tryd.prog 113 #[.agg #[.int .u32 (un d.1), .int .u32 (un d.2)], .pointer (some ⟨b, 0, none⟩)] w fun e w' => e = .returned (.bool (H.below c d)) ∧ Below w.heap.size w w' := by
  have hlt := h.lt
  have hb0 : Below w.heap.size w (w.alloc (.cells #[.int .u32 (un d.1), .int .u32 (un d.2)] 60)) := (Below.refl _ _).alloc (Nat.le_refl _) _
  have h2 := h.below hb0
  have h0 := h2.1
  have h1 := h2.2
  have hB := S.below c d
  unfold vC at hB
  go_enter Tryd.func113, Tryd.ntmps113
  go_wp2_with (go_at_call 105; refine (hB _).mono ?_; rintro e w' ⟨rfl, hb⟩)
  go_ret
  first | exact ⟨rfl, below_then hb0 (by simp) hb⟩ | exact ⟨rfl, hb⟩
set_option maxRecDepth 100000 in
theorem face_under (S : SmallF) (c : C) (A : Option Addr) (cap : Nat) (l : List C) (w : World) (hR : Rd w A l) :
    Calls Tryd.prog 80 #[.agg #[.int .u32 (un c.1), .int .u32 (un c.2)], .slice A l.length cap] w fun e w' => e = .returned (.bool (l.any fun d => H.below c d)) ∧ Below w.heap.size w w' := by
  have hb0 : Below w.heap.size w (w.alloc (.cells #[.int .u32 (un c.1), .int .u32 (un c.2)] 60)) := (Below.refl _ _).alloc (Nat.le_refl _) _
  have eg : ∀ args w, (callFunc 113 args).run Tryd.prog w = .ok (.enter 113 args) w := enters_of Tryd.func113 (by kernel_rfl) rfl
  have hA : At2 (w.alloc (.cells #[.int .u32 (un c.1), .int .u32 (un c.2)] 60)) w.heap.size c := ⟨World.cell?_alloc_new .., World.cell?_alloc_new ..⟩
  have h2 := any_bound_c 113 (.pointer (some ⟨w.heap.size, 0, none⟩)) (fun d => H.below c d) cap A l _ (hR.below hb0) eg fun d w2 hb => under_pred S c d w.heap.size w2 (hA.below hb)
  clear eg
  go_enter Tryd.func80, Tryd.ntmps80
  go_wp2_with (go_at_call 103; refine h2.mono ?_; rintro e w3 ⟨rfl, hb3⟩)
  go_ret
  exact ⟨rfl, below_then hb0 (by simp) hb3⟩
end Go.Proofs.YtfbcgjkagdbckaaDoor
