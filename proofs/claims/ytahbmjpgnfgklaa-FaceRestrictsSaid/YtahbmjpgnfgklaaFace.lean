/-
Walks of face's small functions: face.Right, face.under, face.Entails' inner function.
-/
import Derived.Test.YtahbmjpgnfgklaaCont
import Derived.Test.YtahbmjpgnfgklaaNeed
namespace Go.Proofs.Ytahbmjpgnfgklaa
open Go.RowKit H

/-- What these walks ask of the functions that the print takes. -/
structure SmallF : Prop extends Small where
  clash : ∀ (c : C) (w : World), Calls Try.prog 17 #[.agg #[.int .u32 (un c.1), .int .u32 (un c.2)]] w fun e w' => e = .returned (.bool (H.clash c)) ∧ Below w.heap.size w w'
  meet : ∀ (a b : C) (w : World), Calls Try.prog 19 #[.agg #[.int .u32 (un a.1), .int .u32 (un a.2)], .agg #[.int .u32 (un b.1), .int .u32 (un b.2)]] w fun e w' => e = .returned (.agg #[.int .u32 (un (H.meet a b).1), .int .u32 (un (H.meet a b).2)]) ∧ Below w.heap.size w w'
  fright : ∀ (A : Option Addr) (cap : Nat) (l : List C) (w : World), Rd w A l → l.length ≤ cap → l.length ≤ 1000000 → Calls Try.prog 54 #[.slice A l.length cap] w fun e w' => e = .returned (.bool (H.right l)) ∧ Below w.heap.size w w'

/-- A face: right, and no clause of it clashes. -/
def faceR (l : List C) : Bool := H.right l && !l.any H.clash
set_option maxRecDepth 100000 in
theorem face_Right (S : SmallF) (A : Option Addr) (cap : Nat) (l : List C) (w : World) (hR : Rd w A l) (hcp : l.length ≤ cap) (hl : l.length ≤ 1000000) :
    Calls Try.prog 31 #[.slice A l.length cap] w fun e w' => e = .returned (.bool (faceR l)) ∧ Below w.heap.size w w' := by
  have h1 := S.fright A cap l w hR hcp hl
  have eg : ∀ args w, (callFunc 17 args).run Try.prog w = .ok (.enter 17 args) w := enters_of Try.func17 (by kernel_rfl) rfl
  have h2 : ∀ w1, Below w.heap.size w w1 → Calls Try.prog 47 #[.slice A l.length cap, .func (.func 17) #[] #[]] w1 fun e w' => e = .returned (.bool (l.any H.clash)) ∧ Below w1.heap.size w1 w' :=
    fun w1 hb => any_plain_c 17 H.clash cap A l w1 (hR.below hb) eg fun d w2 _ => S.clash d w2
  clear eg
  unfold faceR
  cases h : H.right l
  · rw [h] at h1
    clear h2
    go_enter Try.func31, Try.ntmps31
    go_wp2_with (go_at_call 54; refine h1.mono ?_; rintro e w2 ⟨rfl, hb2⟩)
    go_ret
    exact ⟨rfl, hb2⟩
  · rw [h] at h1
    go_enter Try.func31, Try.ntmps31
    go_wp2_with (first | (go_at_call 54; refine h1.mono ?_; rintro e w2 ⟨rfl, hb2⟩) | (go_at_call 47; refine (h2 _ hb2).mono ?_; rintro e w3 ⟨rfl, hb3⟩))
    go_ret
    exact ⟨rfl, below_then hb2 hb2.size hb3⟩

set_option maxRecDepth 100000 in
/-- face.under's inner function. -/
theorem under_pred (S : SmallF) (c d : C) (b : Nat) (w : World) (h : At2 w b c) : Calls Try.prog 80 #[.agg #[.int .u32 (un d.1), .int .u32 (un d.2)], .pointer (some ⟨b, 0, none⟩)] w fun e w' => e = .returned (.bool (H.below c d)) ∧ Below w.heap.size w w' := by
  have hlt := h.lt
  have hb0 : Below w.heap.size w (w.alloc (.cells #[.int .u32 (un d.1), .int .u32 (un d.2)] 24)) := (Below.refl _ _).alloc (Nat.le_refl _) _
  have h2 := h.below hb0
  have h0 := h2.1
  have h1 := h2.2
  have hB := S.below c d
  unfold vC at hB
  go_enter Try.func80, Try.ntmps80
  go_wp2_with (go_at_call 21; refine (hB _).mono ?_; rintro e w' ⟨rfl, hb⟩)
  go_ret
  first | exact ⟨rfl, below_then hb0 (by simp) hb⟩ | exact ⟨rfl, hb⟩
set_option maxRecDepth 100000 in
theorem face_under (S : SmallF) (c : C) (A : Option Addr) (cap : Nat) (l : List C) (w : World) (hR : Rd w A l) :
    Calls Try.prog 58 #[.agg #[.int .u32 (un c.1), .int .u32 (un c.2)], .slice A l.length cap] w fun e w' => e = .returned (.bool (l.any fun d => H.below c d)) ∧ Below w.heap.size w w' := by
  have hb0 : Below w.heap.size w (w.alloc (.cells #[.int .u32 (un c.1), .int .u32 (un c.2)] 24)) := (Below.refl _ _).alloc (Nat.le_refl _) _
  have eg : ∀ args w, (callFunc 80 args).run Try.prog w = .ok (.enter 80 args) w := enters_of Try.func80 (by kernel_rfl) rfl
  have hA : At2 (w.alloc (.cells #[.int .u32 (un c.1), .int .u32 (un c.2)] 24)) w.heap.size c := ⟨World.cell?_alloc_new .., World.cell?_alloc_new ..⟩
  have h2 := any_bound_c 80 (.pointer (some ⟨w.heap.size, 0, none⟩)) (fun d => H.below c d) cap A l _ (hR.below hb0) eg fun d w2 hb => under_pred S c d w.heap.size w2 (hA.below hb)
  clear eg
  go_enter Try.func58, Try.ntmps58
  go_wp2_with (go_at_call 47; refine h2.mono ?_; rintro e w3 ⟨rfl, hb3⟩)
  go_ret
  exact ⟨rfl, below_then hb0 (by simp) hb3⟩
end Go.Proofs.Ytahbmjpgnfgklaa
