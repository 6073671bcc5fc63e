/-
Walks, for clause.Least: slices.ContainsFunc of the inner function; the function that tells whether a clause is needless.
-/
import Derived.Test.YtahbmjpgnfgklaaPred
namespace Go.Proofs.Ytahbmjpgnfgklaa
open Go.RowKit H

set_option maxRecDepth 100000 in
theorem least_contains (S : Small) (c : C) (b cap : Nat) (A : Option Addr) (l : List C) (w : World) (h : At2 w b c) (hR : Rd w A l) :
    Calls Try.prog 47 #[.slice A l.length cap, .func (.func 48) #[] #[.pointer (some ⟨b, 0, none⟩)]] w fun e w' =>
      e = .returned (.bool (l.any (predC c))) ∧ Below w.heap.size w w' := by
  have hi := least_index S c b cap A l w h hR
  go_enter Try.func47, Try.ntmps47
  go_wp2_with (go_at_call 73; refine hi.mono ?_; rintro e w2 ⟨⟨i, rfl, hd⟩, hb2⟩)
  go_ret
  exact ⟨by first | rfl | (rw [← hd]; rfl), hb2⟩

set_option maxRecDepth 100000 in
theorem least_needless (S : Small) (c : C) (bo cap : Nat) (A : Option Addr) (l : List C) (w : World) (h : w.cell? ⟨bo, 0, none⟩ = some (.slice A l.length cap)) (hR : Rd w A l) :
    Calls Try.prog 46 #[vC c, .pointer (some ⟨bo, 0, none⟩)] w fun e w' => e = .returned (.bool (l.any (predC c))) ∧ Below w.heap.size w w' := by
  have hb0 : Below w.heap.size w (w.alloc (.cells #[.int .u32 (un c.1), .int .u32 (un c.2)] 24)) := (Below.refl _ _).alloc (Nat.le_refl _) _
  have hlt := World.block_lt_of_cell? w _ h
  have hc := (hb0.cell hlt).trans h
  have hi := least_contains S c w.heap.size cap A l (w.alloc (.cells #[.int .u32 (un c.1), .int .u32 (un c.2)] 24)) ⟨World.cell?_alloc_new .., World.cell?_alloc_new ..⟩ (hR.below hb0)
  unfold vC
  go_enter Try.func46, Try.ntmps46
  go_wp2_with (go_at_call 47; refine hi.mono ?_; rintro e w2 ⟨rfl, hb2⟩)
  go_ret
  exact ⟨rfl, below_then hb0 (by simp) hb2⟩
end Go.Proofs.Ytahbmjpgnfgklaa
