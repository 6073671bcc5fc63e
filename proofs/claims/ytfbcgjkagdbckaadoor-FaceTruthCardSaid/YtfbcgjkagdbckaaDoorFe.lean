/-
Walk: face.Holds.
-/
import Derived.Test.YtfbcgjkagdbckaaDoorFd
import Derived.Test.YtfbcgjkagdbckaaDoorFu
/-! Walks: face.Holds. -/
namespace Go.Proofs.YtfbcgjkagdbckaaDoor
open Go.RowKit H

def holdF (l : List C) (c : C) : Bool × Int := if faceR l = true ∧ (H.ok c && !H.clash c) = true then (l.any fun d => H.below c d, 0) else (false, 2)
set_option maxRecDepth 100000 in
set_option maxHeartbeats 2000000 in
theorem face_Holds (S : SmallG) (A : Option Addr) (cap : Nat) (l : List C) (c : C) (w : World) (hR : Rd w A l) (hcp : l.length ≤ cap) (hl : l.length ≤ 1000000) :
    Calls Tryd.prog 46 #[.slice A l.length cap, .agg #[.int .u32 (un c.1), .int .u32 (un c.2)]] w fun e w' => e = .returned (.tuple #[.bool (holdF l c).1, .int .i64 (holdF l c).2]) ∧ Below w.heap.size w w' := by
  have hb0 : Below w.heap.size w (w.alloc (.cells #[.int .u32 (un c.1), .int .u32 (un c.2)] 60)) := (Below.refl _ _).alloc (Nat.le_refl _) _
  have hA : At2 (w.alloc (.cells #[.int .u32 (un c.1), .int .u32 (un c.2)] 60)) w.heap.size c := ⟨World.cell?_alloc_new .., World.cell?_alloc_new ..⟩
  have h0 := hA.1
  have h0' := hA.2
  have h1 := face_Right S.toSmallF A cap l _ (hR.below hb0) hcp hl
  have h2 := S.single c
  have h3 := fun w1 (hb : Below w.heap.size w w1) => face_under S.toSmallF c A cap l w1 (hR.below hb)
  have HB0 := Lib.hid hb0
  clear hb0 hA
  unfold holdF
  cases hf : faceR l
  · rw [hf] at h1
    rw [if_neg (by simp)]
    clear h2 h3
    go_enter Tryd.func46, Tryd.ntmps46
    go_wp2_with (go_at_call 78; refine h1.mono ?_; rintro e w2 ⟨rfl, hb2⟩)
    go_ret2
    exact ⟨rfl, below_then HB0 (by simp) hb2⟩
  · rw [hf] at h1
    cases hs : (H.ok c && !H.clash c)
    · rw [hs] at h2
      rw [if_neg (by simp)]
      clear h3
      go_enter Tryd.func46, Tryd.ntmps46
      go_wp2_with (first
        | (go_at_call 78; refine h1.mono ?_; rintro e w2 ⟨rfl, hb2⟩; have hc2 := (At2.below ⟨h0, h0'⟩ hb2); have h4 := hc2.1; have h5 := hc2.2)
        | (go_at_call 79; refine (h2 _).mono ?_; rintro e w3 ⟨rfl, hb3⟩))
      go_ret2
      exact ⟨rfl, below_then HB0 (by simp) (below_then hb2 hb2.size hb3)⟩
    · rw [hs] at h2
      rw [if_pos ⟨rfl, rfl⟩]
      generalize (l.any fun d => H.below c d) = U at *
      go_enter Tryd.func46, Tryd.ntmps46
      go_wp2_with (first
        | (go_at_call 78; refine h1.mono ?_; rintro e w2 ⟨rfl, hb2⟩; have hc2 := (At2.below ⟨h0, h0'⟩ hb2); have h4 := hc2.1; have h5 := hc2.2)
        | (go_at_call 79; refine (h2 _).mono ?_; rintro e w3 ⟨rfl, hb3⟩; have hc3 := (At2.below hc2 hb3); have h6 := hc3.1; have h7 := hc3.2; have hb23 := below_then HB0 (by simp) (below_then hb2 hb2.size hb3))
        | (go_at_call 80; refine (h3 _ hb23).mono ?_; rintro e w4 ⟨rfl, hb4⟩))
      go_ret2
      exact ⟨rfl, below_then hb23 hb23.size hb4⟩
end Go.Proofs.YtfbcgjkagdbckaaDoor
