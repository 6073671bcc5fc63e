/-
Walks: face.Restrict.
-/
import Derived.Test.YtahbmjpgnfgklaaFaceC
namespace Go.Proofs.Ytahbmjpgnfgklaa
open Go.RowKit H

set_option maxRecDepth 100000 in
set_option maxHeartbeats 2000000 in
theorem face_Restrict (S : SmallG) (A : Option Addr) (cap : Nat) (l : List C) (c : C) (w : World) (hR : Rd w A l) (hcp : l.length ≤ cap) (hl : l.length ≤ 1000000) :
    Calls Try.prog 32 #[.slice A l.length cap, .agg #[.int .u32 (un c.1), .int .u32 (un c.2)]] w fun e w' => ∃ v, e = .returned (.tuple #[v, .int .i64 (restrF l c).2]) ∧ Own w' w.heap.size v (restrF l c).1 ∧ Below w.heap.size w w' := by
  have hb0 : Below w.heap.size w (w.alloc (.cells #[.int .u32 (un c.1), .int .u32 (un c.2)] 24)) := (Below.refl _ _).alloc (Nat.le_refl _) _
  have hA : At2 (w.alloc (.cells #[.int .u32 (un c.1), .int .u32 (un c.2)] 24)) w.heap.size c := ⟨World.cell?_alloc_new .., World.cell?_alloc_new ..⟩
  have h0 := hA.1
  have h0' := hA.2
  have h1 := face_Right S.toSmallF A cap l _ (hR.below hb0) hcp hl
  have h2 := S.single c
  have eg : ∀ args w, (callFunc 57 args).run Try.prog w = .ok (.enter 57 args) w := enters_of Try.func57 (by kernel_rfl) rfl
  have h3 : ∀ w1, At2 w1 w.heap.size c → Below w.heap.size w w1 → Calls Try.prog 56 #[.slice A l.length cap, .func (.func 57) #[] #[.pointer (some ⟨w.heap.size, 0, none⟩)]] w1 fun e w' => ∃ v, e = .returned v ∧ Own w' w1.heap.size v (keepC (restrP c) l) ∧ Below w1.heap.size w1 w' :=
    fun w1 hA1 hb => keep_bound 57 (.pointer (some ⟨w.heap.size, 0, none⟩)) (restrP c) cap A l w1 (hR.below hb) hl eg fun d w2 hb2 => by
      have h := restrict_pred S.toSmallF c d w.heap.size w2 (hA1.below hb2)
      rw [un_andNot, un_andNot] at h
      exact h
  have h4 : ∀ A1 c1 w1, Rd w1 A1 (keepC (restrP c) l) → Calls Try.prog 24 #[.slice A1 (keepC (restrP c) l).length c1] w1 fun e w' => ∃ v, e = .returned (.tuple #[v, .int .i64 (least (keepC (restrP c) l)).2]) ∧ Own w' w1.heap.size v (least (keepC (restrP c) l)).1 ∧ Below w1.heap.size w1 w' :=
    fun A1 c1 w1 h => clause_Least S.toSmall A1 c1 _ w1 h (Nat.le_trans (keepC_length _ _) hl)
  have HB0 := Lib.hid hb0
  clear hb0 hA eg
  unfold restrF
  cases hf : faceR l
  · rw [hf] at h1
    rw [if_neg (by simp)]
    clear h2 h3 h4
    go_enter Try.func32, Try.ntmps32
    go_wp2_with (go_at_call 31; refine h1.mono ?_; rintro e w2 ⟨rfl, hb2⟩)
    go_ret2
    exact ⟨_, rfl, Own.nil _ _, below_then HB0 (by simp) hb2⟩
  · rw [hf] at h1
    cases hs : (H.ok c && !H.clash c)
    · rw [hs] at h2
      rw [if_neg (by simp)]
      clear h3 h4
      go_enter Try.func32, Try.ntmps32
      go_wp2_with (first
        | (go_at_call 31; refine h1.mono ?_; rintro e w2 ⟨rfl, hb2⟩; have hc2 := (At2.below ⟨h0, h0'⟩ hb2); have h4 := hc2.1; have h5 := hc2.2)
        | (go_at_call 55; refine (h2 _).mono ?_; rintro e w3 ⟨rfl, hb3⟩))
      go_ret2
      exact ⟨_, rfl, Own.nil _ _, below_then HB0 (by simp) (below_then hb2 hb2.size hb3)⟩
    · rw [hs] at h2
      rw [if_pos ⟨rfl, rfl⟩]
      generalize least (keepC (restrP c) l) = L at *
      generalize keepC (restrP c) l = K at *
      go_enter Try.func32, Try.ntmps32
      go_wp2_with (first
        | (go_at_call 31; refine h1.mono ?_; rintro e w2 ⟨rfl, hb2⟩; have hc2 := (At2.below ⟨h0, h0'⟩ hb2); have h6 := hc2.1; have h7 := hc2.2)
        | (go_at_call 55; refine (h2 _).mono ?_; rintro e w3 ⟨rfl, hb3⟩; have hc3 := (At2.below hc2 hb3); have hb23 := below_then HB0 (by simp) (below_then hb2 hb2.size hb3))
        | (go_at_call 56; refine (h3 _ hc3 hb23).mono ?_; rintro e w4 ⟨v, rfl, ho, hb4⟩; obtain ⟨A1, c1, rfl, hR1⟩ := ho.slice; have hb24 := below_then hb23 hb23.size hb4)
        | (go_at_call 24; refine (h4 _ _ _ hR1).mono ?_; rintro e w5 ⟨v5, rfl, ho5, hb5⟩))
      go_ret2
      exact ⟨_, rfl, ho5.mono hb24.size, below_then hb24 hb24.size hb5⟩
end Go.Proofs.Ytahbmjpgnfgklaa
