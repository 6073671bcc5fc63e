/-
Walks: face.All.
-/
import Derived.Test.YtahbmjpgnfgklaaFaceD
namespace Go.Proofs.Ytahbmjpgnfgklaa
open Go.RowKit H

def dimI (i : Int) : Bool := decide (0 ≤ i ∧ i < 24)
def hasI (x : UInt32) (i : Int) : Bool := dimI i && x.toNat.testBit i.toNat
structure SmallA : Prop extends SmallG where
  dim : ∀ (i : Int) (w : World), Calls Try.prog 59 #[.int .i64 i] w fun e w' => e = .returned (.bool (dimI i)) ∧ Below w.heap.size w w'
  has : ∀ (c : C) (i : Int) (w : World), dimI i = true → Calls Try.prog 61 #[.int .u32 (bits .or .u32 (un c.1) (un c.2)), .int .i64 i] w fun e w' => e = .returned (.bool (hasI (c.1 ||| c.2) i)) ∧ Below w.heap.size w w'
def allP (i : Int) (c : C) : C × Bool := (c, !hasI (c.1 ||| c.2) i)
def allF (l : List C) (i : Int) : List C × Int := if faceR l = true ∧ dimI i = true then H.least (keepC (allP i) l) else ([], 2)
set_option maxRecDepth 100000 in
set_option maxHeartbeats 2000000 in
theorem face_All (S : SmallA) (A : Option Addr) (cap : Nat) (l : List C) (i : Int) (w : World) (hR : Rd w A l) (hcp : l.length ≤ cap) (hl : l.length ≤ 1000000) :
    Calls Try.prog 34 #[.slice A l.length cap, .int .i64 i] w fun e w' => ∃ v, e = .returned (.tuple #[v, .int .i64 (allF l i).2]) ∧ Own w' w.heap.size v (allF l i).1 ∧ Below w.heap.size w w' := by
  have hb0 : Below w.heap.size w (w.alloc (.cells #[.int .i64 i] 3)) := (Below.refl _ _).alloc (Nat.le_refl _) _
  have hA : Boxed (w.alloc (.cells #[.int .i64 i] 3)) w.heap.size 3 (.int .i64 i) := World.alloc_heap_new ..
  have h0 : (w.alloc (.cells #[.int .i64 i] 3)).cell? ⟨w.heap.size, 0, none⟩ = some (.int .i64 i) := World.cell?_alloc_new ..
  have hin : ∀ {w1 w2 : World}, Boxed w1 w.heap.size 3 (.int .i64 i) → Below w1.heap.size w1 w2 → Boxed w2 w.heap.size 3 (.int .i64 i) := fun h hb => (hb.block _ h.lt).trans h
  have hcell : ∀ {w1 : World}, Boxed w1 w.heap.size 3 (.int .i64 i) → w1.cell? ⟨w.heap.size, 0, none⟩ = some (.int .i64 i) := fun h => by
    unfold Boxed at h
    simp [World.cell?, h]
  have h1 := face_Right S.toSmallF A cap l _ (hR.below hb0) hcp hl
  have h2 := S.dim i
  have eg : ∀ args w, (callFunc 60 args).run Try.prog w = .ok (.enter 60 args) w := enters_of Try.func60 (by kernel_rfl) rfl
  have h3 : ∀ w1, dimI i = true → Boxed w1 w.heap.size 3 (.int .i64 i) → Below w.heap.size w w1 → Calls Try.prog 56 #[.slice A l.length cap, .func (.func 60) #[] #[.pointer (some ⟨w.heap.size, 0, none⟩)]] w1 fun e w' => ∃ v, e = .returned v ∧ Own w' w1.heap.size v (keepC (allP i) l) ∧ Below w1.heap.size w1 w' :=
    fun w1 hd hA1 hb => keep_bound 60 (.pointer (some ⟨w.heap.size, 0, none⟩)) (allP i) cap A l w1 (hR.below hb) hl eg fun d w2 hb2 =>
      all_pred d i (hasI (d.1 ||| d.2) i) w.heap.size w2 (hin hA1 hb2) fun w3 => S.has d i w3 hd
  have h4 : ∀ A1 c1 w1, Rd w1 A1 (keepC (allP i) l) → Calls Try.prog 24 #[.slice A1 (keepC (allP i) l).length c1] w1 fun e w' => ∃ v, e = .returned (.tuple #[v, .int .i64 (least (keepC (allP i) l)).2]) ∧ Own w' w1.heap.size v (least (keepC (allP i) l)).1 ∧ Below w1.heap.size w1 w' :=
    fun A1 c1 w1 h => clause_Least S.toSmall A1 c1 _ w1 h (Nat.le_trans (keepC_length _ _) hl)
  have HB0 := Lib.hid hb0
  have HA := Lib.hid hA
  clear hb0 eg hA
  unfold allF
  cases hf : faceR l
  · rw [hf] at h1
    rw [if_neg (by simp)]
    clear h2 h3 h4
    go_enter Try.func34, Try.ntmps34
    go_wp2_with (go_at_call 31; refine h1.mono ?_; rintro e w2 ⟨rfl, hb2⟩)
    go_ret2
    exact ⟨_, rfl, Own.nil _ _, below_then HB0 (by simp) hb2⟩
  · rw [hf] at h1
    cases hs : dimI i
    · rw [hs] at h2
      rw [if_neg (by simp)]
      clear h3 h4
      go_enter Try.func34, Try.ntmps34
      go_wp2_with (first
        | (go_at_call 31; refine h1.mono ?_; rintro e w2 ⟨rfl, hb2⟩; have hc2 := hcell (hin HA hb2))
        | (go_at_call 59; refine (h2 _).mono ?_; rintro e w3 ⟨rfl, hb3⟩))
      go_ret2
      exact ⟨_, rfl, Own.nil _ _, below_then HB0 (by simp) (below_then hb2 hb2.size hb3)⟩
    · rw [hs] at h2
      rw [if_pos ⟨rfl, rfl⟩]
      have h3' := fun w1 => h3 w1 hs
      clear h3
      generalize least (keepC (allP i) l) = L at *
      generalize keepC (allP i) l = K at *
      go_enter Try.func34, Try.ntmps34
      go_wp2_with (first
        | (go_at_call 31; refine h1.mono ?_; rintro e w2 ⟨rfl, hb2⟩; have hA2 := Lib.hid (hin HA hb2); have hc2 := hcell hA2)
        | (go_at_call 59; refine (h2 _).mono ?_; rintro e w3 ⟨rfl, hb3⟩; have hA3 := Lib.hid (hin hA2 hb3); have hb23 := below_then HB0 (by simp) (below_then hb2 hb2.size hb3))
        | (go_at_call 56; refine (h3' _ hA3 hb23).mono ?_; rintro e w4 ⟨v, rfl, ho, hb4⟩; obtain ⟨A1, c1, rfl, hR1⟩ := ho.slice; have hb24 := below_then hb23 hb23.size hb4)
        | (go_at_call 24; refine (h4 _ _ _ hR1).mono ?_; rintro e w5 ⟨v5, rfl, ho5, hb5⟩))
      go_ret2
      exact ⟨_, rfl, ho5.mono hb24.size, below_then hb24 hb24.size hb5⟩
end Go.Proofs.Ytahbmjpgnfgklaa
