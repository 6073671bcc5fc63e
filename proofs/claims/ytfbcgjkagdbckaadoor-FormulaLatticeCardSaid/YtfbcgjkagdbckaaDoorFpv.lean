/-
Walk: formula.Put.
-/
import Derived.Test.YtfbcgjkagdbckaaDoorFpu
namespace Go.Proofs.YtfbcgjkagdbckaaDoor
open Go.RowKit H

structure SmallV : Prop extends SmallU where
  dim : ∀ (i : Int) (w : World), Calls Tryd.prog 34 #[.int .i64 i] w fun e w' => ∃ v, e = .returned (.tuple #[v, .int .i64 (fDim i).2]) ∧ Own w' w.heap.size v (fDim i).1 ∧ Below w.heap.size w w'
theorem form_Zero (w : World) : Calls Tryd.prog 61 #[] w fun e w' => e = .returned (.slice none 0 0) ∧ Below w.heap.size w w' := by
  go_enter Tryd.func61, Tryd.ntmps61
  go_wp2
  go_ret
  exact ⟨rfl, Below.refl _ _⟩
set_option maxRecDepth 100000 in
set_option maxHeartbeats 4000000 in
theorem form_Put (S : SmallV) (A0 A1 : Option Addr) (c0 c1 : Nat) (l0 l1 : List C) (i : Int) (w : World) (hR0 : Rd w A0 l0) (hR1 : Rd w A1 l1) (hc0 : l0.length ≤ c0) (hc1 : l1.length ≤ c1) (hl0 : l0.length ≤ 1000000) (hl1 : l1.length ≤ 1000000) (HT : Tab w) :
    Calls Tryd.prog 48 #[.slice A0 l0.length c0, .int .i64 i, .slice A1 l1.length c1] w fun e w' => ∃ v, e = .returned (.tuple #[v, .int .i64 (fPut l0 i l1).2]) ∧ Own w' w.heap.size v (fPut l0 i l1).1 ∧ Below w.heap.size w w' := by
  have hb0 : Below w.heap.size w (w.alloc (.cells #[.int .i64 i] 3)) := (Below.refl _ _).alloc (Nat.le_refl _) _
  have hbx : Below w.heap.size w ((w.alloc (.cells #[.int .i64 i] 3)).alloc (.cells #[.slice A1 l1.length c1] 26)) := hb0.alloc (by simp) _
  have hi0 : (w.alloc (.cells #[.int .i64 i] 3)).cell? ⟨w.heap.size, 0, none⟩ = some (.int .i64 i) := World.cell?_alloc_new ..
  have hix : ((w.alloc (.cells #[.int .i64 i] 3)).alloc (.cells #[.slice A1 l1.length c1] 26)).cell? ⟨w.heap.size, 0, none⟩ = some (.int .i64 i) := (World.cell?_alloc_lt _ _ ⟨w.heap.size, 0, none⟩ (by simp)).trans hi0
  have hrx : ((w.alloc (.cells #[.int .i64 i] 3)).alloc (.cells #[.slice A1 l1.length c1] 26)).cell? ⟨w.heap.size + 1, 0, none⟩ = some (.slice A1 l1.length c1) := by
    have := World.cell?_alloc_new (w.alloc (.cells #[.int .i64 i] 3)) #[.slice A1 l1.length c1] 26 0
    rw [World.size_alloc] at this
    exact this
  have h1 := form_right S.toSmallP _ _ _ (ArgsC.two (hR0.below hbx) (hR1.below hbx) hc0 hc1 hl0 hl1) (by simp)
  rw [World.size_alloc, World.size_alloc] at h1
  have hby : Below w.heap.size w (((w.alloc (.cells #[.int .i64 i] 3)).alloc (.cells #[.slice A1 l1.length c1] 26)).alloc (.cells #[.slice A0 l0.length c0, .slice A1 l1.length c1] 26)) := hbx.alloc (by simp; omega) _
  have hbxy : Below (w.heap.size + 2) ((w.alloc (.cells #[.int .i64 i] 3)).alloc (.cells #[.slice A1 l1.length c1] 26)) (((w.alloc (.cells #[.int .i64 i] 3)).alloc (.cells #[.slice A1 l1.length c1] 26)).alloc (.cells #[.slice A0 l0.length c0, .slice A1 l1.length c1] 26)) := (Below.refl _ _).alloc (by simp) _
  have hiy := (hbxy.cell (p := ⟨w.heap.size, 0, none⟩) (by simp)).trans hix
  have hry := (hbxy.cell (p := ⟨w.heap.size + 1, 0, none⟩) (by simp)).trans hrx
  have hd := S.dim i
  have hz := form_Zero
  have eg : ∀ args w, (callFunc 82 args).run Tryd.prog w = .ok (.enter 82 args) w := enters_of Tryd.func82 (by kernel_rfl) rfl
  have h2 : ∀ w1, l1.length ≤ 64 → Below w.heap.size w w1 → w1.cell? ⟨w.heap.size, 0, none⟩ = some (.int .i64 i) → w1.cell? ⟨w.heap.size + 1, 0, none⟩ = some (.slice A1 l1.length c1) →
      Calls Tryd.prog 81 #[.slice A0 l0.length c0, .slice none 0 0, .func (.func 82) #[] #[.pointer (some ⟨w.heap.size, 0, none⟩), .pointer (some ⟨w.heap.size + 1, 0, none⟩)]] w1 fun e w' => ∃ v, e = .returned (.tuple #[v, .int .i64 (putF l0 i l1).2]) ∧ Own w' w1.heap.size v (putF l0 i l1).1 ∧ Below w1.heap.size w1 w' :=
    fun w1 h64 hb1 hi1 hr1 => fold_two 82 (.pointer (some ⟨w.heap.size, 0, none⟩)) (.pointer (some ⟨w.heap.size + 1, 0, none⟩)) (putStep i l1) (fun L => L.length ≤ 64) c0 A0 l0 [] (.slice none 0 0) w1 w1 (hR0.below hb1) hl0 (Below.refl _ _) (Own.nil _ _) (by simp) (fun L c _ _ _ => putStep_len i l1 L c) eg
      fun L c v w2 _ hQ ho2 hb2 => put_pred S.toSmallU i l1 L c v A1 c1 w.heap.size (w.heap.size + 1) w1 w2 ho2 hb2.size hQ h64 ((hb2.cell (World.block_lt_of_cell? _ _ hi1)).trans hi1) ((hb2.cell (World.block_lt_of_cell? _ _ hr1)).trans hr1) ((hR1.below hb1).below hb2) ((HT.below hb1).below hb2)
  have HBY := Lib.hid hby
  have HIY := Lib.hid hiy
  have HRY := Lib.hid hry
  clear hb0 hbx hi0 hix hbxy eg hby hiy hry HT
  have hcells : ∀ (w1 w2 : World), Below w1.heap.size w1 w2 → w1.cell? ⟨w.heap.size, 0, none⟩ = some (.int .i64 i) → w1.cell? ⟨w.heap.size + 1, 0, none⟩ = some (.slice A1 l1.length c1) → w2.cell? ⟨w.heap.size, 0, none⟩ = some (.int .i64 i) ∧ w2.cell? ⟨w.heap.size + 1, 0, none⟩ = some (.slice A1 l1.length c1) :=
    fun _ _ hb h3 h4 => ⟨(hb.cell (World.block_lt_of_cell? _ _ h3)).trans h3, (hb.cell (World.block_lt_of_cell? _ _ h4)).trans h4⟩
  have HCL := Lib.hid hcells
  clear hcells
  unfold fPut
  by_cases hf : H.right l0 = true ∧ H.right l1 = true
  · rw [show rightG [(A0, c0, l0), (A1, c1, l1)] = 0 by unfold rightG; simp [hf.1, hf.2]] at h1
    have h64 := len_of_right hf.2
    rw [if_pos hf]
    clear hf
    cases hdi : dimI i
    · have hfd : fDim i = ([], 2) := by
        unfold fDim
        rw [hdi, if_neg Bool.false_ne_true]
      rw [if_neg (by simp)]
      rw [hfd] at hd
      clear h2 hdi hfd
      go_enter Tryd.func48, Tryd.ntmps48
      go_wp2_with (first
        | (go_at_call 62; refine h1.mono ?_; rintro e w2 ⟨rfl, hb2⟩; have HB2 := below_then HBY (Below.size HBY) hb2; obtain ⟨g1, g2⟩ := (show ∀ (w1 w2 : World), _ from HCL) _ _ hb2 HIY HRY)
        | (go_at_call 34; refine (hd _).mono ?_; rintro e w3 ⟨v3, rfl, ho3, hb3⟩))
      go_ret2
      exact ⟨_, rfl, Own.nil _ _, below_then HB2 HB2.size hb3⟩
    · have hfd : fDim i = ([dimC i], 0) := by
        unfold fDim
        rw [hdi, if_pos rfl]
      rw [if_pos rfl]
      rw [hfd] at hd
      have h2' := fun w1 => h2 w1 h64
      clear h2 hdi hfd
      generalize putF l0 i l1 = R at *
      go_enter Tryd.func48, Tryd.ntmps48
      go_wp2_with (first
        | (go_at_call 62; refine h1.mono ?_; rintro e w2 ⟨rfl, hb2⟩; have HB2 := below_then HBY (Below.size HBY) hb2; obtain ⟨g1, g2⟩ := (show ∀ (w1 w2 : World), _ from HCL) _ _ hb2 HIY HRY)
        | (go_at_call 34; refine (hd _).mono ?_; rintro e w3 ⟨v3, rfl, ho3, hb3⟩; have HB3 := below_then HB2 HB2.size hb3; obtain ⟨g3, g4⟩ := (show ∀ (w1 w2 : World), _ from HCL) _ _ hb3 g1 g2)
        | (go_at_call 61; refine (hz _).mono ?_; rintro e w4 ⟨rfl, hb4⟩; have HB4 := below_then HB3 HB3.size hb4; obtain ⟨g5, g6⟩ := (show ∀ (w1 w2 : World), _ from HCL) _ _ hb4 g3 g4)
        | (go_at_call 81; refine (h2' _ HB4 g5 g6).mono ?_; rintro e w5 ⟨v5, rfl, ho5, hb5⟩))
      go_ret2
      exact ⟨_, rfl, ho5.mono HB4.size, below_then HB4 HB4.size hb5⟩
  · rw [show rightG [(A0, c0, l0), (A1, c1, l1)] = 2 by unfold rightG; rw [if_neg]; simpa using hf] at h1
    rw [if_neg hf]
    clear hf h2
    go_enter Tryd.func48, Tryd.ntmps48
    go_wp2_with (go_at_call 62; refine h1.mono ?_; rintro e w2 ⟨rfl, hb2⟩)
    go_ret2
    exact ⟨_, rfl, Own.nil _ _, below_then HBY (Below.size HBY) hb2⟩
end Go.Proofs.YtfbcgjkagdbckaaDoor
