/-
Walk: the inner function of face.All (written by wip/mkdrawn.py).
-/
import Derived.RangeFuncBox
import Derived.Test.YtahbmjpgnfgklaaFace
import Derived.Test.YtahbmjpgnfgklaaWMore
import Derived.Test.YtahbmjpgnfgklaaWLast
import Derived.Test.YtahbmjpgnfgklaaWKept
namespace Go.Proofs.Ytahbmjpgnfgklaa
open Go.RowKit H
open Go.Proofs.YtahbmjpgnfgklaaW.PrintWords Go.Proofs.YtahbmjpgnfgklaaW.PrintLast Go.Proofs.YtahbmjpgnfgklaaW.PrintMore

set_option maxHeartbeats 8000000 in
set_option maxRecDepth 100000 in
theorem all_pred (c : C) (i : Int) (r : Bool) (bi : Nat) (w : World) (hI : Boxed w bi 3 (.int .i64 i))
    (hHas : ∀ w, Calls Try.prog 61 #[.int .u32 (bits .or .u32 (un c.1) (un c.2)), .int .i64 i] w fun e w' => e = .returned (.bool r) ∧ Below w.heap.size w w') :
    Calls Try.prog 60 #[.agg #[.int .u32 (un c.1), .int .u32 (un c.2)], .pointer (some ⟨bi, 0, none⟩)] w fun e w' => e = .returned (.tuple #[.agg #[.int .u32 (un c.1), .int .u32 (un c.2)], .bool (!r)]) ∧ Below w.heap.size w w' := by
  have hlti := hI.lt
  have hB1 : Below w.heap.size w (w.alloc (.cells #[.int .u32 (un c.1), .int .u32 (un c.2)] 24)) := (Below.refl _ _).alloc (Nat.le_refl _) _
  have HB0 := hB1.alloc (by simp) (.cells #[.int .u32 0, .int .u32 0] 24)
  have hA1 : At2 (w.alloc (.cells #[.int .u32 (un c.1), .int .u32 (un c.2)] 24)) w.heap.size c := ⟨World.cell?_alloc_new .., World.cell?_alloc_new ..⟩
  have HA0 := hA1.below ((Below.refl _ _).alloc (Nat.le_refl _) (.cells #[.int .u32 0, .int .u32 0] 24))
  have HI0 : Boxed ((w.alloc (.cells #[.int .u32 (un c.1), .int .u32 (un c.2)] 24)).alloc (.cells #[.int .u32 0, .int .u32 0] 24)) bi 3 (.int .i64 i) := (HB0.block _ hlti).trans hI
  have HR0 : ((w.alloc (.cells #[.int .u32 (un c.1), .int .u32 (un c.2)] 24)).alloc (.cells #[.int .u32 0, .int .u32 0] 24)).heap[w.heap.size + 1]? = some (.cells #[.int .u32 0, .int .u32 0] 24 (0, 0)) := by
    have := World.alloc_heap_new (w.alloc (.cells #[.int .u32 (un c.1), .int .u32 (un c.2)] 24)) (.cells #[.int .u32 0, .int .u32 0] 24)
    rw [World.size_alloc] at this
    exact this
  go_enter Try.func60, Try.ntmps60
  go_wp2
  have hne0 : w.heap.size ≠ w.heap.size + 1 := by omega
  have hnei : bi ≠ w.heap.size + 1 := by omega
  have hge : w.heap.size ≤ w.heap.size + 1 := by omega
  generalize hW0 : (w.alloc (.cells #[.int .u32 (un c.1), .int .u32 (un c.2)] 24)).alloc (.cells #[.int .u32 0, .int .u32 0] 24) = W0 at *
  generalize hb1 : w.heap.size + 1 = b1 at *
  have HA1 : At2 W0.drew w.heap.size c := HA0
  have HI1 : Boxed W0.drew bi 3 (.int .i64 i) := HI0
  have HR1 : W0.drew.heap[b1]? = some (.cells #[.int .u32 0, .int .u32 0] 24 (0, 0)) := HR0
  have HBd : Below w.heap.size w W0.drew := HB0.trans ⟨rfl, rfl, rfl, Nat.le_refl _, fun _ _ => rfl⟩
  refine start_ (n := 11) (S := fun w' => w'.cell? ⟨w.heap.size, 0, none⟩ = some (.int .u32 (un c.1)) ∧ w'.cell? ⟨w.heap.size, 1, none⟩ = some (.int .u32 (un c.2)) ∧ w'.cell? ⟨bi, 0, none⟩ = some (.int .i64 i)) (ds := []) #[false, false, false, false, false, false, false, false, false, false, false] (by kernel_rfl) rfl rfl ⟨HA0.1, HA0.2, HI0.cell⟩ (fun hHeld => ?_)
  have HB1 := HBd
  clear HBd
  generalize W0.drew = W1 at *
  refine take_ (i := 0) (N := some 5) (v := ?_) (a' := ?_) #[true, false, false, false, false, false, false, false, false, false, false] rfl rfl (by kernel_rfl) (fun _ _ _ h => h) (Or.inl ⟨by rfl, ?_⟩) hHeld ?_ ?_
  rotate_left
  · rintro w' ⟨s0, s1, s2⟩
    go_simp
    with_reducible rfl
  rotate_left
  · simp only [Act.put, List.setIfInBounds_toArray, List.set_cons_zero, List.set_cons_succ]
    rfl
  refine pure_ (i := 1) (N := some 6) (v := ?_) (a' := ?_) #[true, true, false, false, false, false, false, false, false, false, false] rfl rfl (by kernel_rfl) (fun _ _ _ h => h) (Or.inl ⟨by rfl, ?_⟩) ?_ ?_
  rotate_left
  · intro w'
    go_simp
    with_reducible rfl
  rotate_left
  · simp only [Act.put, List.setIfInBounds_toArray, List.set_cons_zero, List.set_cons_succ]
    rfl
  refine take_ (i := 2) (N := some 7) (v := ?_) (a' := ?_) #[true, true, true, false, false, false, false, false, false, false, false] rfl rfl (by kernel_rfl) (fun _ _ _ h => h) (Or.inl ⟨by rfl, ?_⟩) hHeld ?_ ?_
  rotate_left
  · rintro w' ⟨s0, s1, s2⟩
    go_simp
    with_reducible rfl
  rotate_left
  · simp only [Act.put, List.setIfInBounds_toArray, List.set_cons_zero, List.set_cons_succ]
    rfl
  refine pure_ (i := 3) (N := some 8) (v := ?_) (a' := ?_) #[true, true, true, true, false, false, false, false, false, false, false] rfl rfl (by kernel_rfl) (fun _ _ _ h => h) (Or.inl ⟨by rfl, ?_⟩) ?_ ?_
  rotate_left
  · intro w'
    go_simp
    with_reducible rfl
  rotate_left
  · simp only [Act.put, List.setIfInBounds_toArray, List.set_cons_zero, List.set_cons_succ]
    rfl
  refine take_ (i := 4) (N := some 9) (v := ?_) (a' := ?_) #[true, true, true, true, true, false, false, false, false, false, false] rfl rfl (by kernel_rfl) (fun _ _ _ h => h) (Or.inl ⟨by rfl, ?_⟩) hHeld ?_ ?_
  rotate_left
  · rintro w' ⟨s0, s1, s2⟩
    go_simp
    with_reducible rfl
  rotate_left
  · simp only [Act.put, List.setIfInBounds_toArray, List.set_cons_zero, List.set_cons_succ]
    rfl
  refine pure_ (i := 5) (N := some 10) (v := ?_) (a' := ?_) #[true, true, true, true, true, true, false, false, false, false, false] rfl rfl (by kernel_rfl) (fun _ _ _ h => h) (Or.inl ⟨by rfl, ?_⟩) ?_ ?_
  rotate_left
  · intro w'
    go_simp
    with_reducible rfl
  rotate_left
  · simp only [Act.put, List.setIfInBounds_toArray, List.set_cons_zero, List.set_cons_succ]
    rfl
  refine take_ (i := 6) (N := some 11) (v := ?_) (a' := ?_) #[true, true, true, true, true, true, true, false, false, false, false] rfl rfl (by kernel_rfl) (fun _ _ _ h => h) (Or.inl ⟨by rfl, ?_⟩) hHeld ?_ ?_
  rotate_left
  · rintro w' ⟨s0, s1, s2⟩
    go_simp
    with_reducible rfl
  rotate_left
  · simp only [Act.put, List.setIfInBounds_toArray, List.set_cons_zero, List.set_cons_succ]
    rfl
  refine one_ (i := 7) (N := some 12) #[true, true, true, true, true, true, true, true, false, false, false] rfl rfl (by kernel_rfl) (by decide) (fun K hK => ?_)
  refine goes_ Try.func61 (by kernel_rfl) rfl #[.int .u32 (bits .or .u32 (un c.1) (un c.2)), .int .i64 i] (by rfl) rfl rfl (by (try simp only [List.map_toArray, List.map_cons, List.map_nil]); first | done | rfl) ?_
  with_reducible refine (hHas _).mono ?_
  rintro e W2 ⟨rfl, hb⟩
  refine ⟨_, rfl, ?_⟩
  have hHeld_ := hHeld
  have HA2 := HA1.below hb
  have HI2 : Boxed W2 bi 3 (.int .i64 i) := (hb.block _ HI1.lt).trans HI1
  have HR2 : W2.heap[b1]? = some (.cells #[.int .u32 0, .int .u32 0] 24 (0, 0)) := (hb.block _ (Array.getElem?_eq_some_iff.1 HR1).1).trans HR1
  have HB2 := below_then HB1 HB1.size hb
  refine hK.out _ _ ⟨HA2.1, HA2.2, HI2.cell⟩ (fun hHeld => ?_)
  clear hK K hHeld_
  refine norm_ (a' := ?_) ?_ ?_
  rotate_left
  · show Act.put _ (some 12) _ = _
    simp only [Act.put, List.setIfInBounds_toArray, List.set_cons_zero, List.set_cons_succ]
    rfl
  refine pure_ (i := 8) (N := some 13) (v := ?_) (a' := ?_) #[true, true, true, true, true, true, true, true, true, false, false] rfl rfl (by kernel_rfl) (fun _ _ _ h => h) (Or.inl ⟨by rfl, ?_⟩) ?_ ?_
  rotate_left
  · intro w'
    go_simp
    with_reducible rfl
  rotate_left
  · simp only [Act.put, List.setIfInBounds_toArray, List.set_cons_zero, List.set_cons_succ]
    rfl
  refine one_ (i := 9) (N := none) #[true, true, true, true, true, true, true, true, true, true, false] rfl rfl (by kernel_rfl) (by decide) (fun K hK => ?_)
  have hs0 : W2.cell? ⟨b1, 0, none⟩ = some (.int .u32 0) := (blk_cell HR2 0).trans rfl
  have hf0 := blk_frozen HR2 0
  have hs1 : W2.cell? ⟨b1, 1, none⟩ = some (.int .u32 0) := (blk_cell HR2 1).trans rfl
  have hf1 := blk_frozen HR2 1
  refine skip_ (w1 := ?_) (by rfl) rfl ?_ ?_
  rotate_left
  · go_simp
    rfl
  have hHeld_ := hHeld
  refine hK.out _ _ ⟨(cell_far (p := ⟨b1, _, none⟩) hne0 _).trans ((cell_far (p := ⟨b1, _, none⟩) hne0 _).trans hHeld.1), (cell_far (p := ⟨b1, _, none⟩) hne0 _).trans ((cell_far (p := ⟨b1, _, none⟩) hne0 _).trans hHeld.2.1), (cell_far (p := ⟨b1, _, none⟩) hnei _).trans ((cell_far (p := ⟨b1, _, none⟩) hnei _).trans hHeld.2.2)⟩ (fun hHeld => ?_)
  clear hK K hHeld_
  refine pure_ (i := 10) (N := some 4) (v := ?_) (a' := ?_) #[true, true, true, true, true, true, true, true, true, true, true] rfl rfl (by kernel_rfl) (fun _ _ _ h => h) (Or.inl ⟨by rfl, ?_⟩) ?_ ?_
  rotate_left
  · intro w'
    go_simp
    with_reducible rfl
  rotate_left
  · simp only [Act.put, List.setIfInBounds_toArray, List.set_cons_zero, List.set_cons_succ]
    rfl
  refine done_ (by kernel_rfl) ?_
  try go_wp2
  refine bodyPost_ret (results_ct rfl _ _ b1 24 #[.int .u32 (un c.1), .int .u32 (un c.2)] (0, 0) _ rfl (by refine blk_put (cs := #[.int .u32 (un c.1), .int .u32 0]) ?_ 1 _ rfl; refine blk_put (cs := #[.int .u32 0, .int .u32 0]) ?_ 0 _ rfl; exact HR2) Try.underlying24 rfl (by kernel_rfl)) rfl ?_
  exact ⟨by first | rfl | (simp <;> rfl), below_set (below_set HB2 hge) hge⟩
end Go.Proofs.Ytahbmjpgnfgklaa
