/-
Walks: face's functions.
-/
import Derived.RangeFuncBox
import Derived.Test.YtfbcgjkagdbckaaGreatDoorFc
import Derived.Test.YtfbcgjkagdbckaaGreatDoorWMore
import Derived.Test.YtfbcgjkagdbckaaGreatDoorWLast
import Derived.Test.YtfbcgjkagdbckaaGreatDoorWKept
import Derived.Test.YtfbcgjkagdbckaaGreatDoorLst
/-! Walk: the inner function of face.All (written by wip/mkdrawn.py). -/
namespace Go.Proofs.YtfbcgjkagdbckaaGreatDoor
open Go.RowKit H
open Go.Proofs.YtfbcgjkagdbckaaGreatDoorW.PrintWords Go.Proofs.YtfbcgjkagdbckaaGreatDoorW.PrintLast Go.Proofs.YtfbcgjkagdbckaaGreatDoorW.PrintMore

set_option maxHeartbeats 8000000 in
set_option maxRecDepth 100000 in
theorem all_pred (c : C) (i : Int) (r : Bool) (bi : Nat) (w : World) (hI : Boxed w bi 3 (.int .i64 i))
    (hHas : ∀ w, Calls Tryz.prog 30 #[.int .u32 (bits .or .u32 (un c.1) (un c.2)), .int .i64 i] w fun e w' => e = .returned (.bool r) ∧ Below w.heap.size w w') :
    Calls Tryz.prog 29 #[.agg #[.int .u32 (un c.1), .int .u32 (un c.2)], .pointer (some ⟨bi, 0, none⟩)] w fun e w' => e = .returned (.tuple #[.agg #[.int .u32 (un c.1), .int .u32 (un c.2)], .bool (!r)]) ∧ Below w.heap.size w w' := by
  have hlti := hI.lt
  have hB1 : Below w.heap.size w (w.alloc (.cells #[.int .u32 (un c.1), .int .u32 (un c.2)] 25)) := (Below.refl _ _).alloc (Nat.le_refl _) _
  have HB0 := hB1.alloc (by simp) (.cells #[.int .u32 0, .int .u32 0] 25)
  have hA1 : At2 (w.alloc (.cells #[.int .u32 (un c.1), .int .u32 (un c.2)] 25)) w.heap.size c := ⟨World.cell?_alloc_new .., World.cell?_alloc_new ..⟩
  have HA0 := hA1.below ((Below.refl _ _).alloc (Nat.le_refl _) (.cells #[.int .u32 0, .int .u32 0] 25))
  have HI0 : Boxed ((w.alloc (.cells #[.int .u32 (un c.1), .int .u32 (un c.2)] 25)).alloc (.cells #[.int .u32 0, .int .u32 0] 25)) bi 3 (.int .i64 i) := (HB0.block _ hlti).trans hI
  have HR0 : ((w.alloc (.cells #[.int .u32 (un c.1), .int .u32 (un c.2)] 25)).alloc (.cells #[.int .u32 0, .int .u32 0] 25)).heap[w.heap.size + 1]? = some (.cells #[.int .u32 0, .int .u32 0] 25 (0, 0)) := by
    have := World.alloc_heap_new (w.alloc (.cells #[.int .u32 (un c.1), .int .u32 (un c.2)] 25)) (.cells #[.int .u32 0, .int .u32 0] 25)
    rw [World.size_alloc] at this
    exact this
  go_enter Tryz.func29, Tryz.ntmps29
  go_wp2
  have hne0 : w.heap.size ≠ w.heap.size + 1 := by omega
  have hnei : bi ≠ w.heap.size + 1 := by omega
  have hge : w.heap.size ≤ w.heap.size + 1 := by omega
  generalize hW0 : (w.alloc (.cells #[.int .u32 (un c.1), .int .u32 (un c.2)] 25)).alloc (.cells #[.int .u32 0, .int .u32 0] 25) = W0 at *
  generalize hb1 : w.heap.size + 1 = b1 at *
  have HA1 : At2 W0.drew w.heap.size c := HA0
  have HI1 : Boxed W0.drew bi 3 (.int .i64 i) := HI0
  have HR1 : W0.drew.heap[b1]? = some (.cells #[.int .u32 0, .int .u32 0] 25 (0, 0)) := HR0
  have HBd : Below w.heap.size w W0.drew := HB0.trans ⟨rfl, rfl, rfl, Nat.le_refl _, fun _ _ => rfl⟩
  refine start_ (n := 11) (S := fun w' => w'.cell? ⟨w.heap.size, 0, none⟩ = some (.int .u32 (un c.1)) ∧ w'.cell? ⟨w.heap.size, 1, none⟩ = some (.int .u32 (un c.2)) ∧ w'.cell? ⟨bi, 0, none⟩ = some (.int .i64 i)) (ds := []) #[false, false, false, false, false, false, false, false, false, false, false] (by kernel_rfl) rfl rfl ⟨HA0.1, HA0.2, HI0.cell⟩ (fun hHeld => ?_)
  have HB1 := HBd
  clear HBd
  generalize W0.drew = W1 at *
  refine take_ (i := 0) (N := some 5) (v := ?_) (a' := ?_) #[true, false, false, false, false, false, false, false, false, false, false] rfl rfl (by kernel_rfl) (fun _ _ _ h => h) (Or.inl ⟨by rfl, ?_⟩) hHeld ?_ ?_
  rotate_left
  · rintro w' ⟨s0, s1, s2⟩
    go_simp
    with_reducible rfl
  rotate_left
  · simp only [Act.put, List.setIfInBounds_toArray, List.set_cons_zero, List.set_cons_succ]
    rfl
  refine pure_ (i := 1) (N := some 6) (v := ?_) (a' := ?_) #[true, true, false, false, false, false, false, false, false, false, false] rfl rfl (by kernel_rfl) (fun _ _ _ h => h) (Or.inl ⟨by rfl, ?_⟩) ?_ ?_
  rotate_left
  · intro w'
    go_simp
    with_reducible rfl
  rotate_left
  · simp only [Act.put, List.setIfInBounds_toArray, List.set_cons_zero, List.set_cons_succ]
    rfl
  refine take_ (i := 2) (N := some 7) (v := ?_) (a' := ?_) #[true, true, true, false, false, false, false, false, false, false, false] rfl rfl (by kernel_rfl) (fun _ _ _ h => h) (Or.inl ⟨by rfl, ?_⟩) hHeld ?_ ?_
  rotate_left
  · rintro w' ⟨s0, s1, s2⟩
    go_simp
    with_reducible rfl
  rotate_left
  · simp only [Act.put, List.setIfInBounds_toArray, List.set_cons_zero, List.set_cons_succ]
    rfl
  refine pure_ (i := 3) (N := some 8) (v := ?_) (a' := ?_) #[true, true, true, true, false, false, false, false, false, false, false] rfl rfl (by kernel_rfl) (fun _ _ _ h => h) (Or.inl ⟨by rfl, ?_⟩) ?_ ?_
  rotate_left
  · intro w'
    go_simp
    with_reducible rfl
  rotate_left
  · simp only [Act.put, List.setIfInBounds_toArray, List.set_cons_zero, List.set_cons_succ]
    rfl
  refine take_ (i := 4) (N := some 9) (v := ?_) (a' := ?_) #[true, true, true, true, true, false, false, false, false, false, false] rfl rfl (by kernel_rfl) (fun _ _ _ h => h) (Or.inl ⟨by rfl, ?_⟩) hHeld ?_ ?_
  rotate_left
  · rintro w' ⟨s0, s1, s2⟩
    go_simp
    with_reducible rfl
  rotate_left
  · simp only [Act.put, List.setIfInBounds_toArray, List.set_cons_zero, List.set_cons_succ]
    rfl
  refine pure_ (i := 5) (N := some 10) (v := ?_) (a' := ?_) #[true, true, true, true, true, true, false, false, false, false, false] rfl rfl (by kernel_rfl) (fun _ _ _ h => h) (Or.inl ⟨by rfl, ?_⟩) ?_ ?_
  rotate_left
  · intro w'
    go_simp
    with_reducible rfl
  rotate_left
  · simp only [Act.put, List.setIfInBounds_toArray, List.set_cons_zero, List.set_cons_succ]
    rfl
  refine take_ (i := 6) (N := some 11) (v := ?_) (a' := ?_) #[true, true, true, true, true, true, true, false, false, false, false] rfl rfl (by kernel_rfl) (fun _ _ _ h => h) (Or.inl ⟨by rfl, ?_⟩) hHeld ?_ ?_
  rotate_left
  · rintro w' ⟨s0, s1, s2⟩
    go_simp
    with_reducible rfl
  rotate_left
  · simp only [Act.put, List.setIfInBounds_toArray, List.set_cons_zero, List.set_cons_succ]
    rfl
  refine one_ (i := 7) (N := some 12) #[true, true, true, true, true, true, true, true, false, false, false] rfl rfl (by kernel_rfl) (by decide) (fun K hK => ?_)
  refine goes_ Tryz.func30 (by kernel_rfl) rfl #[.int .u32 (bits .or .u32 (un c.1) (un c.2)), .int .i64 i] (by rfl) rfl rfl (by (try simp only [List.map_toArray, List.map_cons, List.map_nil]); first | done | rfl) ?_
  with_reducible refine (hHas _).mono ?_
  rintro e W2 ⟨rfl, hb⟩
  refine ⟨_, rfl, ?_⟩
  have hHeld_ := hHeld
  have HA2 := HA1.below hb
  have HI2 : Boxed W2 bi 3 (.int .i64 i) := (hb.block _ HI1.lt).trans HI1
  have HR2 : W2.heap[b1]? = some (.cells #[.int .u32 0, .int .u32 0] 25 (0, 0)) := (hb.block _ (Array.getElem?_eq_some_iff.1 HR1).1).trans HR1
  have HB2 := below_then HB1 HB1.size hb
  refine hK.out _ _ ⟨HA2.1, HA2.2, HI2.cell⟩ (fun hHeld => ?_)
  clear hK K hHeld_
  refine norm_ (a' := ?_) ?_ ?_
  rotate_left
  · show Act.put _ (some 12) _ = _
    simp only [Act.put, List.setIfInBounds_toArray, List.set_cons_zero, List.set_cons_succ]
    rfl
  refine pure_ (i := 8) (N := some 13) (v := ?_) (a' := ?_) #[true, true, true, true, true, true, true, true, true, false, false] rfl rfl (by kernel_rfl) (fun _ _ _ h => h) (Or.inl ⟨by rfl, ?_⟩) ?_ ?_
  rotate_left
  · intro w'
    go_simp
    with_reducible rfl
  rotate_left
  · simp only [Act.put, List.setIfInBounds_toArray, List.set_cons_zero, List.set_cons_succ]
    rfl
  refine one_ (i := 9) (N := none) #[true, true, true, true, true, true, true, true, true, true, false] rfl rfl (by kernel_rfl) (by decide) (fun K hK => ?_)
  have hs0 : W2.cell? ⟨b1, 0, none⟩ = some (.int .u32 0) := (blk_cell HR2 0).trans rfl
  have hf0 := blk_frozen HR2 0
  have hs1 : W2.cell? ⟨b1, 1, none⟩ = some (.int .u32 0) := (blk_cell HR2 1).trans rfl
  have hf1 := blk_frozen HR2 1
  refine skip_ (w1 := ?_) (by rfl) rfl ?_ ?_
  rotate_left
  · go_simp
    rfl
  have hHeld_ := hHeld
  refine hK.out _ _ ⟨(cell_far (p := ⟨b1, _, none⟩) hne0 _).trans ((cell_far (p := ⟨b1, _, none⟩) hne0 _).trans hHeld.1), (cell_far (p := ⟨b1, _, none⟩) hne0 _).trans ((cell_far (p := ⟨b1, _, none⟩) hne0 _).trans hHeld.2.1), (cell_far (p := ⟨b1, _, none⟩) hnei _).trans ((cell_far (p := ⟨b1, _, none⟩) hnei _).trans hHeld.2.2)⟩ (fun hHeld => ?_)
  clear hK K hHeld_
  refine pure_ (i := 10) (N := some 4) (v := ?_) (a' := ?_) #[true, true, true, true, true, true, true, true, true, true, true] rfl rfl (by kernel_rfl) (fun _ _ _ h => h) (Or.inl ⟨by rfl, ?_⟩) ?_ ?_
  rotate_left
  · intro w'
    go_simp
    with_reducible rfl
  rotate_left
  · simp only [Act.put, List.setIfInBounds_toArray, List.set_cons_zero, List.set_cons_succ]
    rfl
  refine done_ (by kernel_rfl) ?_
  try go_wp2
  refine bodyPost_ret (results_ct rfl _ _ b1 25 #[.int .u32 (un c.1), .int .u32 (un c.2)] (0, 0) _ rfl (by refine blk_put (cs := #[.int .u32 (un c.1), .int .u32 0]) ?_ 1 _ rfl; refine blk_put (cs := #[.int .u32 0, .int .u32 0]) ?_ 0 _ rfl; exact HR2) Tryz.underlying25 rfl (by kernel_rfl)) rfl ?_
  exact ⟨by first | rfl | (simp <;> rfl), below_set (below_set HB2 hge) hge⟩
end Go.Proofs.YtfbcgjkagdbckaaGreatDoor
/-! Walk: the inner function of face.Restrict (written by wip/mkdrawn.py). -/
namespace Go.Proofs.YtfbcgjkagdbckaaGreatDoor
open Go.RowKit H
open Go.Proofs.YtfbcgjkagdbckaaGreatDoorW.PrintWords Go.Proofs.YtfbcgjkagdbckaaGreatDoorW.PrintLast Go.Proofs.YtfbcgjkagdbckaaGreatDoorW.PrintMore

set_option maxHeartbeats 8000000 in
set_option maxRecDepth 100000 in
theorem restrict_pred (S : SmallF) (c d : C) (bc : Nat) (w : World) (hI : At2 w bc c)
    :
    Calls Tryz.prog 19 #[.agg #[.int .u32 (un d.1), .int .u32 (un d.2)], .pointer (some ⟨bc, 0, none⟩)] w fun e w' => e = .returned (.tuple #[.agg #[.int .u32 (bits .andNot .u32 (un d.1) (un c.1)), .int .u32 (bits .andNot .u32 (un d.2) (un c.2))], .bool (!H.clash (H.meet c d))]) ∧ Below w.heap.size w w' := by
  have hlti := hI.lt
  have hB1 : Below w.heap.size w (w.alloc (.cells #[.int .u32 (un d.1), .int .u32 (un d.2)] 25)) := (Below.refl _ _).alloc (Nat.le_refl _) _
  have HB0 := hB1.alloc (by simp) (.cells #[.int .u32 0, .int .u32 0] 25)
  have hA1 : At2 (w.alloc (.cells #[.int .u32 (un d.1), .int .u32 (un d.2)] 25)) w.heap.size d := ⟨World.cell?_alloc_new .., World.cell?_alloc_new ..⟩
  have HA0 := hA1.below ((Below.refl _ _).alloc (Nat.le_refl _) (.cells #[.int .u32 0, .int .u32 0] 25))
  have HI0 : At2 ((w.alloc (.cells #[.int .u32 (un d.1), .int .u32 (un d.2)] 25)).alloc (.cells #[.int .u32 0, .int .u32 0] 25)) bc c := hI.below HB0
  have HR0 : ((w.alloc (.cells #[.int .u32 (un d.1), .int .u32 (un d.2)] 25)).alloc (.cells #[.int .u32 0, .int .u32 0] 25)).heap[w.heap.size + 1]? = some (.cells #[.int .u32 0, .int .u32 0] 25 (0, 0)) := by
    have := World.alloc_heap_new (w.alloc (.cells #[.int .u32 (un d.1), .int .u32 (un d.2)] 25)) (.cells #[.int .u32 0, .int .u32 0] 25)
    rw [World.size_alloc] at this
    exact this
  go_enter Tryz.func19, Tryz.ntmps19
  go_wp2
  have hne0 : w.heap.size ≠ w.heap.size + 1 := by omega
  have hnei : bc ≠ w.heap.size + 1 := by omega
  have hge : w.heap.size ≤ w.heap.size + 1 := by omega
  generalize hW0 : (w.alloc (.cells #[.int .u32 (un d.1), .int .u32 (un d.2)] 25)).alloc (.cells #[.int .u32 0, .int .u32 0] 25) = W0 at *
  generalize hb1 : w.heap.size + 1 = b1 at *
  have HA1 : At2 W0.drew w.heap.size d := HA0
  have HI1 : At2 W0.drew bc c := HI0
  have HR1 : W0.drew.heap[b1]? = some (.cells #[.int .u32 0, .int .u32 0] 25 (0, 0)) := HR0
  have HBd : Below w.heap.size w W0.drew := HB0.trans ⟨rfl, rfl, rfl, Nat.le_refl _, fun _ _ => rfl⟩
  refine start_ (n := 18) (S := fun w' => w'.cell? ⟨w.heap.size, 0, none⟩ = some (.int .u32 (un d.1)) ∧ w'.cell? ⟨w.heap.size, 1, none⟩ = some (.int .u32 (un d.2)) ∧ w'.cell? ⟨bc, 0, none⟩ = some (.int .u32 (un c.1)) ∧ w'.cell? ⟨bc, 1, none⟩ = some (.int .u32 (un c.2))) (ds := []) #[false, false, false, false, false, false, false, false, false, false, false, false, false, false, false, false, false, false] (by kernel_rfl) rfl rfl ⟨HA0.1, HA0.2, HI0.1, HI0.2⟩ (fun hHeld => ?_)
  have HB1 := HBd
  clear HBd
  generalize W0.drew = W1 at *
  refine pure_ (i := 0) (N := some 5) (v := ?_) (a' := ?_) #[true, false, false, false, false, false, false, false, false, false, false, false, false, false, false, false, false, false] rfl rfl (by kernel_rfl) (fun _ _ _ h => h) (Or.inl ⟨by rfl, ?_⟩) ?_ ?_
  rotate_left
  · intro w'
    go_simp
    with_reducible rfl
  rotate_left
  · simp only [Act.put, List.setIfInBounds_toArray, List.set_cons_zero, List.set_cons_succ]
    rfl
  refine take_ (i := 1) (N := some 6) (v := ?_) (a' := ?_) #[true, true, false, false, false, false, false, false, false, false, false, false, false, false, false, false, false, false] rfl rfl (by kernel_rfl) (fun _ _ _ h => h) (Or.inl ⟨by rfl, ?_⟩) hHeld ?_ ?_
  rotate_left
  · rintro w' ⟨s0, s1, s2, s3⟩
    go_simp
    with_reducible rfl
  rotate_left
  · simp only [Act.put, List.setIfInBounds_toArray, List.set_cons_zero, List.set_cons_succ]
    rfl
  refine pure_ (i := 2) (N := some 7) (v := ?_) (a' := ?_) #[true, true, true, false, false, false, false, false, false, false, false, false, false, false, false, false, false, false] rfl rfl (by kernel_rfl) (fun _ _ _ h => h) (Or.inl ⟨by rfl, ?_⟩) ?_ ?_
  rotate_left
  · intro w'
    go_simp
    with_reducible rfl
  rotate_left
  · simp only [Act.put, List.setIfInBounds_toArray, List.set_cons_zero, List.set_cons_succ]
    rfl
  refine take_ (i := 3) (N := some 8) (v := ?_) (a' := ?_) #[true, true, true, true, false, false, false, false, false, false, false, false, false, false, false, false, false, false] rfl rfl (by kernel_rfl) (fun _ _ _ h => h) (Or.inl ⟨by rfl, ?_⟩) hHeld ?_ ?_
  rotate_left
  · rintro w' ⟨s0, s1, s2, s3⟩
    go_simp
    with_reducible rfl
  rotate_left
  · simp only [Act.put, List.setIfInBounds_toArray, List.set_cons_zero, List.set_cons_succ]
    rfl
  refine pure_ (i := 4) (N := some 9) (v := ?_) (a' := ?_) #[true, true, true, true, true, false, false, false, false, false, false, false, false, false, false, false, false, false] rfl rfl (by kernel_rfl) (fun _ _ _ h => h) (Or.inl ⟨by rfl, ?_⟩) ?_ ?_
  rotate_left
  · intro w'
    go_simp
    with_reducible rfl
  rotate_left
  · simp only [Act.put, List.setIfInBounds_toArray, List.set_cons_zero, List.set_cons_succ]
    rfl
  refine pure_ (i := 5) (N := some 10) (v := ?_) (a' := ?_) #[true, true, true, true, true, true, false, false, false, false, false, false, false, false, false, false, false, false] rfl rfl (by kernel_rfl) (fun _ _ _ h => h) (Or.inl ⟨by rfl, ?_⟩) ?_ ?_
  rotate_left
  · intro w'
    go_simp
    with_reducible rfl
  rotate_left
  · simp only [Act.put, List.setIfInBounds_toArray, List.set_cons_zero, List.set_cons_succ]
    rfl
  refine take_ (i := 6) (N := some 11) (v := ?_) (a' := ?_) #[true, true, true, true, true, true, true, false, false, false, false, false, false, false, false, false, false, false] rfl rfl (by kernel_rfl) (fun _ _ _ h => h) (Or.inl ⟨by rfl, ?_⟩) hHeld ?_ ?_
  rotate_left
  · rintro w' ⟨s0, s1, s2, s3⟩
    go_simp
    with_reducible rfl
  rotate_left
  · simp only [Act.put, List.setIfInBounds_toArray, List.set_cons_zero, List.set_cons_succ]
    rfl
  refine pure_ (i := 7) (N := some 12) (v := ?_) (a' := ?_) #[true, true, true, true, true, true, true, true, false, false, false, false, false, false, false, false, false, false] rfl rfl (by kernel_rfl) (fun _ _ _ h => h) (Or.inl ⟨by rfl, ?_⟩) ?_ ?_
  rotate_left
  · intro w'
    go_simp
    with_reducible rfl
  rotate_left
  · simp only [Act.put, List.setIfInBounds_toArray, List.set_cons_zero, List.set_cons_succ]
    rfl
  refine take_ (i := 8) (N := some 13) (v := ?_) (a' := ?_) #[true, true, true, true, true, true, true, true, true, false, false, false, false, false, false, false, false, false] rfl rfl (by kernel_rfl) (fun _ _ _ h => h) (Or.inl ⟨by rfl, ?_⟩) hHeld ?_ ?_
  rotate_left
  · rintro w' ⟨s0, s1, s2, s3⟩
    go_simp
    with_reducible rfl
  rotate_left
  · simp only [Act.put, List.setIfInBounds_toArray, List.set_cons_zero, List.set_cons_succ]
    rfl
  refine pure_ (i := 9) (N := some 14) (v := ?_) (a' := ?_) #[true, true, true, true, true, true, true, true, true, true, false, false, false, false, false, false, false, false] rfl rfl (by kernel_rfl) (fun _ _ _ h => h) (Or.inl ⟨by rfl, ?_⟩) ?_ ?_
  rotate_left
  · intro w'
    go_simp
    with_reducible rfl
  rotate_left
  · simp only [Act.put, List.setIfInBounds_toArray, List.set_cons_zero, List.set_cons_succ]
    rfl
  refine pure_ (i := 10) (N := some 15) (v := ?_) (a' := ?_) #[true, true, true, true, true, true, true, true, true, true, true, false, false, false, false, false, false, false] rfl rfl (by kernel_rfl) (fun _ _ _ h => h) (Or.inl ⟨by rfl, ?_⟩) ?_ ?_
  rotate_left
  · intro w'
    go_simp
    with_reducible rfl
  rotate_left
  · simp only [Act.put, List.setIfInBounds_toArray, List.set_cons_zero, List.set_cons_succ]
    rfl
  refine take_ (i := 11) (N := some 16) (v := ?_) (a' := ?_) #[true, true, true, true, true, true, true, true, true, true, true, true, false, false, false, false, false, false] rfl rfl (by kernel_rfl) (fun _ _ _ h => h) (Or.inl ⟨by rfl, ?_⟩) hHeld ?_ ?_
  rotate_left
  · rintro w' ⟨s0, s1, s2, s3⟩
    go_simp
    with_reducible rfl
  rotate_left
  · simp only [Act.put, List.setIfInBounds_toArray, List.set_cons_zero, List.set_cons_succ]
    rfl
  refine take_ (i := 12) (N := some 17) (v := ?_) (a' := ?_) #[true, true, true, true, true, true, true, true, true, true, true, true, true, false, false, false, false, false] rfl rfl (by kernel_rfl) (fun _ _ _ h => h) (Or.inl ⟨by rfl, ?_⟩) hHeld ?_ ?_
  rotate_left
  · rintro w' ⟨s0, s1, s2, s3⟩
    go_simp
    with_reducible rfl
  rotate_left
  · simp only [Act.put, List.setIfInBounds_toArray, List.set_cons_zero, List.set_cons_succ]
    rfl
  refine one_ (i := 13) (N := some 18) #[true, true, true, true, true, true, true, true, true, true, true, true, true, true, false, false, false, false] rfl rfl (by kernel_rfl) (by decide) (fun K hK => ?_)
  refine goes_ Tryz.func21 (by kernel_rfl) rfl #[.agg #[.int .u32 (un c.1), .int .u32 (un c.2)], .agg #[.int .u32 (un d.1), .int .u32 (un d.2)]] (by rfl) rfl rfl (by (try simp only [List.map_toArray, List.map_cons, List.map_nil]); first | done | rfl) ?_
  with_reducible refine (S.meet c d _).mono ?_
  rintro e W2 ⟨rfl, hb⟩
  refine ⟨_, rfl, ?_⟩
  have hHeld_ := hHeld
  have HA2 := HA1.below hb
  have HI2 := HI1.below hb
  have HR2 : W2.heap[b1]? = some (.cells #[.int .u32 0, .int .u32 0] 25 (0, 0)) := (hb.block _ (Array.getElem?_eq_some_iff.1 HR1).1).trans HR1
  have HB2 := below_then HB1 HB1.size hb
  refine hK.out _ _ ⟨HA2.1, HA2.2, HI2.1, HI2.2⟩ (fun hHeld => ?_)
  clear hK K hHeld_
  refine norm_ (a' := ?_) ?_ ?_
  rotate_left
  · show Act.put _ (some 18) _ = _
    simp only [Act.put, List.setIfInBounds_toArray, List.set_cons_zero, List.set_cons_succ]
    rfl
  refine one_ (i := 14) (N := some 19) #[true, true, true, true, true, true, true, true, true, true, true, true, true, true, true, false, false, false] rfl rfl (by kernel_rfl) (by decide) (fun K hK => ?_)
  refine goes_ Tryz.func20 (by kernel_rfl) rfl #[.agg #[.int .u32 (un (H.meet c d).1), .int .u32 (un (H.meet c d).2)]] (by rfl) rfl rfl (by (try simp only [List.map_toArray, List.map_cons, List.map_nil]); first | done | rfl) ?_
  with_reducible refine (S.clash (H.meet c d) _).mono ?_
  rintro e W3 ⟨rfl, hb⟩
  refine ⟨_, rfl, ?_⟩
  have hHeld_ := hHeld
  have HA3 := HA2.below hb
  have HI3 := HI2.below hb
  have HR3 : W3.heap[b1]? = some (.cells #[.int .u32 0, .int .u32 0] 25 (0, 0)) := (hb.block _ (Array.getElem?_eq_some_iff.1 HR2).1).trans HR2
  have HB3 := below_then HB2 HB2.size hb
  refine hK.out _ _ ⟨HA3.1, HA3.2, HI3.1, HI3.2⟩ (fun hHeld => ?_)
  clear hK K hHeld_
  refine norm_ (a' := ?_) ?_ ?_
  rotate_left
  · show Act.put _ (some 19) _ = _
    simp only [Act.put, List.setIfInBounds_toArray, List.set_cons_zero, List.set_cons_succ]
    rfl
  refine pure_ (i := 15) (N := some 20) (v := ?_) (a' := ?_) #[true, true, true, true, true, true, true, true, true, true, true, true, true, true, true, true, false, false] rfl rfl (by kernel_rfl) (fun _ _ _ h => h) (Or.inl ⟨by rfl, ?_⟩) ?_ ?_
  rotate_left
  · intro w'
    go_simp
    with_reducible rfl
  rotate_left
  · simp only [Act.put, List.setIfInBounds_toArray, List.set_cons_zero, List.set_cons_succ]
    rfl
  refine one_ (i := 16) (N := none) #[true, true, true, true, true, true, true, true, true, true, true, true, true, true, true, true, true, false] rfl rfl (by kernel_rfl) (by decide) (fun K hK => ?_)
  have hs0 : W3.cell? ⟨b1, 0, none⟩ = some (.int .u32 0) := (blk_cell HR3 0).trans rfl
  have hf0 := blk_frozen HR3 0
  have hs1 : W3.cell? ⟨b1, 1, none⟩ = some (.int .u32 0) := (blk_cell HR3 1).trans rfl
  have hf1 := blk_frozen HR3 1
  refine skip_ (w1 := ?_) (by rfl) rfl ?_ ?_
  rotate_left
  · go_simp
    rfl
  have hHeld_ := hHeld
  refine hK.out _ _ ⟨(cell_far (p := ⟨b1, _, none⟩) hne0 _).trans ((cell_far (p := ⟨b1, _, none⟩) hne0 _).trans hHeld.1), (cell_far (p := ⟨b1, _, none⟩) hne0 _).trans ((cell_far (p := ⟨b1, _, none⟩) hne0 _).trans hHeld.2.1), (cell_far (p := ⟨b1, _, none⟩) hnei _).trans ((cell_far (p := ⟨b1, _, none⟩) hnei _).trans hHeld.2.2.1), (cell_far (p := ⟨b1, _, none⟩) hnei _).trans ((cell_far (p := ⟨b1, _, none⟩) hnei _).trans hHeld.2.2.2)⟩ (fun hHeld => ?_)
  clear hK K hHeld_
  refine pure_ (i := 17) (N := some 4) (v := ?_) (a' := ?_) #[true, true, true, true, true, true, true, true, true, true, true, true, true, true, true, true, true, true] rfl rfl (by kernel_rfl) (fun _ _ _ h => h) (Or.inl ⟨by rfl, ?_⟩) ?_ ?_
  rotate_left
  · intro w'
    go_simp
    with_reducible rfl
  rotate_left
  · simp only [Act.put, List.setIfInBounds_toArray, List.set_cons_zero, List.set_cons_succ]
    rfl
  refine done_ (by kernel_rfl) ?_
  try go_wp2
  refine bodyPost_ret (results_ct rfl _ _ b1 25 #[.int .u32 (bits .andNot .u32 (un d.1) (un c.1)), .int .u32 (bits .andNot .u32 (un d.2) (un c.2))] (0, 0) _ rfl (by refine blk_put (cs := #[.int .u32 (bits .andNot .u32 (un d.1) (un c.1)), .int .u32 0]) ?_ 1 _ rfl; refine blk_put (cs := #[.int .u32 0, .int .u32 0]) ?_ 0 _ rfl; exact HR3) Tryz.underlying25 rfl (by kernel_rfl)) rfl ?_
  exact ⟨by first | rfl | (simp <;> rfl), below_set (below_set HB3 hge) hge⟩
end Go.Proofs.YtfbcgjkagdbckaaGreatDoor
/-! Walks: face.Of, face.Restrict, face.All, face.Holds. -/
namespace Go.Proofs.YtfbcgjkagdbckaaGreatDoor
open Go.RowKit H

structure SmallG : Prop extends SmallF where
  calm : ∀ (c : C) (w : World), Calls Tryz.prog 43 #[.agg #[.int .u32 (un c.1), .int .u32 (un c.2)]] w fun e w' => e = .returned (.tuple #[.agg #[.int .u32 (un c.1), .int .u32 (un c.2)], .bool (!H.clash c)]) ∧ Below w.heap.size w w'
  single : ∀ (c : C) (w : World), Calls Tryz.prog 16 #[.agg #[.int .u32 (un c.1), .int .u32 (un c.2)]] w fun e w' => e = .returned (.bool (H.ok c && !H.clash c)) ∧ Below w.heap.size w w'
def calmP (c : C) : C × Bool := (c, !H.clash c)
def ofF (l : List C) : List C × Int := if H.right l = true then H.least (keepC calmP l) else ([], 2)
set_option maxRecDepth 100000 in
set_option maxHeartbeats 2000000 in
theorem face_Of (S : SmallG) (A : Option Addr) (cap : Nat) (l : List C) (w : World) (hR : Rd w A l) (hcp : l.length ≤ cap) (hl : l.length ≤ 1000000) :
    Calls Tryz.prog 14 #[.slice A l.length cap] w fun e w' => ∃ v, e = .returned (.tuple #[v, .int .i64 (ofF l).2]) ∧ Own w' w.heap.size v (ofF l).1 ∧ Below w.heap.size w w' := by
  have h1 := S.fright A cap l w hR hcp hl
  have eg : ∀ args w, (callFunc 43 args).run Tryz.prog w = .ok (.enter 43 args) w := enters_of Tryz.func43 (by kernel_rfl) rfl
  have h2 : ∀ w1, Below w.heap.size w w1 → Calls Tryz.prog 18 #[.slice A l.length cap, .func (.func 43) #[] #[]] w1 fun e w' => ∃ v, e = .returned v ∧ Own w' w1.heap.size v (keepC calmP l) ∧ Below w1.heap.size w1 w' :=
    fun w1 hb => keep_plain 43 calmP cap A l w1 (hR.below hb) hl eg fun d w2 _ => S.calm d w2
  have h3 : ∀ A1 c1 w1, Rd w1 A1 (keepC calmP l) → Calls Tryz.prog 17 #[.slice A1 (keepC calmP l).length c1] w1 fun e w' => ∃ v, e = .returned (.tuple #[v, .int .i64 (least (keepC calmP l)).2]) ∧ Own w' w1.heap.size v (least (keepC calmP l)).1 ∧ Below w1.heap.size w1 w' :=
    fun A1 c1 w1 h => clause_Least S.toSmall A1 c1 _ w1 h (Nat.le_trans (keepC_length _ _) hl)
  clear eg
  unfold ofF
  cases h : H.right l
  · rw [h] at h1
    rw [if_neg Bool.false_ne_true]
    clear h2 h3
    go_enter Tryz.func14, Tryz.ntmps14
    go_wp2_with (go_at_call 32; refine h1.mono ?_; rintro e w2 ⟨rfl, hb2⟩)
    go_ret2
    exact ⟨_, rfl, Own.nil _ _, hb2⟩
  · rw [h] at h1
    rw [if_pos rfl]
    generalize least (keepC calmP l) = L at *
    generalize keepC calmP l = K at *
    go_enter Tryz.func14, Tryz.ntmps14
    go_wp2_with (first
      | (go_at_call 32; refine h1.mono ?_; rintro e w2 ⟨rfl, hb2⟩)
      | (go_at_call 18; refine (h2 _ hb2).mono ?_; rintro e w3 ⟨v, rfl, ho, hb3⟩; obtain ⟨A1, c1, rfl, hR1⟩ := ho.slice; have hb23 := below_then hb2 hb2.size hb3)
      | (go_at_call 17; refine (h3 _ _ _ hR1).mono ?_; rintro e w4 ⟨v4, rfl, ho4, hb4⟩))
    go_ret2
    exact ⟨_, rfl, ho4.mono hb23.size, below_then hb23 hb23.size hb4⟩
end Go.Proofs.YtfbcgjkagdbckaaGreatDoor
/-! Walks: face.Restrict. -/
namespace Go.Proofs.YtfbcgjkagdbckaaGreatDoor
open Go.RowKit H

def restrP (c d : C) : C × Bool := ((d.1 &&& ~~~c.1, d.2 &&& ~~~c.2), !H.clash (H.meet c d))
def restrF (l : List C) (c : C) : List C × Int := if faceR l = true ∧ (H.ok c && !H.clash c) = true then H.least (keepC (restrP c) l) else ([], 2)
set_option maxRecDepth 100000 in
set_option maxHeartbeats 2000000 in
theorem face_Restrict (S : SmallG) (A : Option Addr) (cap : Nat) (l : List C) (c : C) (w : World) (hR : Rd w A l) (hcp : l.length ≤ cap) (hl : l.length ≤ 1000000) :
    Calls Tryz.prog 6 #[.slice A l.length cap, .agg #[.int .u32 (un c.1), .int .u32 (un c.2)]] w fun e w' => ∃ v, e = .returned (.tuple #[v, .int .i64 (restrF l c).2]) ∧ Own w' w.heap.size v (restrF l c).1 ∧ Below w.heap.size w w' := by
  have hb0 : Below w.heap.size w (w.alloc (.cells #[.int .u32 (un c.1), .int .u32 (un c.2)] 25)) := (Below.refl _ _).alloc (Nat.le_refl _) _
  have hA : At2 (w.alloc (.cells #[.int .u32 (un c.1), .int .u32 (un c.2)] 25)) w.heap.size c := ⟨World.cell?_alloc_new .., World.cell?_alloc_new ..⟩
  have h0 := hA.1
  have h0' := hA.2
  have h1 := face_Right S.toSmallF A cap l _ (hR.below hb0) hcp hl
  have h2 := S.single c
  have eg : ∀ args w, (callFunc 19 args).run Tryz.prog w = .ok (.enter 19 args) w := enters_of Tryz.func19 (by kernel_rfl) rfl
  have h3 : ∀ w1, At2 w1 w.heap.size c → Below w.heap.size w w1 → Calls Tryz.prog 18 #[.slice A l.length cap, .func (.func 19) #[] #[.pointer (some ⟨w.heap.size, 0, none⟩)]] w1 fun e w' => ∃ v, e = .returned v ∧ Own w' w1.heap.size v (keepC (restrP c) l) ∧ Below w1.heap.size w1 w' :=
    fun w1 hA1 hb => keep_bound 19 (.pointer (some ⟨w.heap.size, 0, none⟩)) (restrP c) cap A l w1 (hR.below hb) hl eg fun d w2 hb2 => by
      have h := restrict_pred S.toSmallF c d w.heap.size w2 (hA1.below hb2)
      rw [un_andNot, un_andNot] at h
      exact h
  have h4 : ∀ A1 c1 w1, Rd w1 A1 (keepC (restrP c) l) → Calls Tryz.prog 17 #[.slice A1 (keepC (restrP c) l).length c1] w1 fun e w' => ∃ v, e = .returned (.tuple #[v, .int .i64 (least (keepC (restrP c) l)).2]) ∧ Own w' w1.heap.size v (least (keepC (restrP c) l)).1 ∧ Below w1.heap.size w1 w' :=
    fun A1 c1 w1 h => clause_Least S.toSmall A1 c1 _ w1 h (Nat.le_trans (keepC_length _ _) hl)
  have HB0 := Lib.hid hb0
  clear hb0 hA eg
  unfold restrF
  cases hf : faceR l
  · rw [hf] at h1
    rw [if_neg (by simp)]
    clear h2 h3 h4
    go_enter Tryz.func6, Tryz.ntmps6
    go_wp2_with (go_at_call 15; refine h1.mono ?_; rintro e w2 ⟨rfl, hb2⟩)
    go_ret2
    exact ⟨_, rfl, Own.nil _ _, below_then HB0 (by simp) hb2⟩
  · rw [hf] at h1
    cases hs : (H.ok c && !H.clash c)
    · rw [hs] at h2
      rw [if_neg (by simp)]
      clear h3 h4
      go_enter Tryz.func6, Tryz.ntmps6
      go_wp2_with (first
        | (go_at_call 15; refine h1.mono ?_; rintro e w2 ⟨rfl, hb2⟩; have hc2 := (At2.below ⟨h0, h0'⟩ hb2); have h4 := hc2.1; have h5 := hc2.2)
        | (go_at_call 16; refine (h2 _).mono ?_; rintro e w3 ⟨rfl, hb3⟩))
      go_ret2
      exact ⟨_, rfl, Own.nil _ _, below_then HB0 (by simp) (below_then hb2 hb2.size hb3)⟩
    · rw [hs] at h2
      rw [if_pos ⟨rfl, rfl⟩]
      generalize least (keepC (restrP c) l) = L at *
      generalize keepC (restrP c) l = K at *
      go_enter Tryz.func6, Tryz.ntmps6
      go_wp2_with (first
        | (go_at_call 15; refine h1.mono ?_; rintro e w2 ⟨rfl, hb2⟩; have hc2 := (At2.below ⟨h0, h0'⟩ hb2); have h6 := hc2.1; have h7 := hc2.2)
        | (go_at_call 16; refine (h2 _).mono ?_; rintro e w3 ⟨rfl, hb3⟩; have hc3 := (At2.below hc2 hb3); have hb23 := below_then HB0 (by simp) (below_then hb2 hb2.size hb3))
        | (go_at_call 18; refine (h3 _ hc3 hb23).mono ?_; rintro e w4 ⟨v, rfl, ho, hb4⟩; obtain ⟨A1, c1, rfl, hR1⟩ := ho.slice; have hb24 := below_then hb23 hb23.size hb4)
        | (go_at_call 17; refine (h4 _ _ _ hR1).mono ?_; rintro e w5 ⟨v5, rfl, ho5, hb5⟩))
      go_ret2
      exact ⟨_, rfl, ho5.mono hb24.size, below_then hb24 hb24.size hb5⟩
end Go.Proofs.YtfbcgjkagdbckaaGreatDoor
/-! Walks: face.All. -/
namespace Go.Proofs.YtfbcgjkagdbckaaGreatDoor
open Go.RowKit H

structure SmallA : Prop extends SmallG where
  dim : ∀ (i : Int) (w : World), Calls Tryz.prog 28 #[.int .i64 i] w fun e w' => e = .returned (.bool (dimI i)) ∧ Below w.heap.size w w'
  has : ∀ (c : C) (i : Int) (w : World), dimI i = true → Calls Tryz.prog 30 #[.int .u32 (bits .or .u32 (un c.1) (un c.2)), .int .i64 i] w fun e w' => e = .returned (.bool (hasI (c.1 ||| c.2) i)) ∧ Below w.heap.size w w'
def allP (i : Int) (c : C) : C × Bool := (c, !hasI (c.1 ||| c.2) i)
def allF (l : List C) (i : Int) : List C × Int := if faceR l = true ∧ dimI i = true then H.least (keepC (allP i) l) else ([], 2)
set_option maxRecDepth 100000 in
set_option maxHeartbeats 2000000 in
theorem face_All (S : SmallA) (A : Option Addr) (cap : Nat) (l : List C) (i : Int) (w : World) (hR : Rd w A l) (hcp : l.length ≤ cap) (hl : l.length ≤ 1000000) :
    Calls Tryz.prog 8 #[.slice A l.length cap, .int .i64 i] w fun e w' => ∃ v, e = .returned (.tuple #[v, .int .i64 (allF l i).2]) ∧ Own w' w.heap.size v (allF l i).1 ∧ Below w.heap.size w w' := by
  have hb0 : Below w.heap.size w (w.alloc (.cells #[.int .i64 i] 3)) := (Below.refl _ _).alloc (Nat.le_refl _) _
  have hA : Boxed (w.alloc (.cells #[.int .i64 i] 3)) w.heap.size 3 (.int .i64 i) := World.alloc_heap_new ..
  have h0 : (w.alloc (.cells #[.int .i64 i] 3)).cell? ⟨w.heap.size, 0, none⟩ = some (.int .i64 i) := World.cell?_alloc_new ..
  have hin : ∀ {w1 w2 : World}, Boxed w1 w.heap.size 3 (.int .i64 i) → Below w1.heap.size w1 w2 → Boxed w2 w.heap.size 3 (.int .i64 i) := fun h hb => (hb.block _ h.lt).trans h
  have hcell : ∀ {w1 : World}, Boxed w1 w.heap.size 3 (.int .i64 i) → w1.cell? ⟨w.heap.size, 0, none⟩ = some (.int .i64 i) := fun h => by
    unfold Boxed at h
    simp [World.cell?, h]
  have h1 := face_Right S.toSmallF A cap l _ (hR.below hb0) hcp hl
  have h2 := S.dim i
  have eg : ∀ args w, (callFunc 29 args).run Tryz.prog w = .ok (.enter 29 args) w := enters_of Tryz.func29 (by kernel_rfl) rfl
  have h3 : ∀ w1, dimI i = true → Boxed w1 w.heap.size 3 (.int .i64 i) → Below w.heap.size w w1 → Calls Tryz.prog 18 #[.slice A l.length cap, .func (.func 29) #[] #[.pointer (some ⟨w.heap.size, 0, none⟩)]] w1 fun e w' => ∃ v, e = .returned v ∧ Own w' w1.heap.size v (keepC (allP i) l) ∧ Below w1.heap.size w1 w' :=
    fun w1 hd hA1 hb => keep_bound 29 (.pointer (some ⟨w.heap.size, 0, none⟩)) (allP i) cap A l w1 (hR.below hb) hl eg fun d w2 hb2 =>
      all_pred d i (hasI (d.1 ||| d.2) i) w.heap.size w2 (hin hA1 hb2) fun w3 => S.has d i w3 hd
  have h4 : ∀ A1 c1 w1, Rd w1 A1 (keepC (allP i) l) → Calls Tryz.prog 17 #[.slice A1 (keepC (allP i) l).length c1] w1 fun e w' => ∃ v, e = .returned (.tuple #[v, .int .i64 (least (keepC (allP i) l)).2]) ∧ Own w' w1.heap.size v (least (keepC (allP i) l)).1 ∧ Below w1.heap.size w1 w' :=
    fun A1 c1 w1 h => clause_Least S.toSmall A1 c1 _ w1 h (Nat.le_trans (keepC_length _ _) hl)
  have HB0 := Lib.hid hb0
  have HA := Lib.hid hA
  clear hb0 eg hA
  unfold allF
  cases hf : faceR l
  · rw [hf] at h1
    rw [if_neg (by simp)]
    clear h2 h3 h4
    go_enter Tryz.func8, Tryz.ntmps8
    go_wp2_with (go_at_call 15; refine h1.mono ?_; rintro e w2 ⟨rfl, hb2⟩)
    go_ret2
    exact ⟨_, rfl, Own.nil _ _, below_then HB0 (by simp) hb2⟩
  · rw [hf] at h1
    cases hs : dimI i
    · rw [hs] at h2
      rw [if_neg (by simp)]
      clear h3 h4
      go_enter Tryz.func8, Tryz.ntmps8
      go_wp2_with (first
        | (go_at_call 15; refine h1.mono ?_; rintro e w2 ⟨rfl, hb2⟩; have hc2 := hcell (hin HA hb2))
        | (go_at_call 28; refine (h2 _).mono ?_; rintro e w3 ⟨rfl, hb3⟩))
      go_ret2
      exact ⟨_, rfl, Own.nil _ _, below_then HB0 (by simp) (below_then hb2 hb2.size hb3)⟩
    · rw [hs] at h2
      rw [if_pos ⟨rfl, rfl⟩]
      have h3' := fun w1 => h3 w1 hs
      clear h3
      generalize least (keepC (allP i) l) = L at *
      generalize keepC (allP i) l = K at *
      go_enter Tryz.func8, Tryz.ntmps8
      go_wp2_with (first
        | (go_at_call 15; refine h1.mono ?_; rintro e w2 ⟨rfl, hb2⟩; have hA2 := Lib.hid (hin HA hb2); have hc2 := hcell hA2)
        | (go_at_call 28; refine (h2 _).mono ?_; rintro e w3 ⟨rfl, hb3⟩; have hA3 := Lib.hid (hin hA2 hb3); have hb23 := below_then HB0 (by simp) (below_then hb2 hb2.size hb3))
        | (go_at_call 18; refine (h3' _ hA3 hb23).mono ?_; rintro e w4 ⟨v, rfl, ho, hb4⟩; obtain ⟨A1, c1, rfl, hR1⟩ := ho.slice; have hb24 := below_then hb23 hb23.size hb4)
        | (go_at_call 17; refine (h4 _ _ _ hR1).mono ?_; rintro e w5 ⟨v5, rfl, ho5, hb5⟩))
      go_ret2
      exact ⟨_, rfl, ho5.mono hb24.size, below_then hb24 hb24.size hb5⟩
end Go.Proofs.YtfbcgjkagdbckaaGreatDoor
/-! Walk: mask.Has, at a dimension. -/
namespace Go.Proofs.YtfbcgjkagdbckaaGreatDoor
open Go.RowKit H
set_option maxRecDepth 100000 in
set_option maxHeartbeats 2000000 in
theorem mask_Has_hand (hdim : ∀ (i : Int) (w : World), Calls Tryz.prog 58 #[.int .i64 i] w fun e w' => e = .returned (.bool (dimI i)) ∧ Below w.heap.size w w') (x : UInt32) (i : Int) (hi : dimI i = true) (w : World) :
    Calls Tryz.prog 30 #[.int .u32 (un x), .int .i64 i] w fun e w' => e = .returned (.bool (hasI x i)) ∧ Below w.heap.size w w' := by
  have h1 := hdim i
  rw [hi] at h1
  have hr := of_decide_eq_true hi
  have hw : IntKind.u64.wrap i = i := by rw [IntKind.wrap_u64]; omega
  go_enter Tryz.func30, Tryz.ntmps30
  go_wp2_with (go_at_call 58; refine (h1 _).mono ?_; rintro e w2 ⟨rfl, hb2⟩)
  go_ret
  refine ⟨?_, hb2⟩
  unfold hasI
  rw [hi, Bool.true_and]
  have hlt : x.toNat / 2 ^ i.toNat < 4294967296 := Nat.lt_of_le_of_lt (Nat.div_le_self _ _) x.toNat_lt
  have hx : un x / 2 ^ i.toNat = un (UInt32.ofNat (x.toNat / 2 ^ i.toNat)) := by
    unfold un
    rw [UInt32.toNat_ofNat', Nat.mod_eq_of_lt hlt]
    simp
  have hb : (bits .and .u32 (un x / 2 ^ i.toNat) 1 == 1) = x.toNat.testBit i.toNat := by
    have e1 : (1 : Int) = un 1 := rfl
    rw [hx, e1, un_and, un_beq, Nat.testBit_eq_decide_div_mod_eq, Bool.eq_iff_iff]
    simp only [decide_eq_true_eq]
    rw [← UInt32.toNat_inj, UInt32.toNat_and, UInt32.toNat_ofNat', Nat.mod_eq_of_lt hlt]
    show _ &&& 1 = 1 ↔ _
    rw [Nat.and_one_is_mod]
  rw [← hb]
  rfl
end Go.Proofs.YtfbcgjkagdbckaaGreatDoor
