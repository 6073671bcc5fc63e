/-
Walk: the inner function of face.Restrict (written by wip/mkdrawn.py).
-/
import Derived.RangeFuncBox
import Derived.Test.YtahbmjpgnfgklaaFace
import Derived.Test.YtahbmjpgnfgklaaWMore
import Derived.Test.YtahbmjpgnfgklaaWLast
import Derived.Test.YtahbmjpgnfgklaaWKept
namespace Go.Proofs.Ytahbmjpgnfgklaa
open Go.RowKit H
open Go.Proofs.YtahbmjpgnfgklaaW.PrintWords Go.Proofs.YtahbmjpgnfgklaaW.PrintLast Go.Proofs.YtahbmjpgnfgklaaW.PrintMore

set_option maxHeartbeats 8000000 in
set_option maxRecDepth 100000 in
theorem restrict_pred (S : SmallF) (c d : C) (bc : Nat) (w : World) (hI : At2 w bc c)
    :
    Calls Try.prog 57 #[.agg #[.int .u32 (un d.1), .int .u32 (un d.2)], .pointer (some ⟨bc, 0, none⟩)] w fun e w' => e = .returned (.tuple #[.agg #[.int .u32 (bits .andNot .u32 (un d.1) (un c.1)), .int .u32 (bits .andNot .u32 (un d.2) (un c.2))], .bool (!H.clash (H.meet c d))]) ∧ Below w.heap.size w w' := by
  have hlti := hI.lt
  have hB1 : Below w.heap.size w (w.alloc (.cells #[.int .u32 (un d.1), .int .u32 (un d.2)] 24)) := (Below.refl _ _).alloc (Nat.le_refl _) _
  have HB0 := hB1.alloc (by simp) (.cells #[.int .u32 0, .int .u32 0] 24)
  have hA1 : At2 (w.alloc (.cells #[.int .u32 (un d.1), .int .u32 (un d.2)] 24)) w.heap.size d := ⟨World.cell?_alloc_new .., World.cell?_alloc_new ..⟩
  have HA0 := hA1.below ((Below.refl _ _).alloc (Nat.le_refl _) (.cells #[.int .u32 0, .int .u32 0] 24))
  have HI0 : At2 ((w.alloc (.cells #[.int .u32 (un d.1), .int .u32 (un d.2)] 24)).alloc (.cells #[.int .u32 0, .int .u32 0] 24)) bc c := hI.below HB0
  have HR0 : ((w.alloc (.cells #[.int .u32 (un d.1), .int .u32 (un d.2)] 24)).alloc (.cells #[.int .u32 0, .int .u32 0] 24)).heap[w.heap.size + 1]? = some (.cells #[.int .u32 0, .int .u32 0] 24 (0, 0)) := by
    have := World.alloc_heap_new (w.alloc (.cells #[.int .u32 (un d.1), .int .u32 (un d.2)] 24)) (.cells #[.int .u32 0, .int .u32 0] 24)
    rw [World.size_alloc] at this
    exact this
  go_enter Try.func57, Try.ntmps57
  go_wp2
  have hne0 : w.heap.size ≠ w.heap.size + 1 := by omega
  have hnei : bc ≠ w.heap.size + 1 := by omega
  have hge : w.heap.size ≤ w.heap.size + 1 := by omega
  generalize hW0 : (w.alloc (.cells #[.int .u32 (un d.1), .int .u32 (un d.2)] 24)).alloc (.cells #[.int .u32 0, .int .u32 0] 24) = W0 at *
  generalize hb1 : w.heap.size + 1 = b1 at *
  have HA1 : At2 W0.drew w.heap.size d := HA0
  have HI1 : At2 W0.drew bc c := HI0
  have HR1 : W0.drew.heap[b1]? = some (.cells #[.int .u32 0, .int .u32 0] 24 (0, 0)) := HR0
  have HBd : Below w.heap.size w W0.drew := HB0.trans ⟨rfl, rfl, rfl, Nat.le_refl _, fun _ _ => rfl⟩
  refine start_ (n := 18) (S := fun w' => w'.cell? ⟨w.heap.size, 0, none⟩ = some (.int .u32 (un d.1)) ∧ w'.cell? ⟨w.heap.size, 1, none⟩ = some (.int .u32 (un d.2)) ∧ w'.cell? ⟨bc, 0, none⟩ = some (.int .u32 (un c.1)) ∧ w'.cell? ⟨bc, 1, none⟩ = some (.int .u32 (un c.2))) (ds := []) #[false, false, false, false, false, false, false, false, false, false, false, false, false, false, false, false, false, false] (by kernel_rfl) rfl rfl ⟨HA0.1, HA0.2, HI0.1, HI0.2⟩ (fun hHeld => ?_)
  have HB1 := HBd
  clear HBd
  generalize W0.drew = W1 at *
  refine pure_ (i := 0) (N := some 5) (v := ?_) (a' := ?_) #[true, false, false, false, false, false, false, false, false, false, false, false, false, false, false, false, false, false] rfl rfl (by kernel_rfl) (fun _ _ _ h => h) (Or.inl ⟨by rfl, ?_⟩) ?_ ?_
  rotate_left
  · intro w'
    go_simp
    with_reducible rfl
  rotate_left
  · simp only [Act.put, List.setIfInBounds_toArray, List.set_cons_zero, List.set_cons_succ]
    rfl
  refine take_ (i := 1) (N := some 6) (v := ?_) (a' := ?_) #[true, true, false, false, false, false, false, false, false, false, false, false, false, false, false, false, false, false] rfl rfl (by kernel_rfl) (fun _ _ _ h => h) (Or.inl ⟨by rfl, ?_⟩) hHeld ?_ ?_
  rotate_left
  · rintro w' ⟨s0, s1, s2, s3⟩
    go_simp
    with_reducible rfl
  rotate_left
  · simp only [Act.put, List.setIfInBounds_toArray, List.set_cons_zero, List.set_cons_succ]
    rfl
  refine pure_ (i := 2) (N := some 7) (v := ?_) (a' := ?_) #[true, true, true, false, false, false, false, false, false, false, false, false, false, false, false, false, false, false] rfl rfl (by kernel_rfl) (fun _ _ _ h => h) (Or.inl ⟨by rfl, ?_⟩) ?_ ?_
  rotate_left
  · intro w'
    go_simp
    with_reducible rfl
  rotate_left
  · simp only [Act.put, List.setIfInBounds_toArray, List.set_cons_zero, List.set_cons_succ]
    rfl
  refine take_ (i := 3) (N := some 8) (v := ?_) (a' := ?_) #[true, true, true, true, false, false, false, false, false, false, false, false, false, false, false, false, false, false] rfl rfl (by kernel_rfl) (fun _ _ _ h => h) (Or.inl ⟨by rfl, ?_⟩) hHeld ?_ ?_
  rotate_left
  · rintro w' ⟨s0, s1, s2, s3⟩
    go_simp
    with_reducible rfl
  rotate_left
  · simp only [Act.put, List.setIfInBounds_toArray, List.set_cons_zero, List.set_cons_succ]
    rfl
  refine pure_ (i := 4) (N := some 9) (v := ?_) (a' := ?_) #[true, true, true, true, true, false, false, false, false, false, false, false, false, false, false, false, false, false] rfl rfl (by kernel_rfl) (fun _ _ _ h => h) (Or.inl ⟨by rfl, ?_⟩) ?_ ?_
  rotate_left
  · intro w'
    go_simp
    with_reducible rfl
  rotate_left
  · simp only [Act.put, List.setIfInBounds_toArray, List.set_cons_zero, List.set_cons_succ]
    rfl
  refine pure_ (i := 5) (N := some 10) (v := ?_) (a' := ?_) #[true, true, true, true, true, true, false, false, false, false, false, false, false, false, false, false, false, false] rfl rfl (by kernel_rfl) (fun _ _ _ h => h) (Or.inl ⟨by rfl, ?_⟩) ?_ ?_
  rotate_left
  · intro w'
    go_simp
    with_reducible rfl
  rotate_left
  · simp only [Act.put, List.setIfInBounds_toArray, List.set_cons_zero, List.set_cons_succ]
    rfl
  refine take_ (i := 6) (N := some 11) (v := ?_) (a' := ?_) #[true, true, true, true, true, true, true, false, false, false, false, false, false, false, false, false, false, false] rfl rfl (by kernel_rfl) (fun _ _ _ h => h) (Or.inl ⟨by rfl, ?_⟩) hHeld ?_ ?_
  rotate_left
  · rintro w' ⟨s0, s1, s2, s3⟩
    go_simp
    with_reducible rfl
  rotate_left
  · simp only [Act.put, List.setIfInBounds_toArray, List.set_cons_zero, List.set_cons_succ]
    rfl
  refine pure_ (i := 7) (N := some 12) (v := ?_) (a' := ?_) #[true, true, true, true, true, true, true, true, false, false, false, false, false, false, false, false, false, false] rfl rfl (by kernel_rfl) (fun _ _ _ h => h) (Or.inl ⟨by rfl, ?_⟩) ?_ ?_
  rotate_left
  · intro w'
    go_simp
    with_reducible rfl
  rotate_left
  · simp only [Act.put, List.setIfInBounds_toArray, List.set_cons_zero, List.set_cons_succ]
    rfl
  refine take_ (i := 8) (N := some 13) (v := ?_) (a' := ?_) #[true, true, true, true, true, true, true, true, true, false, false, false, false, false, false, false, false, false] rfl rfl (by kernel_rfl) (fun _ _ _ h => h) (Or.inl ⟨by rfl, ?_⟩) hHeld ?_ ?_
  rotate_left
  · rintro w' ⟨s0, s1, s2, s3⟩
    go_simp
    with_reducible rfl
  rotate_left
  · simp only [Act.put, List.setIfInBounds_toArray, List.set_cons_zero, List.set_cons_succ]
    rfl
  refine pure_ (i := 9) (N := some 14) (v := ?_) (a' := ?_) #[true, true, true, true, true, true, true, true, true, true, false, false, false, false, false, false, false, false] rfl rfl (by kernel_rfl) (fun _ _ _ h => h) (Or.inl ⟨by rfl, ?_⟩) ?_ ?_
  rotate_left
  · intro w'
    go_simp
    with_reducible rfl
  rotate_left
  · simp only [Act.put, List.setIfInBounds_toArray, List.set_cons_zero, List.set_cons_succ]
    rfl
  refine pure_ (i := 10) (N := some 15) (v := ?_) (a' := ?_) #[true, true, true, true, true, true, true, true, true, true, true, false, false, false, false, false, false, false] rfl rfl (by kernel_rfl) (fun _ _ _ h => h) (Or.inl ⟨by rfl, ?_⟩) ?_ ?_
  rotate_left
  · intro w'
    go_simp
    with_reducible rfl
  rotate_left
  · simp only [Act.put, List.setIfInBounds_toArray, List.set_cons_zero, List.set_cons_succ]
    rfl
  refine take_ (i := 11) (N := some 16) (v := ?_) (a' := ?_) #[true, true, true, true, true, true, true, true, true, true, true, true, false, false, false, false, false, false] rfl rfl (by kernel_rfl) (fun _ _ _ h => h) (Or.inl ⟨by rfl, ?_⟩) hHeld ?_ ?_
  rotate_left
  · rintro w' ⟨s0, s1, s2, s3⟩
    go_simp
    with_reducible rfl
  rotate_left
  · simp only [Act.put, List.setIfInBounds_toArray, List.set_cons_zero, List.set_cons_succ]
    rfl
  refine take_ (i := 12) (N := some 17) (v := ?_) (a' := ?_) #[true, true, true, true, true, true, true, true, true, true, true, true, true, false, false, false, false, false] rfl rfl (by kernel_rfl) (fun _ _ _ h => h) (Or.inl ⟨by rfl, ?_⟩) hHeld ?_ ?_
  rotate_left
  · rintro w' ⟨s0, s1, s2, s3⟩
    go_simp
    with_reducible rfl
  rotate_left
  · simp only [Act.put, List.setIfInBounds_toArray, List.set_cons_zero, List.set_cons_succ]
    rfl
  refine one_ (i := 13) (N := some 18) #[true, true, true, true, true, true, true, true, true, true, true, true, true, true, false, false, false, false] rfl rfl (by kernel_rfl) (by decide) (fun K hK => ?_)
  refine goes_ Try.func19 (by kernel_rfl) rfl #[.agg #[.int .u32 (un c.1), .int .u32 (un c.2)], .agg #[.int .u32 (un d.1), .int .u32 (un d.2)]] (by rfl) rfl rfl (by (try simp only [List.map_toArray, List.map_cons, List.map_nil]); first | done | rfl) ?_
  with_reducible refine (S.meet c d _).mono ?_
  rintro e W2 ⟨rfl, hb⟩
  refine ⟨_, rfl, ?_⟩
  have hHeld_ := hHeld
  have HA2 := HA1.below hb
  have HI2 := HI1.below hb
  have HR2 : W2.heap[b1]? = some (.cells #[.int .u32 0, .int .u32 0] 24 (0, 0)) := (hb.block _ (Array.getElem?_eq_some_iff.1 HR1).1).trans HR1
  have HB2 := below_then HB1 HB1.size hb
  refine hK.out _ _ ⟨HA2.1, HA2.2, HI2.1, HI2.2⟩ (fun hHeld => ?_)
  clear hK K hHeld_
  refine norm_ (a' := ?_) ?_ ?_
  rotate_left
  · show Act.put _ (some 18) _ = _
    simp only [Act.put, List.setIfInBounds_toArray, List.set_cons_zero, List.set_cons_succ]
    rfl
  refine one_ (i := 14) (N := some 19) #[true, true, true, true, true, true, true, true, true, true, true, true, true, true, true, false, false, false] rfl rfl (by kernel_rfl) (by decide) (fun K hK => ?_)
  refine goes_ Try.func17 (by kernel_rfl) rfl #[.agg #[.int .u32 (un (H.meet c d).1), .int .u32 (un (H.meet c d).2)]] (by rfl) rfl rfl (by (try simp only [List.map_toArray, List.map_cons, List.map_nil]); first | done | rfl) ?_
  with_reducible refine (S.clash (H.meet c d) _).mono ?_
  rintro e W3 ⟨rfl, hb⟩
  refine ⟨_, rfl, ?_⟩
  have hHeld_ := hHeld
  have HA3 := HA2.below hb
  have HI3 := HI2.below hb
  have HR3 : W3.heap[b1]? = some (.cells #[.int .u32 0, .int .u32 0] 24 (0, 0)) := (hb.block _ (Array.getElem?_eq_some_iff.1 HR2).1).trans HR2
  have HB3 := below_then HB2 HB2.size hb
  refine hK.out _ _ ⟨HA3.1, HA3.2, HI3.1, HI3.2⟩ (fun hHeld => ?_)
  clear hK K hHeld_
  refine norm_ (a' := ?_) ?_ ?_
  rotate_left
  · show Act.put _ (some 19) _ = _
    simp only [Act.put, List.setIfInBounds_toArray, List.set_cons_zero, List.set_cons_succ]
    rfl
  refine pure_ (i := 15) (N := some 20) (v := ?_) (a' := ?_) #[true, true, true, true, true, true, true, true, true, true, true, true, true, true, true, true, false, false] rfl rfl (by kernel_rfl) (fun _ _ _ h => h) (Or.inl ⟨by rfl, ?_⟩) ?_ ?_
  rotate_left
  · intro w'
    go_simp
    with_reducible rfl
  rotate_left
  · simp only [Act.put, List.setIfInBounds_toArray, List.set_cons_zero, List.set_cons_succ]
    rfl
  refine one_ (i := 16) (N := none) #[true, true, true, true, true, true, true, true, true, true, true, true, true, true, true, true, true, false] rfl rfl (by kernel_rfl) (by decide) (fun K hK => ?_)
  have hs0 : W3.cell? ⟨b1, 0, none⟩ = some (.int .u32 0) := (blk_cell HR3 0).trans rfl
  have hf0 := blk_frozen HR3 0
  have hs1 : W3.cell? ⟨b1, 1, none⟩ = some (.int .u32 0) := (blk_cell HR3 1).trans rfl
  have hf1 := blk_frozen HR3 1
  refine skip_ (w1 := ?_) (by rfl) rfl ?_ ?_
  rotate_left
  · go_simp
    rfl
  have hHeld_ := hHeld
  refine hK.out _ _ ⟨(cell_far (p := ⟨b1, _, none⟩) hne0 _).trans ((cell_far (p := ⟨b1, _, none⟩) hne0 _).trans hHeld.1), (cell_far (p := ⟨b1, _, none⟩) hne0 _).trans ((cell_far (p := ⟨b1, _, none⟩) hne0 _).trans hHeld.2.1), (cell_far (p := ⟨b1, _, none⟩) hnei _).trans ((cell_far (p := ⟨b1, _, none⟩) hnei _).trans hHeld.2.2.1), (cell_far (p := ⟨b1, _, none⟩) hnei _).trans ((cell_far (p := ⟨b1, _, none⟩) hnei _).trans hHeld.2.2.2)⟩ (fun hHeld => ?_)
  clear hK K hHeld_
  refine pure_ (i := 17) (N := some 4) (v := ?_) (a' := ?_) #[true, true, true, true, true, true, true, true, true, true, true, true, true, true, true, true, true, true] rfl rfl (by kernel_rfl) (fun _ _ _ h => h) (Or.inl ⟨by rfl, ?_⟩) ?_ ?_
  rotate_left
  · intro w'
    go_simp
    with_reducible rfl
  rotate_left
  · simp only [Act.put, List.setIfInBounds_toArray, List.set_cons_zero, List.set_cons_succ]
    rfl
  refine done_ (by kernel_rfl) ?_
  try go_wp2
  refine bodyPost_ret (results_ct rfl _ _ b1 24 #[.int .u32 (bits .andNot .u32 (un d.1) (un c.1)), .int .u32 (bits .andNot .u32 (un d.2) (un c.2))] (0, 0) _ rfl (by refine blk_put (cs := #[.int .u32 (bits .andNot .u32 (un d.1) (un c.1)), .int .u32 0]) ?_ 1 _ rfl; refine blk_put (cs := #[.int .u32 0, .int .u32 0]) ?_ 0 _ rfl; exact HR3) Try.underlying24 rfl (by kernel_rfl)) rfl ?_
  exact ⟨by first | rfl | (simp <;> rfl), below_set (below_set HB3 hge) hge⟩
end Go.Proofs.Ytahbmjpgnfgklaa
