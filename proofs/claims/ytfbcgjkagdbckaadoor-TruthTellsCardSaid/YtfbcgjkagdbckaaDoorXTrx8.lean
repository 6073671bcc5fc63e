-- Written for this claim by a program of ours (wip/xp.py), out of the translation and of hand-written contracts.
import Derived.Test.YtfbcgjkagdbckaaDoorXTrx0
import Derived.Test.YtfbcgjkagdbckaaDoorXTrx2
import Derived.Test.YtfbcgjkagdbckaaDoorXTrx4
import Derived.Test.YtfbcgjkagdbckaaDoorXTrx5
import Derived.Test.YtfbcgjkagdbckaaDoorXTrx6
namespace Go.Proofs.YtfbcgjkagdbckaaDoor.XTr
open Go.RowKit Go.Proofs.YtfbcgjkagdbckaaDoorW.PrintWords Go.Proofs.YtfbcgjkagdbckaaDoorW.PrintLast Go.Proofs.YtfbcgjkagdbckaaDoorW.PrintMore
attribute [local go_sem] max2_int min2_int max_two min_two max_three min_three max_four min_four   -- for this text's walks alone
set_option linter.unusedVariables false
set_option linter.unusedSimpArgs false

/-! ### hypercubelaw04_TruthAlgebra: function 5 -/
mutual
def hypercubelaw04_TruthAlgebra.j0 : Nat → Int → Int → Int → Bool → Option (Bool)
  | 0, _, _, _, _ => none
  | k + 1, x0, x1, x2, x56 => if x56 = true then (some false) else ((truth_Join.f x0 x1).bind fun t281 => ((truth_Meet.f x0 t281).bind fun t282 => (if t282 = x0 then ((truth_Meet.f x0 x1).bind fun t283 => ((truth_Join.f x0 t283).bind fun t284 => (if t284 = x0 then ((truth_Join.f x1 x2).bind fun t285 => ((truth_Meet.f x0 t285).bind fun t286 => ((truth_Meet.f x0 x1).bind fun t287 => ((truth_Meet.f x0 x2).bind fun t288 => ((truth_Join.f t287 t288).bind fun t289 => (hypercubelaw04_TruthAlgebra.j1 k x0 x1 (t286 != t289))))))) else (hypercubelaw04_TruthAlgebra.j1 k x0 x1 true)))) else (hypercubelaw04_TruthAlgebra.j1 k x0 x1 true))))
def hypercubelaw04_TruthAlgebra.j1 : Nat → Int → Int → Bool → Option (Bool)
  | 0, _, _, _ => none
  | k + 1, x0, x1, x87 => if x87 = true then (some false) else ((truth_Not.f x0).bind fun t290 => ((truth_Not.f t290).bind fun t291 => (if t291 = x0 then ((truth_Meet.f x0 x1).bind fun t292 => ((truth_Not.f t292).bind fun t293 => ((truth_Not.f x0).bind fun t294 => ((truth_Not.f x1).bind fun t295 => ((truth_Join.f t294 t295).bind fun t296 => (if t293 = t296 then ((truth_Not.f 0).bind fun t297 => (some (t297 == 1))) else (some false))))))) else (some false))))
end
def hypercubelaw04_TruthAlgebra.f (k : Nat) (a0 : Int) (a1 : Int) (a2 : Int) : Option (Bool) := (hypercubelaw04_works.f k).bind fun t265 => (if t265 = true then ((truth_Join.f 0 a0).bind fun t266 => ((truth_Join.f 0 a1).bind fun t267 => ((truth_Join.f 0 a2).bind fun t268 => ((truth_Meet.f t266 t267).bind fun t269 => ((truth_Meet.f t267 t266).bind fun t270 => (if t269 = t270 then ((truth_Join.f t266 t267).bind fun t271 => ((truth_Join.f t267 t266).bind fun t272 => (if t271 = t272 then ((truth_Meet.f t267 t268).bind fun t273 => ((truth_Meet.f t266 t273).bind fun t274 => ((truth_Meet.f t266 t267).bind fun t275 => ((truth_Meet.f t275 t268).bind fun t276 => (if t274 = t276 then ((truth_Join.f t267 t268).bind fun t277 => ((truth_Join.f t266 t277).bind fun t278 => ((truth_Join.f t266 t267).bind fun t279 => ((truth_Join.f t279 t268).bind fun t280 => (hypercubelaw04_TruthAlgebra.j0 k t266 t267 t268 (t278 != t280)))))) else (hypercubelaw04_TruthAlgebra.j0 k t266 t267 t268 true)))))) else (hypercubelaw04_TruthAlgebra.j0 k t266 t267 t268 true)))) else (hypercubelaw04_TruthAlgebra.j0 k t266 t267 t268 true))))))) else (some false))
theorem hypercubelaw04_TruthAlgebra.mono_l : ∀ k, (∀ y0 y1 y2 y3, LeO (hypercubelaw04_TruthAlgebra.j0 k y0 y1 y2 y3) (hypercubelaw04_TruthAlgebra.j0 (k + 1) y0 y1 y2 y3)) ∧ (∀ y0 y1 y2, LeO (hypercubelaw04_TruthAlgebra.j1 k y0 y1 y2) (hypercubelaw04_TruthAlgebra.j1 (k + 1) y0 y1 y2))
  | 0 => ⟨fun _ _ _ _ r h => by simp [hypercubelaw04_TruthAlgebra.j0] at h, fun _ _ _ r h => by simp [hypercubelaw04_TruthAlgebra.j1] at h⟩
  | k + 1 => by
    obtain ⟨ih0, ih1⟩ := hypercubelaw04_TruthAlgebra.mono_l k
    refine ⟨?_, ?_⟩
    · intro y0 y1 y2 y3
      unfold hypercubelaw04_TruthAlgebra.j0
      repeat' first
      | (with_reducible exact ih0 _ _ _ _)
      | (with_reducible exact ih1 _ _ _)
      | (with_reducible exact hypercubelaw04_works.mono _)
      | (with_reducible exact LeO.refl _)
      | (with_reducible exact LeO.none _)
      | (with_reducible refine LeO.ite ?_ ?_)
      | (with_reducible refine LeO.bind ?_ (fun _ => ?_))
      | exact ih0 _ _ _ _
      | exact ih1 _ _ _
      | exact hypercubelaw04_works.mono _
      | exact LeO.none _
      | refine LeO.ite ?_ ?_
      | refine LeO.bind ?_ (fun _ => ?_)
    · intro y0 y1 y2
      unfold hypercubelaw04_TruthAlgebra.j1
      repeat' first
      | (with_reducible exact ih0 _ _ _ _)
      | (with_reducible exact ih1 _ _ _)
      | (with_reducible exact hypercubelaw04_works.mono _)
      | (with_reducible exact LeO.refl _)
      | (with_reducible exact LeO.none _)
      | (with_reducible refine LeO.ite ?_ ?_)
      | (with_reducible refine LeO.bind ?_ (fun _ => ?_))
      | exact ih0 _ _ _ _
      | exact ih1 _ _ _
      | exact hypercubelaw04_works.mono _
      | exact LeO.none _
      | refine LeO.ite ?_ ?_
      | refine LeO.bind ?_ (fun _ => ?_)
theorem hypercubelaw04_TruthAlgebra.mono : ∀ a0 a1 a2 k, LeO (hypercubelaw04_TruthAlgebra.f k a0 a1 a2) (hypercubelaw04_TruthAlgebra.f (k + 1) a0 a1 a2) := by
  intro a0 a1 a2 k
  obtain ⟨ih0, ih1⟩ := hypercubelaw04_TruthAlgebra.mono_l k
  unfold hypercubelaw04_TruthAlgebra.f
  repeat' first
      | (with_reducible exact ih0 _ _ _ _)
      | (with_reducible exact ih1 _ _ _)
      | (with_reducible exact hypercubelaw04_works.mono _)
      | (with_reducible exact LeO.refl _)
      | (with_reducible exact LeO.none _)
      | (with_reducible refine LeO.ite ?_ ?_)
      | (with_reducible refine LeO.bind ?_ (fun _ => ?_))
      | exact ih0 _ _ _ _
      | exact ih1 _ _ _
      | exact hypercubelaw04_works.mono _
      | exact LeO.none _
      | refine LeO.ite ?_ ?_
      | refine LeO.bind ?_ (fun _ => ?_)
set_option maxHeartbeats 8000000 in
set_option maxRecDepth 100000 in
theorem hypercubelaw04_TruthAlgebra.calls (k : Nat) (a0 : Int) (a1 : Int) (a2 : Int) (r : Bool) (w : World) (HT : Aside0 (TabT w)) (h : hypercubelaw04_TruthAlgebra.f k a0 a1 a2 = some r) :
  Calls Tryd.prog 5 #[.int .i64 a0, .int .i64 a1, .int .i64 a2] w fun e w' => e = .returned (.bool r) ∧ Below w.heap.size w w' := by
 have HB := Aside0.mk (Below.refl w.heap.size w)
 have H : ((hypercubelaw04_works.f k).bind fun t265 => (if t265 = true then ((truth_Join.f 0 a0).bind fun t266 => ((truth_Join.f 0 a1).bind fun t267 => ((truth_Join.f 0 a2).bind fun t268 => ((truth_Meet.f t266 t267).bind fun t269 => ((truth_Meet.f t267 t266).bind fun t270 => (if t269 = t270 then ((truth_Join.f t266 t267).bind fun t271 => ((truth_Join.f t267 t266).bind fun t272 => (if t271 = t272 then ((truth_Meet.f t267 t268).bind fun t273 => ((truth_Meet.f t266 t273).bind fun t274 => ((truth_Meet.f t266 t267).bind fun t275 => ((truth_Meet.f t275 t268).bind fun t276 => (if t274 = t276 then ((truth_Join.f t267 t268).bind fun t277 => ((truth_Join.f t266 t277).bind fun t278 => ((truth_Join.f t266 t267).bind fun t279 => ((truth_Join.f t279 t268).bind fun t280 => (hypercubelaw04_TruthAlgebra.j0 k t266 t267 t268 (t278 != t280)))))) else (hypercubelaw04_TruthAlgebra.j0 k t266 t267 t268 true)))))) else (hypercubelaw04_TruthAlgebra.j0 k t266 t267 t268 true)))) else (hypercubelaw04_TruthAlgebra.j0 k t266 t267 t268 true))))))) else (some false))) = some r := h
 clear h
 replace H := Option.bind_eq_some_iff.mp H
 obtain ⟨t265, A40, H⟩ := H
 replace H : (if t265 = true then ((truth_Join.f 0 a0).bind fun t266 => ((truth_Join.f 0 a1).bind fun t267 => ((truth_Join.f 0 a2).bind fun t268 => ((truth_Meet.f t266 t267).bind fun t269 => ((truth_Meet.f t267 t266).bind fun t270 => (if t269 = t270 then ((truth_Join.f t266 t267).bind fun t271 => ((truth_Join.f t267 t266).bind fun t272 => (if t271 = t272 then ((truth_Meet.f t267 t268).bind fun t273 => ((truth_Meet.f t266 t273).bind fun t274 => ((truth_Meet.f t266 t267).bind fun t275 => ((truth_Meet.f t275 t268).bind fun t276 => (if t274 = t276 then ((truth_Join.f t267 t268).bind fun t277 => ((truth_Join.f t266 t277).bind fun t278 => ((truth_Join.f t266 t267).bind fun t279 => ((truth_Join.f t279 t268).bind fun t280 => (hypercubelaw04_TruthAlgebra.j0 k t266 t267 t268 (t278 != t280)))))) else (hypercubelaw04_TruthAlgebra.j0 k t266 t267 t268 true)))))) else (hypercubelaw04_TruthAlgebra.j0 k t266 t267 t268 true)))) else (hypercubelaw04_TruthAlgebra.j0 k t266 t267 t268 true))))))) else (some false)) = some r := H
 have A4 := Aside0.mk A40
 clear A40
 by_cases c5 : t265 = true
 ·subst c5
  have H1 : ((truth_Join.f 0 a0).bind fun t266 => ((truth_Join.f 0 a1).bind fun t267 => ((truth_Join.f 0 a2).bind fun t268 => ((truth_Meet.f t266 t267).bind fun t269 => ((truth_Meet.f t267 t266).bind fun t270 => (if t269 = t270 then ((truth_Join.f t266 t267).bind fun t271 => ((truth_Join.f t267 t266).bind fun t272 => (if t271 = t272 then ((truth_Meet.f t267 t268).bind fun t273 => ((truth_Meet.f t266 t273).bind fun t274 => ((truth_Meet.f t266 t267).bind fun t275 => ((truth_Meet.f t275 t268).bind fun t276 => (if t274 = t276 then ((truth_Join.f t267 t268).bind fun t277 => ((truth_Join.f t266 t277).bind fun t278 => ((truth_Join.f t266 t267).bind fun t279 => ((truth_Join.f t279 t268).bind fun t280 => (hypercubelaw04_TruthAlgebra.j0 k t266 t267 t268 (t278 != t280)))))) else (hypercubelaw04_TruthAlgebra.j0 k t266 t267 t268 true)))))) else (hypercubelaw04_TruthAlgebra.j0 k t266 t267 t268 true)))) else (hypercubelaw04_TruthAlgebra.j0 k t266 t267 t268 true))))))) = some r := by rw [if_pos rfl] at H; exact H
  clear H
  have H := H1
  clear H1
  replace H := Option.bind_eq_some_iff.mp H
  obtain ⟨t266, A60, H⟩ := H
  replace H : ((truth_Join.f 0 a1).bind fun t267 => ((truth_Join.f 0 a2).bind fun t268 => ((truth_Meet.f t266 t267).bind fun t269 => ((truth_Meet.f t267 t266).bind fun t270 => (if t269 = t270 then ((truth_Join.f t266 t267).bind fun t271 => ((truth_Join.f t267 t266).bind fun t272 => (if t271 = t272 then ((truth_Meet.f t267 t268).bind fun t273 => ((truth_Meet.f t266 t273).bind fun t274 => ((truth_Meet.f t266 t267).bind fun t275 => ((truth_Meet.f t275 t268).bind fun t276 => (if t274 = t276 then ((truth_Join.f t267 t268).bind fun t277 => ((truth_Join.f t266 t277).bind fun t278 => ((truth_Join.f t266 t267).bind fun t279 => ((truth_Join.f t279 t268).bind fun t280 => (hypercubelaw04_TruthAlgebra.j0 k t266 t267 t268 (t278 != t280)))))) else (hypercubelaw04_TruthAlgebra.j0 k t266 t267 t268 true)))))) else (hypercubelaw04_TruthAlgebra.j0 k t266 t267 t268 true)))) else (hypercubelaw04_TruthAlgebra.j0 k t266 t267 t268 true)))))) = some r := H
  have A6 := Aside0.mk A60
  clear A60
  replace H := Option.bind_eq_some_iff.mp H
  obtain ⟨t267, A70, H⟩ := H
  replace H : ((truth_Join.f 0 a2).bind fun t268 => ((truth_Meet.f t266 t267).bind fun t269 => ((truth_Meet.f t267 t266).bind fun t270 => (if t269 = t270 then ((truth_Join.f t266 t267).bind fun t271 => ((truth_Join.f t267 t266).bind fun t272 => (if t271 = t272 then ((truth_Meet.f t267 t268).bind fun t273 => ((truth_Meet.f t266 t273).bind fun t274 => ((truth_Meet.f t266 t267).bind fun t275 => ((truth_Meet.f t275 t268).bind fun t276 => (if t274 = t276 then ((truth_Join.f t267 t268).bind fun t277 => ((truth_Join.f t266 t277).bind fun t278 => ((truth_Join.f t266 t267).bind fun t279 => ((truth_Join.f t279 t268).bind fun t280 => (hypercubelaw04_TruthAlgebra.j0 k t266 t267 t268 (t278 != t280)))))) else (hypercubelaw04_TruthAlgebra.j0 k t266 t267 t268 true)))))) else (hypercubelaw04_TruthAlgebra.j0 k t266 t267 t268 true)))) else (hypercubelaw04_TruthAlgebra.j0 k t266 t267 t268 true))))) = some r := H
  have A7 := Aside0.mk A70
  clear A70
  replace H := Option.bind_eq_some_iff.mp H
  obtain ⟨t268, A80, H⟩ := H
  replace H : ((truth_Meet.f t266 t267).bind fun t269 => ((truth_Meet.f t267 t266).bind fun t270 => (if t269 = t270 then ((truth_Join.f t266 t267).bind fun t271 => ((truth_Join.f t267 t266).bind fun t272 => (if t271 = t272 then ((truth_Meet.f t267 t268).bind fun t273 => ((truth_Meet.f t266 t273).bind fun t274 => ((truth_Meet.f t266 t267).bind fun t275 => ((truth_Meet.f t275 t268).bind fun t276 => (if t274 = t276 then ((truth_Join.f t267 t268).bind fun t277 => ((truth_Join.f t266 t277).bind fun t278 => ((truth_Join.f t266 t267).bind fun t279 => ((truth_Join.f t279 t268).bind fun t280 => (hypercubelaw04_TruthAlgebra.j0 k t266 t267 t268 (t278 != t280)))))) else (hypercubelaw04_TruthAlgebra.j0 k t266 t267 t268 true)))))) else (hypercubelaw04_TruthAlgebra.j0 k t266 t267 t268 true)))) else (hypercubelaw04_TruthAlgebra.j0 k t266 t267 t268 true)))) = some r := H
  have A8 := Aside0.mk A80
  clear A80
  have HC9 := Aside0.mk H
  clear H
  go_enter Tryd.func5, Tryd.ntmps5
  go_upto_region 4 with (first | ((with_reducible refine gate_callee (f := 20) rfl ?_); refine goesL_ (some 7) rfl rfl Tryd.func20 (by kernel_rfl) rfl #[] rfl (by (try simp only [List.map_toArray, List.map_cons, List.map_nil]); first | done | rfl | (simp only [List.length_drop, List.length_take]; rfl)) ?_; (with_reducible refine (hypercubelaw04_works.calls (HT := ⟨TabT.below HT.out (by repeat (first | (with_reducible first | exact HB.out | apply below_alloc | apply pw_below_drewN | apply below_drew1) | exact HB.out))⟩) k  true _ A4.out).mono ?_); rintro e w10 ⟨rfl, hb⟩; refine ⟨_, rfl, ?_⟩; have n0_ := Aside0.mk (below_step (by repeat (first | (with_reducible first | exact HB.out | apply below_alloc | apply pw_below_drewN | apply below_drew1) | exact HB.out)) hb); clear HB; have HB := n0_; clear n0_; (try clear hb); (try clear hb2); (try clear hk); (try clear hi)) | ((with_reducible refine gate_callee (f := 16) rfl ?_); refine goesL_ (some 10) rfl rfl Tryd.func16 (by kernel_rfl) rfl #[.int .i64 0, .int .i64 a0] rfl (by (try simp only [List.map_toArray, List.map_cons, List.map_nil]); first | done | rfl | (simp only [List.length_drop, List.length_take]; rfl)) ?_; (with_reducible refine (truth_Join.calls (HT := ⟨TabT.below HT.out (by repeat (first | (with_reducible first | exact HB.out | apply below_alloc | apply pw_below_drewN | apply below_drew1) | exact HB.out))⟩) 0 a0 t266 _ A6.out).mono ?_); rintro e w11 ⟨rfl, hb⟩; refine ⟨_, rfl, ?_⟩; have n0_ := Aside0.mk (below_step (by repeat (first | (with_reducible first | exact HB.out | apply below_alloc | apply pw_below_drewN | apply below_drew1) | exact HB.out)) hb); clear HB; have HB := n0_; clear n0_; (try clear hb); (try clear hb2); (try clear hk); (try clear hi)) | ((with_reducible refine gate_callee (f := 16) rfl ?_); refine goesL_ (some 12) rfl rfl Tryd.func16 (by kernel_rfl) rfl #[.int .i64 0, .int .i64 a1] rfl (by (try simp only [List.map_toArray, List.map_cons, List.map_nil]); first | done | rfl | (simp only [List.length_drop, List.length_take]; rfl)) ?_; (with_reducible refine (truth_Join.calls (HT := ⟨TabT.below HT.out (by repeat (first | (with_reducible first | exact HB.out | apply below_alloc | apply pw_below_drewN | apply below_drew1) | exact HB.out))⟩) 0 a1 t267 _ A7.out).mono ?_); rintro e w12 ⟨rfl, hb⟩; refine ⟨_, rfl, ?_⟩; have n0_ := Aside0.mk (below_step (by repeat (first | (with_reducible first | exact HB.out | apply below_alloc | apply pw_below_drewN | apply below_drew1) | exact HB.out)) hb); clear HB; have HB := n0_; clear n0_; (try clear hb); (try clear hb2); (try clear hk); (try clear hi)) | ((with_reducible refine gate_callee (f := 16) rfl ?_); refine goesL_ (some 14) rfl rfl Tryd.func16 (by kernel_rfl) rfl #[.int .i64 0, .int .i64 a2] rfl (by (try simp only [List.map_toArray, List.map_cons, List.map_nil]); first | done | rfl | (simp only [List.length_drop, List.length_take]; rfl)) ?_; (with_reducible refine (truth_Join.calls (HT := ⟨TabT.below HT.out (by repeat (first | (with_reducible first | exact HB.out | apply below_alloc | apply pw_below_drewN | apply below_drew1) | exact HB.out))⟩) 0 a2 t268 _ A8.out).mono ?_); rintro e w13 ⟨rfl, hb⟩; refine ⟨_, rfl, ?_⟩; have n0_ := Aside0.mk (below_step (by repeat (first | (with_reducible first | exact HB.out | apply below_alloc | apply pw_below_drewN | apply below_drew1) | exact HB.out)) hb); clear HB; have HB := n0_; clear n0_; (try clear hb); (try clear hb2); (try clear hk); (try clear hi)))
  (try simp only [Act.put, List.setIfInBounds_toArray, List.set_cons_zero, List.set_cons_succ])
  go_cut [56] (fun v56 wc => ∃ (kq : Nat) (x56_8 : Bool), v56 = .bool x56_8 ∧ Aside0 (hypercubelaw04_TruthAlgebra.j0 kq t266 t267 t268 x56_8 = some r) ∧ Aside0 (kq ≤ k) ∧ Aside0 (Below w.heap.size w wc))
  case first =>
   have H := HC9.out
   clear HC9
   replace H := Option.bind_eq_some_iff.mp H
   obtain ⟨t269, A140, H⟩ := H
   replace H : ((truth_Meet.f t267 t266).bind fun t270 => (if t269 = t270 then ((truth_Join.f t266 t267).bind fun t271 => ((truth_Join.f t267 t266).bind fun t272 => (if t271 = t272 then ((truth_Meet.f t267 t268).bind fun t273 => ((truth_Meet.f t266 t273).bind fun t274 => ((truth_Meet.f t266 t267).bind fun t275 => ((truth_Meet.f t275 t268).bind fun t276 => (if t274 = t276 then ((truth_Join.f t267 t268).bind fun t277 => ((truth_Join.f t266 t277).bind fun t278 => ((truth_Join.f t266 t267).bind fun t279 => ((truth_Join.f t279 t268).bind fun t280 => (hypercubelaw04_TruthAlgebra.j0 k t266 t267 t268 (t278 != t280)))))) else (hypercubelaw04_TruthAlgebra.j0 k t266 t267 t268 true)))))) else (hypercubelaw04_TruthAlgebra.j0 k t266 t267 t268 true)))) else (hypercubelaw04_TruthAlgebra.j0 k t266 t267 t268 true))) = some r := H
   have A14 := Aside0.mk A140
   clear A140
   replace H := Option.bind_eq_some_iff.mp H
   obtain ⟨t270, A150, H⟩ := H
   replace H : (if t269 = t270 then ((truth_Join.f t266 t267).bind fun t271 => ((truth_Join.f t267 t266).bind fun t272 => (if t271 = t272 then ((truth_Meet.f t267 t268).bind fun t273 => ((truth_Meet.f t266 t273).bind fun t274 => ((truth_Meet.f t266 t267).bind fun t275 => ((truth_Meet.f t275 t268).bind fun t276 => (if t274 = t276 then ((truth_Join.f t267 t268).bind fun t277 => ((truth_Join.f t266 t277).bind fun t278 => ((truth_Join.f t266 t267).bind fun t279 => ((truth_Join.f t279 t268).bind fun t280 => (hypercubelaw04_TruthAlgebra.j0 k t266 t267 t268 (t278 != t280)))))) else (hypercubelaw04_TruthAlgebra.j0 k t266 t267 t268 true)))))) else (hypercubelaw04_TruthAlgebra.j0 k t266 t267 t268 true)))) else (hypercubelaw04_TruthAlgebra.j0 k t266 t267 t268 true)) = some r := H
   have A15 := Aside0.mk A150
   clear A150
   by_cases c16 : t269 = t270
   ·rw [if_pos c16] at H
    have c16b0 : (t269 == t270) = true := beq_iff_eq.mpr c16
    have c16b1 : (t269 != t270) = false := bne_eq_false_iff_eq.mpr c16
    clear c16
    (first | rw [c16b0] | (simp only [i64_w, i32_w]; rw [c16b0]) | skip)
    replace H := Option.bind_eq_some_iff.mp H
    obtain ⟨t271, A170, H⟩ := H
    replace H : ((truth_Join.f t267 t266).bind fun t272 => (if t271 = t272 then ((truth_Meet.f t267 t268).bind fun t273 => ((truth_Meet.f t266 t273).bind fun t274 => ((truth_Meet.f t266 t267).bind fun t275 => ((truth_Meet.f t275 t268).bind fun t276 => (if t274 = t276 then ((truth_Join.f t267 t268).bind fun t277 => ((truth_Join.f t266 t277).bind fun t278 => ((truth_Join.f t266 t267).bind fun t279 => ((truth_Join.f t279 t268).bind fun t280 => (hypercubelaw04_TruthAlgebra.j0 k t266 t267 t268 (t278 != t280)))))) else (hypercubelaw04_TruthAlgebra.j0 k t266 t267 t268 true)))))) else (hypercubelaw04_TruthAlgebra.j0 k t266 t267 t268 true))) = some r := H
    have A17 := Aside0.mk A170
    clear A170
    replace H := Option.bind_eq_some_iff.mp H
    obtain ⟨t272, A180, H⟩ := H
    replace H : (if t271 = t272 then ((truth_Meet.f t267 t268).bind fun t273 => ((truth_Meet.f t266 t273).bind fun t274 => ((truth_Meet.f t266 t267).bind fun t275 => ((truth_Meet.f t275 t268).bind fun t276 => (if t274 = t276 then ((truth_Join.f t267 t268).bind fun t277 => ((truth_Join.f t266 t277).bind fun t278 => ((truth_Join.f t266 t267).bind fun t279 => ((truth_Join.f t279 t268).bind fun t280 => (hypercubelaw04_TruthAlgebra.j0 k t266 t267 t268 (t278 != t280)))))) else (hypercubelaw04_TruthAlgebra.j0 k t266 t267 t268 true)))))) else (hypercubelaw04_TruthAlgebra.j0 k t266 t267 t268 true)) = some r := H
    have A18 := Aside0.mk A180
    clear A180
    by_cases c19 : t271 = t272
    ·rw [if_pos c19] at H
     have c19b0 : (t271 == t272) = true := beq_iff_eq.mpr c19
     have c19b1 : (t271 != t272) = false := bne_eq_false_iff_eq.mpr c19
     clear c19
     replace H := Option.bind_eq_some_iff.mp H
     obtain ⟨t273, A200, H⟩ := H
     replace H : ((truth_Meet.f t266 t273).bind fun t274 => ((truth_Meet.f t266 t267).bind fun t275 => ((truth_Meet.f t275 t268).bind fun t276 => (if t274 = t276 then ((truth_Join.f t267 t268).bind fun t277 => ((truth_Join.f t266 t277).bind fun t278 => ((truth_Join.f t266 t267).bind fun t279 => ((truth_Join.f t279 t268).bind fun t280 => (hypercubelaw04_TruthAlgebra.j0 k t266 t267 t268 (t278 != t280)))))) else (hypercubelaw04_TruthAlgebra.j0 k t266 t267 t268 true))))) = some r := H
     have A20 := Aside0.mk A200
     clear A200
     replace H := Option.bind_eq_some_iff.mp H
     obtain ⟨t274, A210, H⟩ := H
     replace H : ((truth_Meet.f t266 t267).bind fun t275 => ((truth_Meet.f t275 t268).bind fun t276 => (if t274 = t276 then ((truth_Join.f t267 t268).bind fun t277 => ((truth_Join.f t266 t277).bind fun t278 => ((truth_Join.f t266 t267).bind fun t279 => ((truth_Join.f t279 t268).bind fun t280 => (hypercubelaw04_TruthAlgebra.j0 k t266 t267 t268 (t278 != t280)))))) else (hypercubelaw04_TruthAlgebra.j0 k t266 t267 t268 true)))) = some r := H
     have A21 := Aside0.mk A210
     clear A210
     replace H := Option.bind_eq_some_iff.mp H
     obtain ⟨t275, A220, H⟩ := H
     replace H : ((truth_Meet.f t275 t268).bind fun t276 => (if t274 = t276 then ((truth_Join.f t267 t268).bind fun t277 => ((truth_Join.f t266 t277).bind fun t278 => ((truth_Join.f t266 t267).bind fun t279 => ((truth_Join.f t279 t268).bind fun t280 => (hypercubelaw04_TruthAlgebra.j0 k t266 t267 t268 (t278 != t280)))))) else (hypercubelaw04_TruthAlgebra.j0 k t266 t267 t268 true))) = some r := H
     have A22 := Aside0.mk A220
     clear A220
     replace H := Option.bind_eq_some_iff.mp H
     obtain ⟨t276, A230, H⟩ := H
     replace H : (if t274 = t276 then ((truth_Join.f t267 t268).bind fun t277 => ((truth_Join.f t266 t277).bind fun t278 => ((truth_Join.f t266 t267).bind fun t279 => ((truth_Join.f t279 t268).bind fun t280 => (hypercubelaw04_TruthAlgebra.j0 k t266 t267 t268 (t278 != t280)))))) else (hypercubelaw04_TruthAlgebra.j0 k t266 t267 t268 true)) = some r := H
     have A23 := Aside0.mk A230
     clear A230
     by_cases c24 : t274 = t276
     ·rw [if_pos c24] at H
      have c24b0 : (t274 == t276) = true := beq_iff_eq.mpr c24
      have c24b1 : (t274 != t276) = false := bne_eq_false_iff_eq.mpr c24
      clear c24
      replace H := Option.bind_eq_some_iff.mp H
      obtain ⟨t277, A250, H⟩ := H
      replace H : ((truth_Join.f t266 t277).bind fun t278 => ((truth_Join.f t266 t267).bind fun t279 => ((truth_Join.f t279 t268).bind fun t280 => (hypercubelaw04_TruthAlgebra.j0 k t266 t267 t268 (t278 != t280))))) = some r := H
      have A25 := Aside0.mk A250
      clear A250
      replace H := Option.bind_eq_some_iff.mp H
      obtain ⟨t278, A260, H⟩ := H
      replace H : ((truth_Join.f t266 t267).bind fun t279 => ((truth_Join.f t279 t268).bind fun t280 => (hypercubelaw04_TruthAlgebra.j0 k t266 t267 t268 (t278 != t280)))) = some r := H
      have A26 := Aside0.mk A260
      clear A260
      replace H := Option.bind_eq_some_iff.mp H
      obtain ⟨t279, A270, H⟩ := H
      replace H : ((truth_Join.f t279 t268).bind fun t280 => (hypercubelaw04_TruthAlgebra.j0 k t266 t267 t268 (t278 != t280))) = some r := H
      have A27 := Aside0.mk A270
      clear A270
      replace H := Option.bind_eq_some_iff.mp H
      obtain ⟨t280, A280, H⟩ := H
      replace H : (hypercubelaw04_TruthAlgebra.j0 k t266 t267 t268 (t278 != t280)) = some r := H
      have A28 := Aside0.mk A280
      clear A280
      have H' := Aside0.mk H
      clear H
      obtain rfl := Option.some.inj (A14.out.symm.trans A22.out)
      obtain rfl := Option.some.inj (A17.out.symm.trans A27.out)
      go_wp2_with (first | ((with_reducible refine gate_callee (f := 14) rfl ?_); refine goesL_ (some 17) rfl rfl Tryd.func14 (by kernel_rfl) rfl #[.int .i64 t266, .int .i64 t267] rfl (by (try simp only [List.map_toArray, List.map_cons, List.map_nil]); first | done | rfl | (simp only [List.length_drop, List.length_take]; rfl)) ?_; (with_reducible refine (truth_Meet.calls (HT := ⟨TabT.below HT.out (by repeat (first | (with_reducible first | exact HB.out | apply below_alloc | apply pw_below_drewN | apply below_drew1) | exact HB.out))⟩) t266 t267 t269 _ A14.out).mono ?_); rintro e w29 ⟨rfl, hb⟩; refine ⟨_, rfl, ?_⟩; have n0_ := Aside0.mk (below_step (by repeat (first | (with_reducible first | exact HB.out | apply below_alloc | apply pw_below_drewN | apply below_drew1) | exact HB.out)) hb); clear HB; have HB := n0_; clear n0_; (try clear hb); (try clear hb2); (try clear hk); (try clear hi)) | ((with_reducible refine gate_callee (f := 14) rfl ?_); refine goesL_ (some 20) rfl rfl Tryd.func14 (by kernel_rfl) rfl #[.int .i64 t267, .int .i64 t266] rfl (by (try simp only [List.map_toArray, List.map_cons, List.map_nil]); first | done | rfl | (simp only [List.length_drop, List.length_take]; rfl)) ?_; (with_reducible refine (truth_Meet.calls (HT := ⟨TabT.below HT.out (by repeat (first | (with_reducible first | exact HB.out | apply below_alloc | apply pw_below_drewN | apply below_drew1) | exact HB.out))⟩) t267 t266 t270 _ A15.out).mono ?_); rintro e w30 ⟨rfl, hb⟩; refine ⟨_, rfl, ?_⟩; have n0_ := Aside0.mk (below_step (by repeat (first | (with_reducible first | exact HB.out | apply below_alloc | apply pw_below_drewN | apply below_drew1) | exact HB.out)) hb); clear HB; have HB := n0_; clear n0_; (try clear hb); (try clear hb2); (try clear hk); (try clear hi)) | (go_at_call 16; (with_reducible refine (truth_Join.calls (HT := ⟨TabT.below HT.out (by repeat (first | (with_reducible first | exact HB.out | apply below_alloc | apply pw_below_drewN | apply below_drew1) | exact HB.out))⟩) t266 t267 t271 _ A17.out).mono ?_); rintro e w31 ⟨rfl, hb⟩; have n0_ := Aside0.mk (below_step (by repeat (first | (with_reducible first | exact HB.out | apply below_alloc | apply pw_below_drewN | apply below_drew1) | exact HB.out)) hb); clear HB; have HB := n0_; clear n0_; (try clear hb); (try clear hb2); (try clear hk); (try clear hi)) | (go_at_call 16; (with_reducible refine (truth_Join.calls (HT := ⟨TabT.below HT.out (by repeat (first | (with_reducible first | exact HB.out | apply below_alloc | apply pw_below_drewN | apply below_drew1) | exact HB.out))⟩) t267 t266 t272 _ A18.out).mono ?_); rintro e w32 ⟨rfl, hb⟩; have n0_ := Aside0.mk (below_step (by repeat (first | (with_reducible first | exact HB.out | apply below_alloc | apply pw_below_drewN | apply below_drew1) | exact HB.out)) hb); clear HB; have HB := n0_; clear n0_; (try clear hb); (try clear hb2); (try clear hk); (try clear hi)) | (go_at_call 14; (with_reducible refine (truth_Meet.calls (HT := ⟨TabT.below HT.out (by repeat (first | (with_reducible first | exact HB.out | apply below_alloc | apply pw_below_drewN | apply below_drew1) | exact HB.out))⟩) t267 t268 t273 _ A20.out).mono ?_); rintro e w33 ⟨rfl, hb⟩; have n0_ := Aside0.mk (below_step (by repeat (first | (with_reducible first | exact HB.out | apply below_alloc | apply pw_below_drewN | apply below_drew1) | exact HB.out)) hb); clear HB; have HB := n0_; clear n0_; (try clear hb); (try clear hb2); (try clear hk); (try clear hi)) | (go_at_call 14; (with_reducible refine (truth_Meet.calls (HT := ⟨TabT.below HT.out (by repeat (first | (with_reducible first | exact HB.out | apply below_alloc | apply pw_below_drewN | apply below_drew1) | exact HB.out))⟩) t266 t273 t274 _ A21.out).mono ?_); rintro e w34 ⟨rfl, hb⟩; have n0_ := Aside0.mk (below_step (by repeat (first | (with_reducible first | exact HB.out | apply below_alloc | apply pw_below_drewN | apply below_drew1) | exact HB.out)) hb); clear HB; have HB := n0_; clear n0_; (try clear hb); (try clear hb2); (try clear hk); (try clear hi)) | (go_at_call 14; (with_reducible refine (truth_Meet.calls (HT := ⟨TabT.below HT.out (by repeat (first | (with_reducible first | exact HB.out | apply below_alloc | apply pw_below_drewN | apply below_drew1) | exact HB.out))⟩) t266 t267 t269 _ A22.out).mono ?_); rintro e w35 ⟨rfl, hb⟩; have n0_ := Aside0.mk (below_step (by repeat (first | (with_reducible first | exact HB.out | apply below_alloc | apply pw_below_drewN | apply below_drew1) | exact HB.out)) hb); clear HB; have HB := n0_; clear n0_; (try clear hb); (try clear hb2); (try clear hk); (try clear hi)) | (go_at_call 14; (with_reducible refine (truth_Meet.calls (HT := ⟨TabT.below HT.out (by repeat (first | (with_reducible first | exact HB.out | apply below_alloc | apply pw_below_drewN | apply below_drew1) | exact HB.out))⟩) t269 t268 t276 _ A23.out).mono ?_); rintro e w36 ⟨rfl, hb⟩; have n0_ := Aside0.mk (below_step (by repeat (first | (with_reducible first | exact HB.out | apply below_alloc | apply pw_below_drewN | apply below_drew1) | exact HB.out)) hb); clear HB; have HB := n0_; clear n0_; (try clear hb); (try clear hb2); (try clear hk); (try clear hi)) | (go_at_call 16; (with_reducible refine (truth_Join.calls (HT := ⟨TabT.below HT.out (by repeat (first | (with_reducible first | exact HB.out | apply below_alloc | apply pw_below_drewN | apply below_drew1) | exact HB.out))⟩) t267 t268 t277 _ A25.out).mono ?_); rintro e w37 ⟨rfl, hb⟩; have n0_ := Aside0.mk (below_step (by repeat (first | (with_reducible first | exact HB.out | apply below_alloc | apply pw_below_drewN | apply below_drew1) | exact HB.out)) hb); clear HB; have HB := n0_; clear n0_; (try clear hb); (try clear hb2); (try clear hk); (try clear hi)) | (go_at_call 16; (with_reducible refine (truth_Join.calls (HT := ⟨TabT.below HT.out (by repeat (first | (with_reducible first | exact HB.out | apply below_alloc | apply pw_below_drewN | apply below_drew1) | exact HB.out))⟩) t266 t277 t278 _ A26.out).mono ?_); rintro e w38 ⟨rfl, hb⟩; have n0_ := Aside0.mk (below_step (by repeat (first | (with_reducible first | exact HB.out | apply below_alloc | apply pw_below_drewN | apply below_drew1) | exact HB.out)) hb); clear HB; have HB := n0_; clear n0_; (try clear hb); (try clear hb2); (try clear hk); (try clear hi)) | (go_at_call 16; (with_reducible refine (truth_Join.calls (HT := ⟨TabT.below HT.out (by repeat (first | (with_reducible first | exact HB.out | apply below_alloc | apply pw_below_drewN | apply below_drew1) | exact HB.out))⟩) t266 t267 t271 _ A27.out).mono ?_); rintro e w39 ⟨rfl, hb⟩; have n0_ := Aside0.mk (below_step (by repeat (first | (with_reducible first | exact HB.out | apply below_alloc | apply pw_below_drewN | apply below_drew1) | exact HB.out)) hb); clear HB; have HB := n0_; clear n0_; (try clear hb); (try clear hb2); (try clear hk); (try clear hi)) | (go_at_call 16; (with_reducible refine (truth_Join.calls (HT := ⟨TabT.below HT.out (by repeat (first | (with_reducible first | exact HB.out | apply below_alloc | apply pw_below_drewN | apply below_drew1) | exact HB.out))⟩) t271 t268 t280 _ A28.out).mono ?_); rintro e w40 ⟨rfl, hb⟩; have n0_ := Aside0.mk (below_step (by repeat (first | (with_reducible first | exact HB.out | apply below_alloc | apply pw_below_drewN | apply below_drew1) | exact HB.out)) hb); clear HB; have HB := n0_; clear n0_; (try clear hb); (try clear hb2); (try clear hk); (try clear hi)))
      go_meet
      case rel => exact ⟨_, ((t278 != t280)), (by first | rfl | (simp; done) | (simp [*]; done)), H', ⟨by first | omega | exact Nat.le_refl _⟩, ⟨by repeat (first | (with_reducible first | exact HB.out | apply below_alloc | apply pw_below_drewN | apply below_drew1) | exact HB.out)⟩⟩
     ·rw [if_neg c24] at H
      have c24b0 : (t274 == t276) = false := beq_eq_false_iff_ne.mpr c24
      have c24b1 : (t274 != t276) = true := bne_iff_ne.mpr c24
      have H' := Aside0.mk H
      clear H
      obtain rfl := Option.some.inj (A14.out.symm.trans A22.out)
      go_wp2_with (first | ((with_reducible refine gate_callee (f := 14) rfl ?_); refine goesL_ (some 17) rfl rfl Tryd.func14 (by kernel_rfl) rfl #[.int .i64 t266, .int .i64 t267] rfl (by (try simp only [List.map_toArray, List.map_cons, List.map_nil]); first | done | rfl | (simp only [List.length_drop, List.length_take]; rfl)) ?_; (with_reducible refine (truth_Meet.calls (HT := ⟨TabT.below HT.out (by repeat (first | (with_reducible first | exact HB.out | apply below_alloc | apply pw_below_drewN | apply below_drew1) | exact HB.out))⟩) t266 t267 t269 _ A14.out).mono ?_); rintro e w41 ⟨rfl, hb⟩; refine ⟨_, rfl, ?_⟩; have n0_ := Aside0.mk (below_step (by repeat (first | (with_reducible first | exact HB.out | apply below_alloc | apply pw_below_drewN | apply below_drew1) | exact HB.out)) hb); clear HB; have HB := n0_; clear n0_; (try clear hb); (try clear hb2); (try clear hk); (try clear hi)) | ((with_reducible refine gate_callee (f := 14) rfl ?_); refine goesL_ (some 20) rfl rfl Tryd.func14 (by kernel_rfl) rfl #[.int .i64 t267, .int .i64 t266] rfl (by (try simp only [List.map_toArray, List.map_cons, List.map_nil]); first | done | rfl | (simp only [List.length_drop, List.length_take]; rfl)) ?_; (with_reducible refine (truth_Meet.calls (HT := ⟨TabT.below HT.out (by repeat (first | (with_reducible first | exact HB.out | apply below_alloc | apply pw_below_drewN | apply below_drew1) | exact HB.out))⟩) t267 t266 t270 _ A15.out).mono ?_); rintro e w42 ⟨rfl, hb⟩; refine ⟨_, rfl, ?_⟩; have n0_ := Aside0.mk (below_step (by repeat (first | (with_reducible first | exact HB.out | apply below_alloc | apply pw_below_drewN | apply below_drew1) | exact HB.out)) hb); clear HB; have HB := n0_; clear n0_; (try clear hb); (try clear hb2); (try clear hk); (try clear hi)) | (go_at_call 16; (with_reducible refine (truth_Join.calls (HT := ⟨TabT.below HT.out (by repeat (first | (with_reducible first | exact HB.out | apply below_alloc | apply pw_below_drewN | apply below_drew1) | exact HB.out))⟩) t266 t267 t271 _ A17.out).mono ?_); rintro e w43 ⟨rfl, hb⟩; have n0_ := Aside0.mk (below_step (by repeat (first | (with_reducible first | exact HB.out | apply below_alloc | apply pw_below_drewN | apply below_drew1) | exact HB.out)) hb); clear HB; have HB := n0_; clear n0_; (try clear hb); (try clear hb2); (try clear hk); (try clear hi)) | (go_at_call 16; (with_reducible refine (truth_Join.calls (HT := ⟨TabT.below HT.out (by repeat (first | (with_reducible first | exact HB.out | apply below_alloc | apply pw_below_drewN | apply below_drew1) | exact HB.out))⟩) t267 t266 t272 _ A18.out).mono ?_); rintro e w44 ⟨rfl, hb⟩; have n0_ := Aside0.mk (below_step (by repeat (first | (with_reducible first | exact HB.out | apply below_alloc | apply pw_below_drewN | apply below_drew1) | exact HB.out)) hb); clear HB; have HB := n0_; clear n0_; (try clear hb); (try clear hb2); (try clear hk); (try clear hi)) | (go_at_call 14; (with_reducible refine (truth_Meet.calls (HT := ⟨TabT.below HT.out (by repeat (first | (with_reducible first | exact HB.out | apply below_alloc | apply pw_below_drewN | apply below_drew1) | exact HB.out))⟩) t267 t268 t273 _ A20.out).mono ?_); rintro e w45 ⟨rfl, hb⟩; have n0_ := Aside0.mk (below_step (by repeat (first | (with_reducible first | exact HB.out | apply below_alloc | apply pw_below_drewN | apply below_drew1) | exact HB.out)) hb); clear HB; have HB := n0_; clear n0_; (try clear hb); (try clear hb2); (try clear hk); (try clear hi)) | (go_at_call 14; (with_reducible refine (truth_Meet.calls (HT := ⟨TabT.below HT.out (by repeat (first | (with_reducible first | exact HB.out | apply below_alloc | apply pw_below_drewN | apply below_drew1) | exact HB.out))⟩) t266 t273 t274 _ A21.out).mono ?_); rintro e w46 ⟨rfl, hb⟩; have n0_ := Aside0.mk (below_step (by repeat (first | (with_reducible first | exact HB.out | apply below_alloc | apply pw_below_drewN | apply below_drew1) | exact HB.out)) hb); clear HB; have HB := n0_; clear n0_; (try clear hb); (try clear hb2); (try clear hk); (try clear hi)) | (go_at_call 14; (with_reducible refine (truth_Meet.calls (HT := ⟨TabT.below HT.out (by repeat (first | (with_reducible first | exact HB.out | apply below_alloc | apply pw_below_drewN | apply below_drew1) | exact HB.out))⟩) t266 t267 t269 _ A22.out).mono ?_); rintro e w47 ⟨rfl, hb⟩; have n0_ := Aside0.mk (below_step (by repeat (first | (with_reducible first | exact HB.out | apply below_alloc | apply pw_below_drewN | apply below_drew1) | exact HB.out)) hb); clear HB; have HB := n0_; clear n0_; (try clear hb); (try clear hb2); (try clear hk); (try clear hi)) | (go_at_call 14; (with_reducible refine (truth_Meet.calls (HT := ⟨TabT.below HT.out (by repeat (first | (with_reducible first | exact HB.out | apply below_alloc | apply pw_below_drewN | apply below_drew1) | exact HB.out))⟩) t269 t268 t276 _ A23.out).mono ?_); rintro e w48 ⟨rfl, hb⟩; have n0_ := Aside0.mk (below_step (by repeat (first | (with_reducible first | exact HB.out | apply below_alloc | apply pw_below_drewN | apply below_drew1) | exact HB.out)) hb); clear HB; have HB := n0_; clear n0_; (try clear hb); (try clear hb2); (try clear hk); (try clear hi)))
      go_meet
      case rel => exact ⟨_, (true), (by first | rfl | (simp; done) | (simp [*]; done)), H', ⟨by first | omega | exact Nat.le_refl _⟩, ⟨by repeat (first | (with_reducible first | exact HB.out | apply below_alloc | apply pw_below_drewN | apply below_drew1) | exact HB.out)⟩⟩
    ·rw [if_neg c19] at H
     have c19b0 : (t271 == t272) = false := beq_eq_false_iff_ne.mpr c19
     have c19b1 : (t271 != t272) = true := bne_iff_ne.mpr c19
     have H' := Aside0.mk H
     clear H
     go_wp2_with (first | ((with_reducible refine gate_callee (f := 14) rfl ?_); refine goesL_ (some 17) rfl rfl Tryd.func14 (by kernel_rfl) rfl #[.int .i64 t266, .int .i64 t267] rfl (by (try simp only [List.map_toArray, List.map_cons, List.map_nil]); first | done | rfl | (simp only [List.length_drop, List.length_take]; rfl)) ?_; (with_reducible refine (truth_Meet.calls (HT := ⟨TabT.below HT.out (by repeat (first | (with_reducible first | exact HB.out | apply below_alloc | apply pw_below_drewN | apply below_drew1) | exact HB.out))⟩) t266 t267 t269 _ A14.out).mono ?_); rintro e w49 ⟨rfl, hb⟩; refine ⟨_, rfl, ?_⟩; have n0_ := Aside0.mk (below_step (by repeat (first | (with_reducible first | exact HB.out | apply below_alloc | apply pw_below_drewN | apply below_drew1) | exact HB.out)) hb); clear HB; have HB := n0_; clear n0_; (try clear hb); (try clear hb2); (try clear hk); (try clear hi)) | ((with_reducible refine gate_callee (f := 14) rfl ?_); refine goesL_ (some 20) rfl rfl Tryd.func14 (by kernel_rfl) rfl #[.int .i64 t267, .int .i64 t266] rfl (by (try simp only [List.map_toArray, List.map_cons, List.map_nil]); first | done | rfl | (simp only [List.length_drop, List.length_take]; rfl)) ?_; (with_reducible refine (truth_Meet.calls (HT := ⟨TabT.below HT.out (by repeat (first | (with_reducible first | exact HB.out | apply below_alloc | apply pw_below_drewN | apply below_drew1) | exact HB.out))⟩) t267 t266 t270 _ A15.out).mono ?_); rintro e w50 ⟨rfl, hb⟩; refine ⟨_, rfl, ?_⟩; have n0_ := Aside0.mk (below_step (by repeat (first | (with_reducible first | exact HB.out | apply below_alloc | apply pw_below_drewN | apply below_drew1) | exact HB.out)) hb); clear HB; have HB := n0_; clear n0_; (try clear hb); (try clear hb2); (try clear hk); (try clear hi)) | (go_at_call 16; (with_reducible refine (truth_Join.calls (HT := ⟨TabT.below HT.out (by repeat (first | (with_reducible first | exact HB.out | apply below_alloc | apply pw_below_drewN | apply below_drew1) | exact HB.out))⟩) t266 t267 t271 _ A17.out).mono ?_); rintro e w51 ⟨rfl, hb⟩; have n0_ := Aside0.mk (below_step (by repeat (first | (with_reducible first | exact HB.out | apply below_alloc | apply pw_below_drewN | apply below_drew1) | exact HB.out)) hb); clear HB; have HB := n0_; clear n0_; (try clear hb); (try clear hb2); (try clear hk); (try clear hi)) | (go_at_call 16; (with_reducible refine (truth_Join.calls (HT := ⟨TabT.below HT.out (by repeat (first | (with_reducible first | exact HB.out | apply below_alloc | apply pw_below_drewN | apply below_drew1) | exact HB.out))⟩) t267 t266 t272 _ A18.out).mono ?_); rintro e w52 ⟨rfl, hb⟩; have n0_ := Aside0.mk (below_step (by repeat (first | (with_reducible first | exact HB.out | apply below_alloc | apply pw_below_drewN | apply below_drew1) | exact HB.out)) hb); clear HB; have HB := n0_; clear n0_; (try clear hb); (try clear hb2); (try clear hk); (try clear hi)))
     go_meet
     case rel => exact ⟨_, (true), (by first | rfl | (simp; done) | (simp [*]; done)), H', ⟨by first | omega | exact Nat.le_refl _⟩, ⟨by repeat (first | (with_reducible first | exact HB.out | apply below_alloc | apply pw_below_drewN | apply below_drew1) | exact HB.out)⟩⟩
   ·rw [if_neg c16] at H
    have c16b0 : (t269 == t270) = false := beq_eq_false_iff_ne.mpr c16
    have c16b1 : (t269 != t270) = true := bne_iff_ne.mpr c16
    (first | rw [c16b0] | (simp only [i64_w, i32_w]; rw [c16b0]) | skip)
    have H' := Aside0.mk H
    clear H
    go_wp2_with (first | ((with_reducible refine gate_callee (f := 14) rfl ?_); refine goesL_ (some 17) rfl rfl Tryd.func14 (by kernel_rfl) rfl #[.int .i64 t266, .int .i64 t267] rfl (by (try simp only [List.map_toArray, List.map_cons, List.map_nil]); first | done | rfl | (simp only [List.length_drop, List.length_take]; rfl)) ?_; (with_reducible refine (truth_Meet.calls (HT := ⟨TabT.below HT.out (by repeat (first | (with_reducible first | exact HB.out | apply below_alloc | apply pw_below_drewN | apply below_drew1) | exact HB.out))⟩) t266 t267 t269 _ A14.out).mono ?_); rintro e w53 ⟨rfl, hb⟩; refine ⟨_, rfl, ?_⟩; have n0_ := Aside0.mk (below_step (by repeat (first | (with_reducible first | exact HB.out | apply below_alloc | apply pw_below_drewN | apply below_drew1) | exact HB.out)) hb); clear HB; have HB := n0_; clear n0_; (try clear hb); (try clear hb2); (try clear hk); (try clear hi)) | ((with_reducible refine gate_callee (f := 14) rfl ?_); refine goesL_ (some 20) rfl rfl Tryd.func14 (by kernel_rfl) rfl #[.int .i64 t267, .int .i64 t266] rfl (by (try simp only [List.map_toArray, List.map_cons, List.map_nil]); first | done | rfl | (simp only [List.length_drop, List.length_take]; rfl)) ?_; (with_reducible refine (truth_Meet.calls (HT := ⟨TabT.below HT.out (by repeat (first | (with_reducible first | exact HB.out | apply below_alloc | apply pw_below_drewN | apply below_drew1) | exact HB.out))⟩) t267 t266 t270 _ A15.out).mono ?_); rintro e w54 ⟨rfl, hb⟩; refine ⟨_, rfl, ?_⟩; have n0_ := Aside0.mk (below_step (by repeat (first | (with_reducible first | exact HB.out | apply below_alloc | apply pw_below_drewN | apply below_drew1) | exact HB.out)) hb); clear HB; have HB := n0_; clear n0_; (try clear hb); (try clear hb2); (try clear hk); (try clear hi)))
    go_meet
    case rel => exact ⟨_, (true), (by first | rfl | (simp; done) | (simp [*]; done)), H', ⟨by first | omega | exact Nat.le_refl _⟩, ⟨by repeat (first | (with_reducible first | exact HB.out | apply below_alloc | apply pw_below_drewN | apply below_drew1) | exact HB.out)⟩⟩
  case rest =>
   clear HC9
   try clear c1
   try clear c2
   try clear p2
   try clear c5
   try clear c14
   try clear c16
   try clear c16b0
   try clear c16b1
   try clear c19
   try clear c19b0
   try clear c19b1
   try clear c20
   try clear c24
   try clear c24b0
   try clear c24b1
   obtain ⟨kq, x56_8, rfl, HA, HJ8, HB⟩ := hcut
   cases kq with
   | zero => exact absurd HA.out (by simp [hypercubelaw04_TruthAlgebra.j0])
   | succ kj8 =>
    have H := HA.out
    clear HA
    simp only [hypercubelaw04_TruthAlgebra.j0] at H
    by_cases c55 : x56_8 = true
    ·subst c55
     have H1 : (some false) = some r := by rw [if_pos rfl] at H; exact H
     clear H
     have H := H1
     clear H1
     obtain rfl := Option.some.inj H
     go_wp2
     go_ret
     exact ⟨by first | rfl | (simp [errW_none, errW_some] <;> rfl) | (simp [*, errW_none, errW_some] <;> rfl), by repeat (first | (with_reducible first | exact HB.out | apply below_alloc | apply pw_below_drewN | apply below_drew1) | exact HB.out)⟩
    ·replace c55 := Bool.eq_false_iff.mpr c55
     subst c55
     have H1 : ((truth_Join.f t266 t267).bind fun t281 => ((truth_Meet.f t266 t281).bind fun t282 => (if t282 = t266 then ((truth_Meet.f t266 t267).bind fun t283 => ((truth_Join.f t266 t283).bind fun t284 => (if t284 = t266 then ((truth_Join.f t267 t268).bind fun t285 => ((truth_Meet.f t266 t285).bind fun t286 => ((truth_Meet.f t266 t267).bind fun t287 => ((truth_Meet.f t266 t268).bind fun t288 => ((truth_Join.f t287 t288).bind fun t289 => (hypercubelaw04_TruthAlgebra.j1 kj8 t266 t267 (t286 != t289))))))) else (hypercubelaw04_TruthAlgebra.j1 kj8 t266 t267 true)))) else (hypercubelaw04_TruthAlgebra.j1 kj8 t266 t267 true)))) = some r := by rw [if_neg (show ¬ (false = true) by decide)] at H; exact H
     clear H
     have H := H1
     clear H1
     have HC56 := Aside0.mk H
     clear H
     go_upto_region 6 with (fail)
     go_cut [87] (fun v87 wc => ∃ (kq : Nat) (x87_55 : Bool), v87 = .bool x87_55 ∧ Aside0 (hypercubelaw04_TruthAlgebra.j1 kq t266 t267 x87_55 = some r) ∧ Aside0 (kq ≤ kj8) ∧ Aside0 (Below w.heap.size w wc))
     case first =>
      have H := HC56.out
      clear HC56
      replace H := Option.bind_eq_some_iff.mp H
      obtain ⟨t281, A570, H⟩ := H
      replace H : ((truth_Meet.f t266 t281).bind fun t282 => (if t282 = t266 then ((truth_Meet.f t266 t267).bind fun t283 => ((truth_Join.f t266 t283).bind fun t284 => (if t284 = t266 then ((truth_Join.f t267 t268).bind fun t285 => ((truth_Meet.f t266 t285).bind fun t286 => ((truth_Meet.f t266 t267).bind fun t287 => ((truth_Meet.f t266 t268).bind fun t288 => ((truth_Join.f t287 t288).bind fun t289 => (hypercubelaw04_TruthAlgebra.j1 kj8 t266 t267 (t286 != t289))))))) else (hypercubelaw04_TruthAlgebra.j1 kj8 t266 t267 true)))) else (hypercubelaw04_TruthAlgebra.j1 kj8 t266 t267 true))) = some r := H
      have A57 := Aside0.mk A570
      clear A570
      replace H := Option.bind_eq_some_iff.mp H
      obtain ⟨t282, A580, H⟩ := H
      replace H : (if t282 = t266 then ((truth_Meet.f t266 t267).bind fun t283 => ((truth_Join.f t266 t283).bind fun t284 => (if t284 = t266 then ((truth_Join.f t267 t268).bind fun t285 => ((truth_Meet.f t266 t285).bind fun t286 => ((truth_Meet.f t266 t267).bind fun t287 => ((truth_Meet.f t266 t268).bind fun t288 => ((truth_Join.f t287 t288).bind fun t289 => (hypercubelaw04_TruthAlgebra.j1 kj8 t266 t267 (t286 != t289))))))) else (hypercubelaw04_TruthAlgebra.j1 kj8 t266 t267 true)))) else (hypercubelaw04_TruthAlgebra.j1 kj8 t266 t267 true)) = some r := H
      have A58 := Aside0.mk A580
      clear A580
      by_cases c59 : t282 = t266
      ·rw [if_pos c59] at H
       have c59b0 : (t282 == t266) = true := beq_iff_eq.mpr c59
       have c59b1 : (t282 != t266) = false := bne_eq_false_iff_eq.mpr c59
       clear c59
       (first | rw [c59b0] | (simp only [i64_w, i32_w]; rw [c59b0]) | skip)
       replace H := Option.bind_eq_some_iff.mp H
       obtain ⟨t283, A600, H⟩ := H
       replace H : ((truth_Join.f t266 t283).bind fun t284 => (if t284 = t266 then ((truth_Join.f t267 t268).bind fun t285 => ((truth_Meet.f t266 t285).bind fun t286 => ((truth_Meet.f t266 t267).bind fun t287 => ((truth_Meet.f t266 t268).bind fun t288 => ((truth_Join.f t287 t288).bind fun t289 => (hypercubelaw04_TruthAlgebra.j1 kj8 t266 t267 (t286 != t289))))))) else (hypercubelaw04_TruthAlgebra.j1 kj8 t266 t267 true))) = some r := H
       have A60 := Aside0.mk A600
       clear A600
       replace H := Option.bind_eq_some_iff.mp H
       obtain ⟨t284, A610, H⟩ := H
       replace H : (if t284 = t266 then ((truth_Join.f t267 t268).bind fun t285 => ((truth_Meet.f t266 t285).bind fun t286 => ((truth_Meet.f t266 t267).bind fun t287 => ((truth_Meet.f t266 t268).bind fun t288 => ((truth_Join.f t287 t288).bind fun t289 => (hypercubelaw04_TruthAlgebra.j1 kj8 t266 t267 (t286 != t289))))))) else (hypercubelaw04_TruthAlgebra.j1 kj8 t266 t267 true)) = some r := H
       have A61 := Aside0.mk A610
       clear A610
       by_cases c62 : t284 = t266
       ·rw [if_pos c62] at H
        have c62b0 : (t284 == t266) = true := beq_iff_eq.mpr c62
        have c62b1 : (t284 != t266) = false := bne_eq_false_iff_eq.mpr c62
        clear c62
        replace H := Option.bind_eq_some_iff.mp H
        obtain ⟨t285, A630, H⟩ := H
        replace H : ((truth_Meet.f t266 t285).bind fun t286 => ((truth_Meet.f t266 t267).bind fun t287 => ((truth_Meet.f t266 t268).bind fun t288 => ((truth_Join.f t287 t288).bind fun t289 => (hypercubelaw04_TruthAlgebra.j1 kj8 t266 t267 (t286 != t289)))))) = some r := H
        have A63 := Aside0.mk A630
        clear A630
        replace H := Option.bind_eq_some_iff.mp H
        obtain ⟨t286, A640, H⟩ := H
        replace H : ((truth_Meet.f t266 t267).bind fun t287 => ((truth_Meet.f t266 t268).bind fun t288 => ((truth_Join.f t287 t288).bind fun t289 => (hypercubelaw04_TruthAlgebra.j1 kj8 t266 t267 (t286 != t289))))) = some r := H
        have A64 := Aside0.mk A640
        clear A640
        replace H := Option.bind_eq_some_iff.mp H
        obtain ⟨t287, A650, H⟩ := H
        replace H : ((truth_Meet.f t266 t268).bind fun t288 => ((truth_Join.f t287 t288).bind fun t289 => (hypercubelaw04_TruthAlgebra.j1 kj8 t266 t267 (t286 != t289)))) = some r := H
        have A65 := Aside0.mk A650
        clear A650
        replace H := Option.bind_eq_some_iff.mp H
        obtain ⟨t288, A660, H⟩ := H
        replace H : ((truth_Join.f t287 t288).bind fun t289 => (hypercubelaw04_TruthAlgebra.j1 kj8 t266 t267 (t286 != t289))) = some r := H
        have A66 := Aside0.mk A660
        clear A660
        replace H := Option.bind_eq_some_iff.mp H
        obtain ⟨t289, A670, H⟩ := H
        replace H : (hypercubelaw04_TruthAlgebra.j1 kj8 t266 t267 (t286 != t289)) = some r := H
        have A67 := Aside0.mk A670
        clear A670
        have H' := Aside0.mk H
        clear H
        obtain rfl := Option.some.inj (A60.out.symm.trans A65.out)
        go_wp2_with (first | ((with_reducible refine gate_callee (f := 16) rfl ?_); refine goesL_ (some 60) rfl rfl Tryd.func16 (by kernel_rfl) rfl #[.int .i64 t266, .int .i64 t267] rfl (by (try simp only [List.map_toArray, List.map_cons, List.map_nil]); first | done | rfl | (simp only [List.length_drop, List.length_take]; rfl)) ?_; (with_reducible refine (truth_Join.calls (HT := ⟨TabT.below HT.out (by repeat (first | (with_reducible first | exact HB.out | apply below_alloc | apply pw_below_drewN | apply below_drew1) | exact HB.out))⟩) t266 t267 t281 _ A57.out).mono ?_); rintro e w68 ⟨rfl, hb⟩; refine ⟨_, rfl, ?_⟩; have n0_ := Aside0.mk (below_step (by repeat (first | (with_reducible first | exact HB.out | apply below_alloc | apply pw_below_drewN | apply below_drew1) | exact HB.out)) hb); clear HB; have HB := n0_; clear n0_; (try clear hb); (try clear hb2); (try clear hk); (try clear hi)) | ((with_reducible refine gate_callee (f := 14) rfl ?_); refine goesL_ (some 61) rfl rfl Tryd.func14 (by kernel_rfl) rfl #[.int .i64 t266, .int .i64 t281] rfl (by (try simp only [List.map_toArray, List.map_cons, List.map_nil]); first | done | rfl | (simp only [List.length_drop, List.length_take]; rfl)) ?_; (with_reducible refine (truth_Meet.calls (HT := ⟨TabT.below HT.out (by repeat (first | (with_reducible first | exact HB.out | apply below_alloc | apply pw_below_drewN | apply below_drew1) | exact HB.out))⟩) t266 t281 t282 _ A58.out).mono ?_); rintro e w69 ⟨rfl, hb⟩; refine ⟨_, rfl, ?_⟩; have n0_ := Aside0.mk (below_step (by repeat (first | (with_reducible first | exact HB.out | apply below_alloc | apply pw_below_drewN | apply below_drew1) | exact HB.out)) hb); clear HB; have HB := n0_; clear n0_; (try clear hb); (try clear hb2); (try clear hk); (try clear hi)) | (go_at_call 14; (with_reducible refine (truth_Meet.calls (HT := ⟨TabT.below HT.out (by repeat (first | (with_reducible first | exact HB.out | apply below_alloc | apply pw_below_drewN | apply below_drew1) | exact HB.out))⟩) t266 t267 t283 _ A60.out).mono ?_); rintro e w70 ⟨rfl, hb⟩; have n0_ := Aside0.mk (below_step (by repeat (first | (with_reducible first | exact HB.out | apply below_alloc | apply pw_below_drewN | apply below_drew1) | exact HB.out)) hb); clear HB; have HB := n0_; clear n0_; (try clear hb); (try clear hb2); (try clear hk); (try clear hi)) | (go_at_call 16; (with_reducible refine (truth_Join.calls (HT := ⟨TabT.below HT.out (by repeat (first | (with_reducible first | exact HB.out | apply below_alloc | apply pw_below_drewN | apply below_drew1) | exact HB.out))⟩) t266 t283 t284 _ A61.out).mono ?_); rintro e w71 ⟨rfl, hb⟩; have n0_ := Aside0.mk (below_step (by repeat (first | (with_reducible first | exact HB.out | apply below_alloc | apply pw_below_drewN | apply below_drew1) | exact HB.out)) hb); clear HB; have HB := n0_; clear n0_; (try clear hb); (try clear hb2); (try clear hk); (try clear hi)) | (go_at_call 16; (with_reducible refine (truth_Join.calls (HT := ⟨TabT.below HT.out (by repeat (first | (with_reducible first | exact HB.out | apply below_alloc | apply pw_below_drewN | apply below_drew1) | exact HB.out))⟩) t267 t268 t285 _ A63.out).mono ?_); rintro e w72 ⟨rfl, hb⟩; have n0_ := Aside0.mk (below_step (by repeat (first | (with_reducible first | exact HB.out | apply below_alloc | apply pw_below_drewN | apply below_drew1) | exact HB.out)) hb); clear HB; have HB := n0_; clear n0_; (try clear hb); (try clear hb2); (try clear hk); (try clear hi)) | (go_at_call 14; (with_reducible refine (truth_Meet.calls (HT := ⟨TabT.below HT.out (by repeat (first | (with_reducible first | exact HB.out | apply below_alloc | apply pw_below_drewN | apply below_drew1) | exact HB.out))⟩) t266 t285 t286 _ A64.out).mono ?_); rintro e w73 ⟨rfl, hb⟩; have n0_ := Aside0.mk (below_step (by repeat (first | (with_reducible first | exact HB.out | apply below_alloc | apply pw_below_drewN | apply below_drew1) | exact HB.out)) hb); clear HB; have HB := n0_; clear n0_; (try clear hb); (try clear hb2); (try clear hk); (try clear hi)) | (go_at_call 14; (with_reducible refine (truth_Meet.calls (HT := ⟨TabT.below HT.out (by repeat (first | (with_reducible first | exact HB.out | apply below_alloc | apply pw_below_drewN | apply below_drew1) | exact HB.out))⟩) t266 t267 t283 _ A65.out).mono ?_); rintro e w74 ⟨rfl, hb⟩; have n0_ := Aside0.mk (below_step (by repeat (first | (with_reducible first | exact HB.out | apply below_alloc | apply pw_below_drewN | apply below_drew1) | exact HB.out)) hb); clear HB; have HB := n0_; clear n0_; (try clear hb); (try clear hb2); (try clear hk); (try clear hi)) | (go_at_call 14; (with_reducible refine (truth_Meet.calls (HT := ⟨TabT.below HT.out (by repeat (first | (with_reducible first | exact HB.out | apply below_alloc | apply pw_below_drewN | apply below_drew1) | exact HB.out))⟩) t266 t268 t288 _ A66.out).mono ?_); rintro e w75 ⟨rfl, hb⟩; have n0_ := Aside0.mk (below_step (by repeat (first | (with_reducible first | exact HB.out | apply below_alloc | apply pw_below_drewN | apply below_drew1) | exact HB.out)) hb); clear HB; have HB := n0_; clear n0_; (try clear hb); (try clear hb2); (try clear hk); (try clear hi)) | (go_at_call 16; (with_reducible refine (truth_Join.calls (HT := ⟨TabT.below HT.out (by repeat (first | (with_reducible first | exact HB.out | apply below_alloc | apply pw_below_drewN | apply below_drew1) | exact HB.out))⟩) t283 t288 t289 _ A67.out).mono ?_); rintro e w76 ⟨rfl, hb⟩; have n0_ := Aside0.mk (below_step (by repeat (first | (with_reducible first | exact HB.out | apply below_alloc | apply pw_below_drewN | apply below_drew1) | exact HB.out)) hb); clear HB; have HB := n0_; clear n0_; (try clear hb); (try clear hb2); (try clear hk); (try clear hi)))
        go_meet
        case rel => exact ⟨_, ((t286 != t289)), (by first | rfl | (simp; done) | (simp [*]; done)), H', ⟨by have := HJ8.out; first | omega | exact Nat.le_refl _⟩, ⟨by repeat (first | (with_reducible first | exact HB.out | apply below_alloc | apply pw_below_drewN | apply below_drew1) | exact HB.out)⟩⟩
       ·rw [if_neg c62] at H
        have c62b0 : (t284 == t266) = false := beq_eq_false_iff_ne.mpr c62
        have c62b1 : (t284 != t266) = true := bne_iff_ne.mpr c62
        have H' := Aside0.mk H
        clear H
        go_wp2_with (first | ((with_reducible refine gate_callee (f := 16) rfl ?_); refine goesL_ (some 60) rfl rfl Tryd.func16 (by kernel_rfl) rfl #[.int .i64 t266, .int .i64 t267] rfl (by (try simp only [List.map_toArray, List.map_cons, List.map_nil]); first | done | rfl | (simp only [List.length_drop, List.length_take]; rfl)) ?_; (with_reducible refine (truth_Join.calls (HT := ⟨TabT.below HT.out (by repeat (first | (with_reducible first | exact HB.out | apply below_alloc | apply pw_below_drewN | apply below_drew1) | exact HB.out))⟩) t266 t267 t281 _ A57.out).mono ?_); rintro e w77 ⟨rfl, hb⟩; refine ⟨_, rfl, ?_⟩; have n0_ := Aside0.mk (below_step (by repeat (first | (with_reducible first | exact HB.out | apply below_alloc | apply pw_below_drewN | apply below_drew1) | exact HB.out)) hb); clear HB; have HB := n0_; clear n0_; (try clear hb); (try clear hb2); (try clear hk); (try clear hi)) | ((with_reducible refine gate_callee (f := 14) rfl ?_); refine goesL_ (some 61) rfl rfl Tryd.func14 (by kernel_rfl) rfl #[.int .i64 t266, .int .i64 t281] rfl (by (try simp only [List.map_toArray, List.map_cons, List.map_nil]); first | done | rfl | (simp only [List.length_drop, List.length_take]; rfl)) ?_; (with_reducible refine (truth_Meet.calls (HT := ⟨TabT.below HT.out (by repeat (first | (with_reducible first | exact HB.out | apply below_alloc | apply pw_below_drewN | apply below_drew1) | exact HB.out))⟩) t266 t281 t282 _ A58.out).mono ?_); rintro e w78 ⟨rfl, hb⟩; refine ⟨_, rfl, ?_⟩; have n0_ := Aside0.mk (below_step (by repeat (first | (with_reducible first | exact HB.out | apply below_alloc | apply pw_below_drewN | apply below_drew1) | exact HB.out)) hb); clear HB; have HB := n0_; clear n0_; (try clear hb); (try clear hb2); (try clear hk); (try clear hi)) | (go_at_call 14; (with_reducible refine (truth_Meet.calls (HT := ⟨TabT.below HT.out (by repeat (first | (with_reducible first | exact HB.out | apply below_alloc | apply pw_below_drewN | apply below_drew1) | exact HB.out))⟩) t266 t267 t283 _ A60.out).mono ?_); rintro e w79 ⟨rfl, hb⟩; have n0_ := Aside0.mk (below_step (by repeat (first | (with_reducible first | exact HB.out | apply below_alloc | apply pw_below_drewN | apply below_drew1) | exact HB.out)) hb); clear HB; have HB := n0_; clear n0_; (try clear hb); (try clear hb2); (try clear hk); (try clear hi)) | (go_at_call 16; (with_reducible refine (truth_Join.calls (HT := ⟨TabT.below HT.out (by repeat (first | (with_reducible first | exact HB.out | apply below_alloc | apply pw_below_drewN | apply below_drew1) | exact HB.out))⟩) t266 t283 t284 _ A61.out).mono ?_); rintro e w80 ⟨rfl, hb⟩; have n0_ := Aside0.mk (below_step (by repeat (first | (with_reducible first | exact HB.out | apply below_alloc | apply pw_below_drewN | apply below_drew1) | exact HB.out)) hb); clear HB; have HB := n0_; clear n0_; (try clear hb); (try clear hb2); (try clear hk); (try clear hi)))
        go_meet
        case rel => exact ⟨_, (true), (by first | rfl | (simp; done) | (simp [*]; done)), H', ⟨by have := HJ8.out; first | omega | exact Nat.le_refl _⟩, ⟨by repeat (first | (with_reducible first | exact HB.out | apply below_alloc | apply pw_below_drewN | apply below_drew1) | exact HB.out)⟩⟩
      ·rw [if_neg c59] at H
       have c59b0 : (t282 == t266) = false := beq_eq_false_iff_ne.mpr c59
       have c59b1 : (t282 != t266) = true := bne_iff_ne.mpr c59
       (first | rw [c59b0] | (simp only [i64_w, i32_w]; rw [c59b0]) | skip)
       have H' := Aside0.mk H
       clear H
       go_wp2_with (first | ((with_reducible refine gate_callee (f := 16) rfl ?_); refine goesL_ (some 60) rfl rfl Tryd.func16 (by kernel_rfl) rfl #[.int .i64 t266, .int .i64 t267] rfl (by (try simp only [List.map_toArray, List.map_cons, List.map_nil]); first | done | rfl | (simp only [List.length_drop, List.length_take]; rfl)) ?_; (with_reducible refine (truth_Join.calls (HT := ⟨TabT.below HT.out (by repeat (first | (with_reducible first | exact HB.out | apply below_alloc | apply pw_below_drewN | apply below_drew1) | exact HB.out))⟩) t266 t267 t281 _ A57.out).mono ?_); rintro e w81 ⟨rfl, hb⟩; refine ⟨_, rfl, ?_⟩; have n0_ := Aside0.mk (below_step (by repeat (first | (with_reducible first | exact HB.out | apply below_alloc | apply pw_below_drewN | apply below_drew1) | exact HB.out)) hb); clear HB; have HB := n0_; clear n0_; (try clear hb); (try clear hb2); (try clear hk); (try clear hi)) | ((with_reducible refine gate_callee (f := 14) rfl ?_); refine goesL_ (some 61) rfl rfl Tryd.func14 (by kernel_rfl) rfl #[.int .i64 t266, .int .i64 t281] rfl (by (try simp only [List.map_toArray, List.map_cons, List.map_nil]); first | done | rfl | (simp only [List.length_drop, List.length_take]; rfl)) ?_; (with_reducible refine (truth_Meet.calls (HT := ⟨TabT.below HT.out (by repeat (first | (with_reducible first | exact HB.out | apply below_alloc | apply pw_below_drewN | apply below_drew1) | exact HB.out))⟩) t266 t281 t282 _ A58.out).mono ?_); rintro e w82 ⟨rfl, hb⟩; refine ⟨_, rfl, ?_⟩; have n0_ := Aside0.mk (below_step (by repeat (first | (with_reducible first | exact HB.out | apply below_alloc | apply pw_below_drewN | apply below_drew1) | exact HB.out)) hb); clear HB; have HB := n0_; clear n0_; (try clear hb); (try clear hb2); (try clear hk); (try clear hi)))
       go_meet
       case rel => exact ⟨_, (true), (by first | rfl | (simp; done) | (simp [*]; done)), H', ⟨by have := HJ8.out; first | omega | exact Nat.le_refl _⟩, ⟨by repeat (first | (with_reducible first | exact HB.out | apply below_alloc | apply pw_below_drewN | apply below_drew1) | exact HB.out)⟩⟩
     case rest =>
      clear HC56
      try clear c1
      try clear c2
      try clear p2
      try clear c5
      try clear c6
      try clear c14
      try clear c16
      try clear c16b0
      try clear c16b1
      try clear c19
      try clear c19b0
      try clear c19b1
      try clear c20
      try clear c24
      try clear c24b0
      try clear c24b1
      try clear c55
      try clear c59
      try clear c59b0
      try clear c59b1
      try clear c62
      try clear c62b0
      try clear c62b1
      try clear p2
      obtain ⟨kq, x87_55, rfl, HA, HJ55, HB⟩ := hcut
      cases kq with
      | zero => exact absurd HA.out (by simp [hypercubelaw04_TruthAlgebra.j1])
      | succ kj55 =>
       have H := HA.out
       clear HA
       simp only [hypercubelaw04_TruthAlgebra.j1] at H
       by_cases c83 : x87_55 = true
       ·subst c83
        have H1 : (some false) = some r := by rw [if_pos rfl] at H; exact H
        clear H
        have H := H1
        clear H1
        obtain rfl := Option.some.inj H
        go_wp2
        go_ret
        exact ⟨by first | rfl | (simp [errW_none, errW_some] <;> rfl) | (simp [*, errW_none, errW_some] <;> rfl), by repeat (first | (with_reducible first | exact HB.out | apply below_alloc | apply pw_below_drewN | apply below_drew1) | exact HB.out)⟩
       ·replace c83 := Bool.eq_false_iff.mpr c83
        subst c83
        have H1 : ((truth_Not.f t266).bind fun t290 => ((truth_Not.f t290).bind fun t291 => (if t291 = t266 then ((truth_Meet.f t266 t267).bind fun t292 => ((truth_Not.f t292).bind fun t293 => ((truth_Not.f t266).bind fun t294 => ((truth_Not.f t267).bind fun t295 => ((truth_Join.f t294 t295).bind fun t296 => (if t293 = t296 then ((truth_Not.f 0).bind fun t297 => (some (t297 == 1))) else (some false))))))) else (some false)))) = some r := by rw [if_neg (show ¬ (false = true) by decide)] at H; exact H
        clear H
        have H := H1
        clear H1
        replace H := Option.bind_eq_some_iff.mp H
        obtain ⟨t290, A840, H⟩ := H
        replace H : ((truth_Not.f t290).bind fun t291 => (if t291 = t266 then ((truth_Meet.f t266 t267).bind fun t292 => ((truth_Not.f t292).bind fun t293 => ((truth_Not.f t266).bind fun t294 => ((truth_Not.f t267).bind fun t295 => ((truth_Join.f t294 t295).bind fun t296 => (if t293 = t296 then ((truth_Not.f 0).bind fun t297 => (some (t297 == 1))) else (some false))))))) else (some false))) = some r := H
        have A84 := Aside0.mk A840
        clear A840
        replace H := Option.bind_eq_some_iff.mp H
        obtain ⟨t291, A850, H⟩ := H
        replace H : (if t291 = t266 then ((truth_Meet.f t266 t267).bind fun t292 => ((truth_Not.f t292).bind fun t293 => ((truth_Not.f t266).bind fun t294 => ((truth_Not.f t267).bind fun t295 => ((truth_Join.f t294 t295).bind fun t296 => (if t293 = t296 then ((truth_Not.f 0).bind fun t297 => (some (t297 == 1))) else (some false))))))) else (some false)) = some r := H
        have A85 := Aside0.mk A850
        clear A850
        by_cases c86 : t291 = t266
        ·rw [if_pos c86] at H
         have c86b0 : (t291 == t266) = true := beq_iff_eq.mpr c86
         have c86b1 : (t291 != t266) = false := bne_eq_false_iff_eq.mpr c86
         clear c86
         replace H := Option.bind_eq_some_iff.mp H
         obtain ⟨t292, A870, H⟩ := H
         replace H : ((truth_Not.f t292).bind fun t293 => ((truth_Not.f t266).bind fun t294 => ((truth_Not.f t267).bind fun t295 => ((truth_Join.f t294 t295).bind fun t296 => (if t293 = t296 then ((truth_Not.f 0).bind fun t297 => (some (t297 == 1))) else (some false)))))) = some r := H
         have A87 := Aside0.mk A870
         clear A870
         replace H := Option.bind_eq_some_iff.mp H
         obtain ⟨t293, A880, H⟩ := H
         replace H : ((truth_Not.f t266).bind fun t294 => ((truth_Not.f t267).bind fun t295 => ((truth_Join.f t294 t295).bind fun t296 => (if t293 = t296 then ((truth_Not.f 0).bind fun t297 => (some (t297 == 1))) else (some false))))) = some r := H
         have A88 := Aside0.mk A880
         clear A880
         replace H := Option.bind_eq_some_iff.mp H
         obtain ⟨t294, A890, H⟩ := H
         replace H : ((truth_Not.f t267).bind fun t295 => ((truth_Join.f t294 t295).bind fun t296 => (if t293 = t296 then ((truth_Not.f 0).bind fun t297 => (some (t297 == 1))) else (some false)))) = some r := H
         have A89 := Aside0.mk A890
         clear A890
         replace H := Option.bind_eq_some_iff.mp H
         obtain ⟨t295, A900, H⟩ := H
         replace H : ((truth_Join.f t294 t295).bind fun t296 => (if t293 = t296 then ((truth_Not.f 0).bind fun t297 => (some (t297 == 1))) else (some false))) = some r := H
         have A90 := Aside0.mk A900
         clear A900
         replace H := Option.bind_eq_some_iff.mp H
         obtain ⟨t296, A910, H⟩ := H
         replace H : (if t293 = t296 then ((truth_Not.f 0).bind fun t297 => (some (t297 == 1))) else (some false)) = some r := H
         have A91 := Aside0.mk A910
         clear A910
         by_cases c92 : t293 = t296
         ·rw [if_pos c92] at H
          have c92b0 : (t293 == t296) = true := beq_iff_eq.mpr c92
          have c92b1 : (t293 != t296) = false := bne_eq_false_iff_eq.mpr c92
          clear c92
          replace H := Option.bind_eq_some_iff.mp H
          obtain ⟨t297, A930, H⟩ := H
          replace H : (some (t297 == 1)) = some r := H
          have A93 := Aside0.mk A930
          clear A930
          obtain rfl := Option.some.inj H
          obtain rfl := Option.some.inj (A84.out.symm.trans A89.out)
          go_wp2_with (first | ((with_reducible refine gate_callee (f := 18) rfl ?_); refine goesL_ (some 89) rfl rfl Tryd.func18 (by kernel_rfl) rfl #[.int .i64 t266] rfl (by (try simp only [List.map_toArray, List.map_cons, List.map_nil]); first | done | rfl | (simp only [List.length_drop, List.length_take]; rfl)) ?_; (with_reducible refine (truth_Not.calls (HT := ⟨TabT.below HT.out (by repeat (first | (with_reducible first | exact HB.out | apply below_alloc | apply pw_below_drewN | apply below_drew1) | exact HB.out))⟩) t266 t290 _ A84.out).mono ?_); rintro e w94 ⟨rfl, hb⟩; refine ⟨_, rfl, ?_⟩; have n0_ := Aside0.mk (below_step (by repeat (first | (with_reducible first | exact HB.out | apply below_alloc | apply pw_below_drewN | apply below_drew1) | exact HB.out)) hb); clear HB; have HB := n0_; clear n0_; (try clear hb); (try clear hb2); (try clear hk); (try clear hi)) | ((with_reducible refine gate_callee (f := 18) rfl ?_); refine goesL_ (some 90) rfl rfl Tryd.func18 (by kernel_rfl) rfl #[.int .i64 t290] rfl (by (try simp only [List.map_toArray, List.map_cons, List.map_nil]); first | done | rfl | (simp only [List.length_drop, List.length_take]; rfl)) ?_; (with_reducible refine (truth_Not.calls (HT := ⟨TabT.below HT.out (by repeat (first | (with_reducible first | exact HB.out | apply below_alloc | apply pw_below_drewN | apply below_drew1) | exact HB.out))⟩) t290 t291 _ A85.out).mono ?_); rintro e w95 ⟨rfl, hb⟩; refine ⟨_, rfl, ?_⟩; have n0_ := Aside0.mk (below_step (by repeat (first | (with_reducible first | exact HB.out | apply below_alloc | apply pw_below_drewN | apply below_drew1) | exact HB.out)) hb); clear HB; have HB := n0_; clear n0_; (try clear hb); (try clear hb2); (try clear hk); (try clear hi)) | (go_at_call 14; (with_reducible refine (truth_Meet.calls (HT := ⟨TabT.below HT.out (by repeat (first | (with_reducible first | exact HB.out | apply below_alloc | apply pw_below_drewN | apply below_drew1) | exact HB.out))⟩) t266 t267 t292 _ A87.out).mono ?_); rintro e w96 ⟨rfl, hb⟩; have n0_ := Aside0.mk (below_step (by repeat (first | (with_reducible first | exact HB.out | apply below_alloc | apply pw_below_drewN | apply below_drew1) | exact HB.out)) hb); clear HB; have HB := n0_; clear n0_; (try clear hb); (try clear hb2); (try clear hk); (try clear hi)) | (go_at_call 18; (with_reducible refine (truth_Not.calls (HT := ⟨TabT.below HT.out (by repeat (first | (with_reducible first | exact HB.out | apply below_alloc | apply pw_below_drewN | apply below_drew1) | exact HB.out))⟩) t292 t293 _ A88.out).mono ?_); rintro e w97 ⟨rfl, hb⟩; have n0_ := Aside0.mk (below_step (by repeat (first | (with_reducible first | exact HB.out | apply below_alloc | apply pw_below_drewN | apply below_drew1) | exact HB.out)) hb); clear HB; have HB := n0_; clear n0_; (try clear hb); (try clear hb2); (try clear hk); (try clear hi)) | (go_at_call 18; (with_reducible refine (truth_Not.calls (HT := ⟨TabT.below HT.out (by repeat (first | (with_reducible first | exact HB.out | apply below_alloc | apply pw_below_drewN | apply below_drew1) | exact HB.out))⟩) t266 t290 _ A89.out).mono ?_); rintro e w98 ⟨rfl, hb⟩; have n0_ := Aside0.mk (below_step (by repeat (first | (with_reducible first | exact HB.out | apply below_alloc | apply pw_below_drewN | apply below_drew1) | exact HB.out)) hb); clear HB; have HB := n0_; clear n0_; (try clear hb); (try clear hb2); (try clear hk); (try clear hi)) | (go_at_call 18; (with_reducible refine (truth_Not.calls (HT := ⟨TabT.below HT.out (by repeat (first | (with_reducible first | exact HB.out | apply below_alloc | apply pw_below_drewN | apply below_drew1) | exact HB.out))⟩) t267 t295 _ A90.out).mono ?_); rintro e w99 ⟨rfl, hb⟩; have n0_ := Aside0.mk (below_step (by repeat (first | (with_reducible first | exact HB.out | apply below_alloc | apply pw_below_drewN | apply below_drew1) | exact HB.out)) hb); clear HB; have HB := n0_; clear n0_; (try clear hb); (try clear hb2); (try clear hk); (try clear hi)) | (go_at_call 16; (with_reducible refine (truth_Join.calls (HT := ⟨TabT.below HT.out (by repeat (first | (with_reducible first | exact HB.out | apply below_alloc | apply pw_below_drewN | apply below_drew1) | exact HB.out))⟩) t290 t295 t296 _ A91.out).mono ?_); rintro e w100 ⟨rfl, hb⟩; have n0_ := Aside0.mk (below_step (by repeat (first | (with_reducible first | exact HB.out | apply below_alloc | apply pw_below_drewN | apply below_drew1) | exact HB.out)) hb); clear HB; have HB := n0_; clear n0_; (try clear hb); (try clear hb2); (try clear hk); (try clear hi)) | (go_at_call 18; (with_reducible refine (truth_Not.calls (HT := ⟨TabT.below HT.out (by repeat (first | (with_reducible first | exact HB.out | apply below_alloc | apply pw_below_drewN | apply below_drew1) | exact HB.out))⟩) 0 t297 _ A93.out).mono ?_); rintro e w101 ⟨rfl, hb⟩; have n0_ := Aside0.mk (below_step (by repeat (first | (with_reducible first | exact HB.out | apply below_alloc | apply pw_below_drewN | apply below_drew1) | exact HB.out)) hb); clear HB; have HB := n0_; clear n0_; (try clear hb); (try clear hb2); (try clear hk); (try clear hi)))
          go_ret
          exact ⟨by first | rfl | (simp [errW_none, errW_some] <;> rfl) | (simp [*, errW_none, errW_some] <;> rfl), by repeat (first | (with_reducible first | exact HB.out | apply below_alloc | apply pw_below_drewN | apply below_drew1) | exact HB.out)⟩
         ·rw [if_neg c92] at H
          have c92b0 : (t293 == t296) = false := beq_eq_false_iff_ne.mpr c92
          have c92b1 : (t293 != t296) = true := bne_iff_ne.mpr c92
          obtain rfl := Option.some.inj H
          obtain rfl := Option.some.inj (A84.out.symm.trans A89.out)
          go_wp2_with (first | ((with_reducible refine gate_callee (f := 18) rfl ?_); refine goesL_ (some 89) rfl rfl Tryd.func18 (by kernel_rfl) rfl #[.int .i64 t266] rfl (by (try simp only [List.map_toArray, List.map_cons, List.map_nil]); first | done | rfl | (simp only [List.length_drop, List.length_take]; rfl)) ?_; (with_reducible refine (truth_Not.calls (HT := ⟨TabT.below HT.out (by repeat (first | (with_reducible first | exact HB.out | apply below_alloc | apply pw_below_drewN | apply below_drew1) | exact HB.out))⟩) t266 t290 _ A84.out).mono ?_); rintro e w102 ⟨rfl, hb⟩; refine ⟨_, rfl, ?_⟩; have n0_ := Aside0.mk (below_step (by repeat (first | (with_reducible first | exact HB.out | apply below_alloc | apply pw_below_drewN | apply below_drew1) | exact HB.out)) hb); clear HB; have HB := n0_; clear n0_; (try clear hb); (try clear hb2); (try clear hk); (try clear hi)) | ((with_reducible refine gate_callee (f := 18) rfl ?_); refine goesL_ (some 90) rfl rfl Tryd.func18 (by kernel_rfl) rfl #[.int .i64 t290] rfl (by (try simp only [List.map_toArray, List.map_cons, List.map_nil]); first | done | rfl | (simp only [List.length_drop, List.length_take]; rfl)) ?_; (with_reducible refine (truth_Not.calls (HT := ⟨TabT.below HT.out (by repeat (first | (with_reducible first | exact HB.out | apply below_alloc | apply pw_below_drewN | apply below_drew1) | exact HB.out))⟩) t290 t291 _ A85.out).mono ?_); rintro e w103 ⟨rfl, hb⟩; refine ⟨_, rfl, ?_⟩; have n0_ := Aside0.mk (below_step (by repeat (first | (with_reducible first | exact HB.out | apply below_alloc | apply pw_below_drewN | apply below_drew1) | exact HB.out)) hb); clear HB; have HB := n0_; clear n0_; (try clear hb); (try clear hb2); (try clear hk); (try clear hi)) | (go_at_call 14; (with_reducible refine (truth_Meet.calls (HT := ⟨TabT.below HT.out (by repeat (first | (with_reducible first | exact HB.out | apply below_alloc | apply pw_below_drewN | apply below_drew1) | exact HB.out))⟩) t266 t267 t292 _ A87.out).mono ?_); rintro e w104 ⟨rfl, hb⟩; have n0_ := Aside0.mk (below_step (by repeat (first | (with_reducible first | exact HB.out | apply below_alloc | apply pw_below_drewN | apply below_drew1) | exact HB.out)) hb); clear HB; have HB := n0_; clear n0_; (try clear hb); (try clear hb2); (try clear hk); (try clear hi)) | (go_at_call 18; (with_reducible refine (truth_Not.calls (HT := ⟨TabT.below HT.out (by repeat (first | (with_reducible first | exact HB.out | apply below_alloc | apply pw_below_drewN | apply below_drew1) | exact HB.out))⟩) t292 t293 _ A88.out).mono ?_); rintro e w105 ⟨rfl, hb⟩; have n0_ := Aside0.mk (below_step (by repeat (first | (with_reducible first | exact HB.out | apply below_alloc | apply pw_below_drewN | apply below_drew1) | exact HB.out)) hb); clear HB; have HB := n0_; clear n0_; (try clear hb); (try clear hb2); (try clear hk); (try clear hi)) | (go_at_call 18; (with_reducible refine (truth_Not.calls (HT := ⟨TabT.below HT.out (by repeat (first | (with_reducible first | exact HB.out | apply below_alloc | apply pw_below_drewN | apply below_drew1) | exact HB.out))⟩) t266 t290 _ A89.out).mono ?_); rintro e w106 ⟨rfl, hb⟩; have n0_ := Aside0.mk (below_step (by repeat (first | (with_reducible first | exact HB.out | apply below_alloc | apply pw_below_drewN | apply below_drew1) | exact HB.out)) hb); clear HB; have HB := n0_; clear n0_; (try clear hb); (try clear hb2); (try clear hk); (try clear hi)) | (go_at_call 18; (with_reducible refine (truth_Not.calls (HT := ⟨TabT.below HT.out (by repeat (first | (with_reducible first | exact HB.out | apply below_alloc | apply pw_below_drewN | apply below_drew1) | exact HB.out))⟩) t267 t295 _ A90.out).mono ?_); rintro e w107 ⟨rfl, hb⟩; have n0_ := Aside0.mk (below_step (by repeat (first | (with_reducible first | exact HB.out | apply below_alloc | apply pw_below_drewN | apply below_drew1) | exact HB.out)) hb); clear HB; have HB := n0_; clear n0_; (try clear hb); (try clear hb2); (try clear hk); (try clear hi)) | (go_at_call 16; (with_reducible refine (truth_Join.calls (HT := ⟨TabT.below HT.out (by repeat (first | (with_reducible first | exact HB.out | apply below_alloc | apply pw_below_drewN | apply below_drew1) | exact HB.out))⟩) t290 t295 t296 _ A91.out).mono ?_); rintro e w108 ⟨rfl, hb⟩; have n0_ := Aside0.mk (below_step (by repeat (first | (with_reducible first | exact HB.out | apply below_alloc | apply pw_below_drewN | apply below_drew1) | exact HB.out)) hb); clear HB; have HB := n0_; clear n0_; (try clear hb); (try clear hb2); (try clear hk); (try clear hi)))
          go_ret
          exact ⟨by first | rfl | (simp [errW_none, errW_some] <;> rfl) | (simp [*, errW_none, errW_some] <;> rfl), by repeat (first | (with_reducible first | exact HB.out | apply below_alloc | apply pw_below_drewN | apply below_drew1) | exact HB.out)⟩
        ·rw [if_neg c86] at H
         have c86b0 : (t291 == t266) = false := beq_eq_false_iff_ne.mpr c86
         have c86b1 : (t291 != t266) = true := bne_iff_ne.mpr c86
         obtain rfl := Option.some.inj H
         go_wp2_with (first | ((with_reducible refine gate_callee (f := 18) rfl ?_); refine goesL_ (some 89) rfl rfl Tryd.func18 (by kernel_rfl) rfl #[.int .i64 t266] rfl (by (try simp only [List.map_toArray, List.map_cons, List.map_nil]); first | done | rfl | (simp only [List.length_drop, List.length_take]; rfl)) ?_; (with_reducible refine (truth_Not.calls (HT := ⟨TabT.below HT.out (by repeat (first | (with_reducible first | exact HB.out | apply below_alloc | apply pw_below_drewN | apply below_drew1) | exact HB.out))⟩) t266 t290 _ A84.out).mono ?_); rintro e w109 ⟨rfl, hb⟩; refine ⟨_, rfl, ?_⟩; have n0_ := Aside0.mk (below_step (by repeat (first | (with_reducible first | exact HB.out | apply below_alloc | apply pw_below_drewN | apply below_drew1) | exact HB.out)) hb); clear HB; have HB := n0_; clear n0_; (try clear hb); (try clear hb2); (try clear hk); (try clear hi)) | ((with_reducible refine gate_callee (f := 18) rfl ?_); refine goesL_ (some 90) rfl rfl Tryd.func18 (by kernel_rfl) rfl #[.int .i64 t290] rfl (by (try simp only [List.map_toArray, List.map_cons, List.map_nil]); first | done | rfl | (simp only [List.length_drop, List.length_take]; rfl)) ?_; (with_reducible refine (truth_Not.calls (HT := ⟨TabT.below HT.out (by repeat (first | (with_reducible first | exact HB.out | apply below_alloc | apply pw_below_drewN | apply below_drew1) | exact HB.out))⟩) t290 t291 _ A85.out).mono ?_); rintro e w110 ⟨rfl, hb⟩; refine ⟨_, rfl, ?_⟩; have n0_ := Aside0.mk (below_step (by repeat (first | (with_reducible first | exact HB.out | apply below_alloc | apply pw_below_drewN | apply below_drew1) | exact HB.out)) hb); clear HB; have HB := n0_; clear n0_; (try clear hb); (try clear hb2); (try clear hk); (try clear hi)))
         go_ret
         exact ⟨by first | rfl | (simp [errW_none, errW_some] <;> rfl) | (simp [*, errW_none, errW_some] <;> rfl), by repeat (first | (with_reducible first | exact HB.out | apply below_alloc | apply pw_below_drewN | apply below_drew1) | exact HB.out)⟩
 ·replace c5 := Bool.eq_false_iff.mpr c5
  subst c5
  have H1 : (some false) = some r := by rw [if_neg (show ¬ (false = true) by decide)] at H; exact H
  clear H
  have H := H1
  clear H1
  obtain rfl := Option.some.inj H
  go_enter Tryd.func5, Tryd.ntmps5
  go_wp2_with (first | ((with_reducible refine gate_callee (f := 20) rfl ?_); refine goesL_ (some 7) rfl rfl Tryd.func20 (by kernel_rfl) rfl #[] rfl (by (try simp only [List.map_toArray, List.map_cons, List.map_nil]); first | done | rfl | (simp only [List.length_drop, List.length_take]; rfl)) ?_; (with_reducible refine (hypercubelaw04_works.calls (HT := ⟨TabT.below HT.out (by repeat (first | (with_reducible first | exact HB.out | apply below_alloc | apply pw_below_drewN | apply below_drew1) | exact HB.out))⟩) k  false _ A4.out).mono ?_); rintro e w111 ⟨rfl, hb⟩; refine ⟨_, rfl, ?_⟩; have n0_ := Aside0.mk (below_step (by repeat (first | (with_reducible first | exact HB.out | apply below_alloc | apply pw_below_drewN | apply below_drew1) | exact HB.out)) hb); clear HB; have HB := n0_; clear n0_; (try clear hb); (try clear hb2); (try clear hk); (try clear hi)))
  go_ret
  exact ⟨by first | rfl | (simp [errW_none, errW_some] <;> rfl) | (simp [*, errW_none, errW_some] <;> rfl), by repeat (first | (with_reducible first | exact HB.out | apply below_alloc | apply pw_below_drewN | apply below_drew1) | exact HB.out)⟩

/-- THE ONE PURE STATEMENT of hypercubelaw04_TruthAlgebra: yours. -/
def hypercubelaw04_TruthAlgebra.Pure : Prop := ∀ (a0 : Int) (a1 : Int) (a2 : Int), (Lit.int .i64 a0).wf = true → (Lit.int .i64 a1).wf = true → (Lit.int .i64 a2).wf = true → ∃ k, hypercubelaw04_TruthAlgebra.f k a0 a1 a2 = some true
theorem hypercubelaw04_TruthAlgebra.walk (P : hypercubelaw04_TruthAlgebra.Pure) (a0 : Int) (a1 : Int) (a2 : Int) (w : World) (HT : Aside0 (TabT w)) (w0 : (Lit.int .i64 a0).wf = true) (w1 : (Lit.int .i64 a1).wf = true) (w2 : (Lit.int .i64 a2).wf = true) :
  Calls Tryd.prog 5 #[.int .i64 a0, .int .i64 a1, .int .i64 a2] w fun e w' => e = .returned (.bool true) ∧ Below w.heap.size w w' := by
 obtain ⟨k, h⟩ := P a0 a1 a2 w0 w1 w2
 refine (hypercubelaw04_TruthAlgebra.calls (HT := HT) k a0 a1 a2 true w h).mono ?_
 rintro e w' ⟨rfl, hd⟩
 exact ⟨rfl, hd⟩

/-! ### truth_Same: function 25 -/
def truth_Same.f (k : Nat) (l0 : List (S60)) (l1 : List (S60)) : Option (Bool × Int) := (truth_Tell.f k l0 l1).bind fun bt298 => (if (bt298.1.length : Int) = 0 then (some ((bt298.2 == 0), bt298.2)) else (some (false, bt298.2)))
theorem truth_Same.mono : ∀ a0 a1 k, LeO (truth_Same.f k a0 a1) (truth_Same.f (k + 1) a0 a1) := by
  intro a0 a1 k
  unfold truth_Same.f
  repeat' first
      | (with_reducible exact truth_Tell.mono _ _ _)
      | (with_reducible exact LeO.refl _)
      | (with_reducible exact LeO.none _)
      | (with_reducible refine LeO.ite ?_ ?_)
      | (with_reducible refine LeO.bind ?_ (fun _ => ?_))
      | exact truth_Tell.mono _ _ _
      | exact LeO.none _
      | refine LeO.ite ?_ ?_
      | refine LeO.bind ?_ (fun _ => ?_)
set_option maxHeartbeats 8000000 in
set_option maxRecDepth 100000 in
theorem truth_Same.calls (k : Nat) (A0 : Option Addr) (c0 : Nat) (l0 : List (S60)) (A1 : Option Addr) (c1 : Nat) (l1 : List (S60)) (r1 : Bool) (r2 : Int) (w : World) (HT : Aside0 (TabT w)) (hr0 : Kd.C k60 w A0 l0.length l0) (hc0 : l0.length ≤ c0) (hr1 : Kd.C k60 w A1 l1.length l1) (hc1 : l1.length ≤ c1) (h : truth_Same.f k l0 l1 = some (r1, r2)) :
  Calls Tryd.prog 25 #[.slice A0 l0.length c0, .slice A1 l1.length c1] w fun e w' => e = .returned (.tuple #[.bool r1, .int .i64 r2]) ∧ Below w.heap.size w w' := by
 have HR0 := Aside0.mk hr0
 have HC0 := Aside0.mk hc0
 clear hr0 hc0
 have HR1 := Aside0.mk hr1
 have HC1 := Aside0.mk hc1
 clear hr1 hc1
 have HB := Aside0.mk (Below.refl w.heap.size w)
 have H : ((truth_Tell.f k l0 l1).bind fun bt298 => (if (bt298.1.length : Int) = 0 then (some ((bt298.2 == 0), bt298.2)) else (some (false, bt298.2)))) = some (r1, r2) := h
 clear h
 replace H := Option.bind_eq_some_iff.mp H
 obtain ⟨⟨t298, t299⟩, A30, H⟩ := H
 replace H : (if (t298.length : Int) = 0 then (some ((t299 == 0), t299)) else (some (false, t299))) = some (r1, r2) := H
 have A3 := Aside0.mk A30
 clear A30
 by_cases c4 : (t298.length : Int) = 0
 ·rw [if_pos c4] at H
  have c4b0 : ((t298.length : Int) == 0) = true := beq_iff_eq.mpr c4
  have c4b1 : ((t298.length : Int) != 0) = false := bne_eq_false_iff_eq.mpr c4
  clear c4
  simp only [Option.some.injEq, Prod.mk.injEq] at H
  obtain ⟨rfl, rfl⟩ := H
  go_enter Tryd.func25, Tryd.ntmps25
  go_wp2_with (first | ((with_reducible refine gate_callee (f := 23) rfl ?_); refine goesL_ (some 11) rfl rfl Tryd.func23 (by kernel_rfl) rfl #[.slice A0 l0.length c0, .slice A1 l1.length c1] rfl (by (try simp only [List.map_toArray, List.map_cons, List.map_nil]); first | done | rfl | (simp only [List.length_drop, List.length_take]; rfl)) ?_; (with_reducible refine (truth_Tell.calls (HT := ⟨TabT.below HT.out (by repeat (first | (with_reducible first | exact HB.out | apply below_alloc | apply pw_below_drewN | apply below_drew1) | exact HB.out))⟩) k _ _ l0 _ _ l1 t298 t299 _ ?side1 ?side2 ?side3 ?side4 A3.out).mono ?_); (case side1 => repeat (first | exact HR0.out | (with_reducible refine Kd.C_alloc ?_ _) | (with_reducible refine Kd.C_drewN ?_ _) | (with_reducible refine Kd.C_drew ?_))); (case side2 => exact HC0.out); (case side3 => repeat (first | exact HR1.out | (with_reducible refine Kd.C_alloc ?_ _) | (with_reducible refine Kd.C_drewN ?_ _) | (with_reducible refine Kd.C_drew ?_))); (case side4 => exact HC1.out); rintro e w5 ⟨v300, rfl, ho0, hb⟩; refine ⟨_, rfl, ?_⟩; have n0_ := Aside0.mk (Kd.R_lower ho0 (below_size (by repeat (first | (with_reducible first | exact HB.out | apply below_alloc | apply pw_below_drewN | apply below_drew1) | exact HB.out)))); have n1_ := Aside0.mk (below_step (by repeat (first | (with_reducible first | exact HB.out | apply below_alloc | apply pw_below_drewN | apply below_drew1) | exact HB.out)) hb); clear HB; have HO301 := n0_; have HB := n1_; clear n0_ n1_; (try clear hb); (try clear hb2); (try clear hk); (try clear hi); (try clear ho0); obtain ⟨Ao6, co6, eo6⟩ := Kd.R_slice HO301.out; subst eo6))
  go_ret2
  exact ⟨by first | rfl | (simp [errW_none, errW_some] <;> rfl) | (simp [*, errW_none, errW_some] <;> rfl), by repeat (first | (with_reducible first | exact HB.out | apply below_alloc | apply pw_below_drewN | apply below_drew1) | exact HB.out)⟩
 ·rw [if_neg c4] at H
  have c4b0 : ((t298.length : Int) == 0) = false := beq_eq_false_iff_ne.mpr c4
  have c4b1 : ((t298.length : Int) != 0) = true := bne_iff_ne.mpr c4
  have c4b2 : ¬ (t298 = []) := fun h_ => c4 (by rw [h_]; rfl)
  simp only [Option.some.injEq, Prod.mk.injEq] at H
  obtain ⟨rfl, rfl⟩ := H
  go_enter Tryd.func25, Tryd.ntmps25
  go_wp2_with (first | ((with_reducible refine gate_callee (f := 23) rfl ?_); refine goesL_ (some 11) rfl rfl Tryd.func23 (by kernel_rfl) rfl #[.slice A0 l0.length c0, .slice A1 l1.length c1] rfl (by (try simp only [List.map_toArray, List.map_cons, List.map_nil]); first | done | rfl | (simp only [List.length_drop, List.length_take]; rfl)) ?_; (with_reducible refine (truth_Tell.calls (HT := ⟨TabT.below HT.out (by repeat (first | (with_reducible first | exact HB.out | apply below_alloc | apply pw_below_drewN | apply below_drew1) | exact HB.out))⟩) k _ _ l0 _ _ l1 t298 t299 _ ?side1 ?side2 ?side3 ?side4 A3.out).mono ?_); (case side1 => repeat (first | exact HR0.out | (with_reducible refine Kd.C_alloc ?_ _) | (with_reducible refine Kd.C_drewN ?_ _) | (with_reducible refine Kd.C_drew ?_))); (case side2 => exact HC0.out); (case side3 => repeat (first | exact HR1.out | (with_reducible refine Kd.C_alloc ?_ _) | (with_reducible refine Kd.C_drewN ?_ _) | (with_reducible refine Kd.C_drew ?_))); (case side4 => exact HC1.out); rintro e w7 ⟨v300, rfl, ho0, hb⟩; refine ⟨_, rfl, ?_⟩; have n0_ := Aside0.mk (Kd.R_lower ho0 (below_size (by repeat (first | (with_reducible first | exact HB.out | apply below_alloc | apply pw_below_drewN | apply below_drew1) | exact HB.out)))); have n1_ := Aside0.mk (below_step (by repeat (first | (with_reducible first | exact HB.out | apply below_alloc | apply pw_below_drewN | apply below_drew1) | exact HB.out)) hb); clear HB; have HO301 := n0_; have HB := n1_; clear n0_ n1_; (try clear hb); (try clear hb2); (try clear hk); (try clear hi); (try clear ho0); obtain ⟨Ao8, co8, eo8⟩ := Kd.R_slice HO301.out; subst eo8))
  go_ret2
  exact ⟨by first | rfl | (simp [errW_none, errW_some] <;> rfl) | (simp [*, errW_none, errW_some] <;> rfl), by repeat (first | (with_reducible first | exact HB.out | apply below_alloc | apply pw_below_drewN | apply below_drew1) | exact HB.out)⟩

/-! ### hypercubelaw04_TruthDecides: function 7 -/
def hypercubelaw04_TruthDecides.j0 : Nat → List (S60) → List (S60) → Bool → Option (Bool)
  | 0, _, _, _ => none
  | k + 1, x0, x1, x16 => if x16 = true then (some true) else ((truth_Same.f k x0 x1).bind fun bt303 => (if bt303.2 = 0 then ((hypercuberef02_Same.f k x0 x1).bind fun t305 => (some (bt303.1 == t305))) else (if bt303.1 = true then (some false) else (if bt303.2 = 2 then (some true) else (some (bt303.2 == 3))))))
def hypercubelaw04_TruthDecides.f (k : Nat) (l0 : List (S60)) (l1 : List (S60)) : Option (Bool) := (hypercubelaw04_works.f k).bind fun t302 => (if t302 = true then (if (l0.length : Int) > 80 then (hypercubelaw04_TruthDecides.j0 k l0 l1 true) else (hypercubelaw04_TruthDecides.j0 k l0 l1 (decide ((l1.length : Int) > 80)))) else (some false))
theorem hypercubelaw04_TruthDecides.mono_l : ∀ k, (∀ y0 y1 y2, LeO (hypercubelaw04_TruthDecides.j0 k y0 y1 y2) (hypercubelaw04_TruthDecides.j0 (k + 1) y0 y1 y2))
  | 0 => fun _ _ _ r h => by simp [hypercubelaw04_TruthDecides.j0] at h
  | k + 1 => by
    have ih0 := hypercubelaw04_TruthDecides.mono_l k
    · intro y0 y1 y2
      unfold hypercubelaw04_TruthDecides.j0
      repeat' first
      | (with_reducible exact ih0 _ _ _)
      | (with_reducible exact hypercubelaw04_works.mono _)
      | (with_reducible exact hypercuberef02_Same.mono _ _ _)
      | (with_reducible exact truth_Same.mono _ _ _)
      | (with_reducible exact LeO.refl _)
      | (with_reducible exact LeO.none _)
      | (with_reducible refine LeO.ite ?_ ?_)
      | (with_reducible refine LeO.bind ?_ (fun _ => ?_))
      | exact ih0 _ _ _
      | exact hypercubelaw04_works.mono _
      | exact hypercuberef02_Same.mono _ _ _
      | exact truth_Same.mono _ _ _
      | exact LeO.none _
      | refine LeO.ite ?_ ?_
      | refine LeO.bind ?_ (fun _ => ?_)
theorem hypercubelaw04_TruthDecides.mono : ∀ a0 a1 k, LeO (hypercubelaw04_TruthDecides.f k a0 a1) (hypercubelaw04_TruthDecides.f (k + 1) a0 a1) := by
  intro a0 a1 k
  have ih0 := hypercubelaw04_TruthDecides.mono_l k
  unfold hypercubelaw04_TruthDecides.f
  repeat' first
      | (with_reducible exact ih0 _ _ _)
      | (with_reducible exact hypercubelaw04_works.mono _)
      | (with_reducible exact hypercuberef02_Same.mono _ _ _)
      | (with_reducible exact truth_Same.mono _ _ _)
      | (with_reducible exact LeO.refl _)
      | (with_reducible exact LeO.none _)
      | (with_reducible refine LeO.ite ?_ ?_)
      | (with_reducible refine LeO.bind ?_ (fun _ => ?_))
      | exact ih0 _ _ _
      | exact hypercubelaw04_works.mono _
      | exact hypercuberef02_Same.mono _ _ _
      | exact truth_Same.mono _ _ _
      | exact LeO.none _
      | refine LeO.ite ?_ ?_
      | refine LeO.bind ?_ (fun _ => ?_)
set_option maxHeartbeats 8000000 in
set_option maxRecDepth 100000 in
theorem hypercubelaw04_TruthDecides.calls (k : Nat) (A0 : Option Addr) (c0 : Nat) (l0 : List (S60)) (A1 : Option Addr) (c1 : Nat) (l1 : List (S60)) (r : Bool) (w : World) (HT : Aside0 (TabT w)) (hr_ : Aside0 (r = true)) (hr0 : Kd.C k60 w A0 l0.length l0) (hc0 : l0.length ≤ c0) (hr1 : Kd.C k60 w A1 l1.length l1) (hc1 : l1.length ≤ c1) (h : hypercubelaw04_TruthDecides.f k l0 l1 = some r) :
  Calls Tryd.prog 7 #[.slice A0 l0.length c0, .slice A1 l1.length c1] w fun e w' => e = .returned (.bool r) ∧ Below w.heap.size w w' := by
 have HR0 := Aside0.mk hr0
 have HC0 := Aside0.mk hc0
 clear hr0 hc0
 have HR1 := Aside0.mk hr1
 have HC1 := Aside0.mk hc1
 clear hr1 hc1
 have HB := Aside0.mk (Below.refl w.heap.size w)
 have H : ((hypercubelaw04_works.f k).bind fun t302 => (if t302 = true then (if (l0.length : Int) > 80 then (hypercubelaw04_TruthDecides.j0 k l0 l1 true) else (hypercubelaw04_TruthDecides.j0 k l0 l1 (decide ((l1.length : Int) > 80)))) else (some false))) = some r := h
 clear h
 replace H := Option.bind_eq_some_iff.mp H
 obtain ⟨t302, A30, H⟩ := H
 replace H : (if t302 = true then (if (l0.length : Int) > 80 then (hypercubelaw04_TruthDecides.j0 k l0 l1 true) else (hypercubelaw04_TruthDecides.j0 k l0 l1 (decide ((l1.length : Int) > 80)))) else (some false)) = some r := H
 have A3 := Aside0.mk A30
 clear A30
 by_cases c4 : t302 = true
 ·subst c4
  have H1 : (if (l0.length : Int) > 80 then (hypercubelaw04_TruthDecides.j0 k l0 l1 true) else (hypercubelaw04_TruthDecides.j0 k l0 l1 (decide ((l1.length : Int) > 80)))) = some r := by rw [if_pos rfl] at H; exact H
  clear H
  have H := H1
  clear H1
  have HC5 := Aside0.mk H
  clear H
  go_enter Tryd.func7, Tryd.ntmps7
  go_upto_region 3 with (first | ((with_reducible refine gate_callee (f := 20) rfl ?_); refine goesL_ (some 7) rfl rfl Tryd.func20 (by kernel_rfl) rfl #[] rfl (by (try simp only [List.map_toArray, List.map_cons, List.map_nil]); first | done | rfl | (simp only [List.length_drop, List.length_take]; rfl)) ?_; (with_reducible refine (hypercubelaw04_works.calls (HT := ⟨TabT.below HT.out (by repeat (first | (with_reducible first | exact HB.out | apply below_alloc | apply pw_below_drewN | apply below_drew1) | exact HB.out))⟩) k  true _ A3.out).mono ?_); rintro e w6 ⟨rfl, hb⟩; refine ⟨_, rfl, ?_⟩; have n0_ := Aside0.mk (below_step (by repeat (first | (with_reducible first | exact HB.out | apply below_alloc | apply pw_below_drewN | apply below_drew1) | exact HB.out)) hb); clear HB; have HB := n0_; clear n0_; (try clear hb); (try clear hb2); (try clear hk); (try clear hi)))
  (try simp only [Act.put, List.setIfInBounds_toArray, List.set_cons_zero, List.set_cons_succ])
  go_cut [16] (fun v16 wc => ∃ (kq : Nat) (x16_4 : Bool), v16 = .bool x16_4 ∧ Aside0 (hypercubelaw04_TruthDecides.j0 kq l0 l1 x16_4 = some r) ∧ Aside0 (kq ≤ k) ∧ Aside0 (Below w.heap.size w wc))
  case first =>
   have H := HC5.out
   clear HC5
   by_cases c7 : (l0.length : Int) > 80
   ·rw [if_pos c7] at H
    have c7b0 : decide (80 < (l0.length : Int)) = true := decide_eq_true c7
    have c7b1 : decide (80 < l0.length) = true := decide_eq_true (by omega)
    clear c7
    (first | rw [c7b0] | (simp only [i64_w, i32_w]; rw [c7b0]) | rw [c7b1] | skip)
    have H' := Aside0.mk H
    clear H
    go_wp2
    go_meet
    case rel => exact ⟨_, (true), (by first | rfl | (simp; done) | (simp [*]; done)), H', ⟨by first | omega | exact Nat.le_refl _⟩, ⟨by repeat (first | (with_reducible first | exact HB.out | apply below_alloc | apply pw_below_drewN | apply below_drew1) | exact HB.out)⟩⟩
   ·rw [if_neg c7] at H
    have c7b0 : decide (80 < (l0.length : Int)) = false := decide_eq_false c7
    have c7b1 : decide (80 < l0.length) = false := decide_eq_false (by omega)
    clear c7
    (first | rw [c7b0] | (simp only [i64_w, i32_w]; rw [c7b0]) | rw [c7b1] | skip)
    have H' := Aside0.mk H
    clear H
    go_wp2
    go_meet
    case rel => exact ⟨_, (decide ((l1.length : Int) > 80)), (by first | rfl | (simp; done) | (simp [*]; done)), H', ⟨by first | omega | exact Nat.le_refl _⟩, ⟨by repeat (first | (with_reducible first | exact HB.out | apply below_alloc | apply pw_below_drewN | apply below_drew1) | exact HB.out)⟩⟩
  case rest =>
   clear HC5
   try clear c1
   try clear c2
   try clear p2
   try clear c4
   try clear c7
   try clear c7b0
   try clear c7b1
   obtain ⟨kq, x16_4, rfl, HA, HJ4, HB⟩ := hcut
   cases kq with
   | zero => exact absurd HA.out (by simp [hypercubelaw04_TruthDecides.j0])
   | succ kj4 =>
    have H := HA.out
    clear HA
    simp only [hypercubelaw04_TruthDecides.j0] at H
    by_cases c8 : x16_4 = true
    ·subst c8
     have H1 : (some true) = some r := by rw [if_pos rfl] at H; exact H
     clear H
     have H := H1
     clear H1
     obtain rfl := Option.some.inj H
     go_wp2
     go_ret
     exact ⟨by first | rfl | (simp [errW_none, errW_some] <;> rfl) | (simp [*, errW_none, errW_some] <;> rfl), by repeat (first | (with_reducible first | exact HB.out | apply below_alloc | apply pw_below_drewN | apply below_drew1) | exact HB.out)⟩
    ·replace c8 := Bool.eq_false_iff.mpr c8
     subst c8
     have H1 : ((truth_Same.f kj4 l0 l1).bind fun bt303 => (if bt303.2 = 0 then ((hypercuberef02_Same.f kj4 l0 l1).bind fun t305 => (some (bt303.1 == t305))) else (if bt303.1 = true then (some false) else (if bt303.2 = 2 then (some true) else (some (bt303.2 == 3)))))) = some r := by rw [if_neg (show ¬ (false = true) by decide)] at H; exact H
     clear H
     have H := H1
     clear H1
     replace H := Option.bind_eq_some_iff.mp H
     obtain ⟨⟨t303, t304⟩, A90, H⟩ := H
     replace H : (if t304 = 0 then ((hypercuberef02_Same.f kj4 l0 l1).bind fun t305 => (some (t303 == t305))) else (if t303 = true then (some false) else (if t304 = 2 then (some true) else (some (t304 == 3))))) = some r := H
     have A9 := Aside0.mk A90
     clear A90
     by_cases c10 : t304 = 0
     ·rw [if_pos c10] at H
      have c10b0 : (t304 == 0) = true := beq_iff_eq.mpr c10
      have c10b1 : (t304 != 0) = false := bne_eq_false_iff_eq.mpr c10
      clear c10
      replace H := Option.bind_eq_some_iff.mp H
      obtain ⟨t305, A110, H⟩ := H
      replace H : (some (t303 == t305)) = some r := H
      have A11 := Aside0.mk A110
      clear A110
      obtain rfl := Option.some.inj H
      go_wp2_with (first | ((with_reducible refine gate_callee (f := 25) rfl ?_); refine goesL_ (some 20) rfl rfl Tryd.func25 (by kernel_rfl) rfl #[.slice A0 l0.length c0, .slice A1 l1.length c1] rfl (by (try simp only [List.map_toArray, List.map_cons, List.map_nil]); first | done | rfl | (simp only [List.length_drop, List.length_take]; rfl)) ?_; (with_reducible refine (truth_Same.calls (HT := ⟨TabT.below HT.out (by repeat (first | (with_reducible first | exact HB.out | apply below_alloc | apply pw_below_drewN | apply below_drew1) | exact HB.out))⟩) kj4 _ _ l0 _ _ l1 t303 t304 _ ?side1 ?side2 ?side3 ?side4 A9.out).mono ?_); (case side1 => repeat (first | exact (Kd.C_below HR0.out HB.out) | (with_reducible refine Kd.C_alloc ?_ _) | (with_reducible refine Kd.C_drewN ?_ _) | (with_reducible refine Kd.C_drew ?_))); (case side2 => exact HC0.out); (case side3 => repeat (first | exact (Kd.C_below HR1.out HB.out) | (with_reducible refine Kd.C_alloc ?_ _) | (with_reducible refine Kd.C_drewN ?_ _) | (with_reducible refine Kd.C_drew ?_))); (case side4 => exact HC1.out); rintro e w12 ⟨rfl, hb⟩; refine ⟨_, rfl, ?_⟩; have n0_ := Aside0.mk (below_step (by repeat (first | (with_reducible first | exact HB.out | apply below_alloc | apply pw_below_drewN | apply below_drew1) | exact HB.out)) hb); clear HB; have HB := n0_; clear n0_; (try clear hb); (try clear hb2); (try clear hk); (try clear hi)) | ((with_reducible refine gate_callee (f := 27) rfl ?_); refine goesL_ (some 38) rfl rfl Tryd.func27 (by kernel_rfl) rfl #[.slice A0 l0.length c0, .slice A1 l1.length c1] rfl (by (try simp only [List.map_toArray, List.map_cons, List.map_nil]); first | done | rfl | (simp only [List.length_drop, List.length_take]; rfl)) ?_; (with_reducible refine (hypercuberef02_Same.calls kj4 _ _ l0 _ _ l1 t305 _ ?side1 ?side2 ?side3 ?side4 A11.out).mono ?_); (case side1 => repeat (first | exact (Kd.C_below HR0.out HB.out) | (with_reducible refine Kd.C_alloc ?_ _) | (with_reducible refine Kd.C_drewN ?_ _) | (with_reducible refine Kd.C_drew ?_))); (case side2 => exact HC0.out); (case side3 => repeat (first | exact (Kd.C_below HR1.out HB.out) | (with_reducible refine Kd.C_alloc ?_ _) | (with_reducible refine Kd.C_drewN ?_ _) | (with_reducible refine Kd.C_drew ?_))); (case side4 => exact HC1.out); rintro e w' ⟨rfl, ⟨nd, rfl⟩⟩; refine ⟨_, rfl, ?_⟩))
      go_ret
      exact ⟨by first | rfl | (simp [errW_none, errW_some] <;> rfl) | (simp [*, errW_none, errW_some] <;> rfl), by repeat (first | (with_reducible first | exact HB.out | apply below_alloc | apply pw_below_drewN | apply below_drew1) | exact HB.out)⟩
     ·rw [if_neg c10] at H
      have c10b0 : (t304 == 0) = false := beq_eq_false_iff_ne.mpr c10
      have c10b1 : (t304 != 0) = true := bne_iff_ne.mpr c10
      by_cases c13 : t303 = true
      ·subst c13
       have H1 : (some false) = some r := by rw [if_pos rfl] at H; exact H
       clear H
       have H := H1
       clear H1
       exact absurd ((Option.some.inj H).trans hr_.out) Bool.false_ne_true
      ·replace c13 := Bool.eq_false_iff.mpr c13
       subst c13
       have H1 : (if t304 = 2 then (some true) else (some (t304 == 3))) = some r := by rw [if_neg (show ¬ (false = true) by decide)] at H; exact H
       clear H
       have H := H1
       clear H1
       by_cases c14 : t304 = 2
       ·rw [if_pos c14] at H
        have c14b0 : (t304 == 2) = true := beq_iff_eq.mpr c14
        have c14b1 : (t304 != 2) = false := bne_eq_false_iff_eq.mpr c14
        clear c14
        obtain rfl := Option.some.inj H
        go_wp2_with (first | ((with_reducible refine gate_callee (f := 25) rfl ?_); refine goesL_ (some 20) rfl rfl Tryd.func25 (by kernel_rfl) rfl #[.slice A0 l0.length c0, .slice A1 l1.length c1] rfl (by (try simp only [List.map_toArray, List.map_cons, List.map_nil]); first | done | rfl | (simp only [List.length_drop, List.length_take]; rfl)) ?_; (with_reducible refine (truth_Same.calls (HT := ⟨TabT.below HT.out (by repeat (first | (with_reducible first | exact HB.out | apply below_alloc | apply pw_below_drewN | apply below_drew1) | exact HB.out))⟩) kj4 _ _ l0 _ _ l1 false t304 _ ?side1 ?side2 ?side3 ?side4 A9.out).mono ?_); (case side1 => repeat (first | exact (Kd.C_below HR0.out HB.out) | (with_reducible refine Kd.C_alloc ?_ _) | (with_reducible refine Kd.C_drewN ?_ _) | (with_reducible refine Kd.C_drew ?_))); (case side2 => exact HC0.out); (case side3 => repeat (first | exact (Kd.C_below HR1.out HB.out) | (with_reducible refine Kd.C_alloc ?_ _) | (with_reducible refine Kd.C_drewN ?_ _) | (with_reducible refine Kd.C_drew ?_))); (case side4 => exact HC1.out); rintro e w15 ⟨rfl, hb⟩; refine ⟨_, rfl, ?_⟩; have n0_ := Aside0.mk (below_step (by repeat (first | (with_reducible first | exact HB.out | apply below_alloc | apply pw_below_drewN | apply below_drew1) | exact HB.out)) hb); clear HB; have HB := n0_; clear n0_; (try clear hb); (try clear hb2); (try clear hk); (try clear hi)))
        go_ret
        exact ⟨by first | rfl | (simp [errW_none, errW_some] <;> rfl) | (simp [*, errW_none, errW_some] <;> rfl), by repeat (first | (with_reducible first | exact HB.out | apply below_alloc | apply pw_below_drewN | apply below_drew1) | exact HB.out)⟩
       ·rw [if_neg c14] at H
        have c14b0 : (t304 == 2) = false := beq_eq_false_iff_ne.mpr c14
        have c14b1 : (t304 != 2) = true := bne_iff_ne.mpr c14
        obtain rfl := Option.some.inj H
        go_wp2_with (first | ((with_reducible refine gate_callee (f := 25) rfl ?_); refine goesL_ (some 20) rfl rfl Tryd.func25 (by kernel_rfl) rfl #[.slice A0 l0.length c0, .slice A1 l1.length c1] rfl (by (try simp only [List.map_toArray, List.map_cons, List.map_nil]); first | done | rfl | (simp only [List.length_drop, List.length_take]; rfl)) ?_; (with_reducible refine (truth_Same.calls (HT := ⟨TabT.below HT.out (by repeat (first | (with_reducible first | exact HB.out | apply below_alloc | apply pw_below_drewN | apply below_drew1) | exact HB.out))⟩) kj4 _ _ l0 _ _ l1 false t304 _ ?side1 ?side2 ?side3 ?side4 A9.out).mono ?_); (case side1 => repeat (first | exact (Kd.C_below HR0.out HB.out) | (with_reducible refine Kd.C_alloc ?_ _) | (with_reducible refine Kd.C_drewN ?_ _) | (with_reducible refine Kd.C_drew ?_))); (case side2 => exact HC0.out); (case side3 => repeat (first | exact (Kd.C_below HR1.out HB.out) | (with_reducible refine Kd.C_alloc ?_ _) | (with_reducible refine Kd.C_drewN ?_ _) | (with_reducible refine Kd.C_drew ?_))); (case side4 => exact HC1.out); rintro e w16 ⟨rfl, hb⟩; refine ⟨_, rfl, ?_⟩; have n0_ := Aside0.mk (below_step (by repeat (first | (with_reducible first | exact HB.out | apply below_alloc | apply pw_below_drewN | apply below_drew1) | exact HB.out)) hb); clear HB; have HB := n0_; clear n0_; (try clear hb); (try clear hb2); (try clear hk); (try clear hi)))
        go_ret
        exact ⟨by first | rfl | (simp [errW_none, errW_some] <;> rfl) | (simp [*, errW_none, errW_some] <;> rfl), by repeat (first | (with_reducible first | exact HB.out | apply below_alloc | apply pw_below_drewN | apply below_drew1) | exact HB.out)⟩
 ·replace c4 := Bool.eq_false_iff.mpr c4
  subst c4
  have H1 : (some false) = some r := by rw [if_neg (show ¬ (false = true) by decide)] at H; exact H
  clear H
  have H := H1
  clear H1
  exact absurd ((Option.some.inj H).trans hr_.out) Bool.false_ne_true

/-! ### hypercuberef01_Set: function 69 -/
def hypercuberef01_Set.l0 : Nat → List Int → Int → Int → Option (Int)
  | 0, _, _, _ => none
  | k + 1, x0, x3, x4 => if x4 < (x0.length : Int) then (if 0 ≤ x4 then ((hypercuberef01_power.f k (rd x0 x4)).bind fun t307 => (hypercuberef01_Set.l0 k x0 (wrap64 (x3 + t307)) (wrap64 (x4 + 1)))) else (none)) else (some ((x3) % 4294967296))
def hypercuberef01_Set.f (k : Nat) (l0 : List Int) : Option (Int) := hypercuberef01_Set.l0 k l0 0 0
theorem hypercuberef01_Set.mono_l : ∀ k, (∀ y0 y1 y2, LeO (hypercuberef01_Set.l0 k y0 y1 y2) (hypercuberef01_Set.l0 (k + 1) y0 y1 y2))
  | 0 => fun _ _ _ r h => by simp [hypercuberef01_Set.l0] at h
  | k + 1 => by
    have ih0 := hypercuberef01_Set.mono_l k
    · intro y0 y1 y2
      unfold hypercuberef01_Set.l0
      repeat' first
      | (with_reducible exact ih0 _ _ _)
      | (with_reducible exact hypercuberef01_power.mono _ _)
      | (with_reducible exact LeO.refl _)
      | (with_reducible exact LeO.none _)
      | (with_reducible refine LeO.ite ?_ ?_)
      | (with_reducible refine LeO.bind ?_ (fun _ => ?_))
      | exact ih0 _ _ _
      | exact hypercuberef01_power.mono _ _
      | exact LeO.none _
      | refine LeO.ite ?_ ?_
      | refine LeO.bind ?_ (fun _ => ?_)
theorem hypercuberef01_Set.mono : ∀ a0 k, LeO (hypercuberef01_Set.f k a0) (hypercuberef01_Set.f (k + 1) a0) := by
  intro a0 k
  have ih0 := hypercuberef01_Set.mono_l k
  unfold hypercuberef01_Set.f
  repeat' first
      | (with_reducible exact ih0 _ _ _)
      | (with_reducible exact hypercuberef01_power.mono _ _)
      | (with_reducible exact LeO.refl _)
      | (with_reducible exact LeO.none _)
      | (with_reducible refine LeO.ite ?_ ?_)
      | (with_reducible refine LeO.bind ?_ (fun _ => ?_))
      | exact ih0 _ _ _
      | exact hypercuberef01_power.mono _ _
      | exact LeO.none _
      | refine LeO.ite ?_ ?_
      | refine LeO.bind ?_ (fun _ => ?_)
set_option maxHeartbeats 8000000 in
set_option maxRecDepth 100000 in
theorem hypercuberef01_Set.calls (k : Nat) (A0 : Option Addr) (c0 : Nat) (l0 : List Int) (r : Int) (w : World) (hr0 : Kd.C (Kd.int .i64) w A0 l0.length l0) (hc0 : l0.length ≤ c0) (h : hypercuberef01_Set.f k l0 = some r) :
  Calls Tryd.prog 69 #[.slice A0 l0.length c0] w fun e w' => e = .returned (.int .u32 r) ∧ Drawn0 w w' := by
 have HR0 := Aside0.mk hr0
 have HC0 := Aside0.mk hc0
 clear hr0 hc0
 have H : (hypercuberef01_Set.l0 k l0 0 0) = some r := h
 clear h
 have H' := Aside0.mk H
 clear H
 go_enter Tryd.func69, Tryd.ntmps69
 go_wp2
 go_loopg [3, 4] k (fun kq v3 v4 w' => ∃ (x3_1 : Int) (x4_1 : Int), v3 = .int .i64 x3_1 ∧ v4 = .int .i64 x4_1 ∧ Aside0 (hypercuberef01_Set.l0 kq l0 x3_1 x4_1 = some r) ∧ Aside0 (kq ≤ k) ∧ Drawn0 w w')
 case atStart => exact ⟨(0), (0), (by first | rfl | (simp; done) | (simp [*]; done)), (by first | rfl | (simp; done) | (simp [*]; done)), H', ⟨Nat.le_refl _⟩, by repeat (first | exact Drawn0.refl _ | apply Drawn0.step)⟩
 case round =>
  clear H'
  obtain ⟨x3_1, x4_1, rfl, rfl, HA, HK1, ⟨m1, rfl⟩⟩ := hrel
  cases gk with
  | zero => exact absurd HA.out (by simp [hypercuberef01_Set.l0])
  | succ k1 =>
   have H := HA.out
   clear HA
   simp only [hypercuberef01_Set.l0] at H
   by_cases c2 : x4_1 < (l0.length : Int)
   ·rw [if_pos c2] at H
    have c2b0 : decide (x4_1 < (l0.length : Int)) = true := decide_eq_true c2
    clear c2
    by_cases c3 : 0 ≤ x4_1
    ·rw [if_pos c3] at H
     have c3b0 : decide (0 ≤ x4_1) = true := decide_eq_true c3
     clear c3
     replace H := Option.bind_eq_some_iff.mp H
     obtain ⟨t307, A40, H⟩ := H
     replace H : (hypercuberef01_Set.l0 k1 l0 (wrap64 (x3_1 + t307)) (wrap64 (x4_1 + 1))) = some r := H
     have A4 := Aside0.mk A40
     clear A40
     have H' := Aside0.mk H
     clear H
     have p306 : 0 ≤ (x4_1 : Int) := of_decide_eq_true (by first | (with_reducible assumption) | assumption)
     have q306 : x4_1 < (l0.length : Int) := of_decide_eq_true (by first | (with_reducible assumption) | assumption)
     obtain ⟨ad306, e306, hx306_0⟩ := Kd.at_int HR0.out x4_1 p306 q306
     cases e306
     replace p306 := eq_true p306
     replace q306 := eq_true q306
     go_wp2_with (first | ((with_reducible refine gate_callee (f := 101) rfl ?_); refine goesL_ (some 16) rfl rfl Tryd.func101 (by kernel_rfl) rfl #[.int .i64 (rd l0 x4_1)] rfl (by (try simp only [List.map_toArray, List.map_cons, List.map_nil]); first | done | rfl | (simp only [List.length_drop, List.length_take]; rfl)) ?_; (with_reducible refine (hypercuberef01_power.calls k1 (rd l0 x4_1) t307 _ A4.out).mono ?_); rintro e w' ⟨rfl, ⟨nd, rfl⟩⟩; refine ⟨_, rfl, ?_⟩))
     go_roundg k1
     case measure => have := HK1.out; omega
     case rel => exact ⟨(wrap64 (x3_1 + t307)), (wrap64 (x4_1 + 1)), (by first | rfl | (simp; done) | (simp [*]; done)), (by first | rfl | (simp; done) | (simp [*]; done)), H', ⟨by have := HK1.out; omega⟩, by repeat (first | exact Drawn0.refl _ | apply Drawn0.step)⟩
    ·rw [if_neg c3] at H
     exact absurd H (by simp)
   ·rw [if_neg c2] at H
    have c2b0 : decide (x4_1 < (l0.length : Int)) = false := decide_eq_false c2
    clear c2
    obtain rfl := Option.some.inj H
    go_wp2
    go_ret
    exact ⟨by first | rfl | (simp; done) | (simp [*]; done), by repeat (first | exact Drawn0.refl _ | apply Drawn0.step)⟩

end Go.Proofs.YtfbcgjkagdbckaaDoor.XTr
