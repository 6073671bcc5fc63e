-- Written for this claim by a program of ours (wip/xp.py), out of the translation and of hand-written contracts.
import Derived.Test.YtidpieakofhmiaaDoorXMaskx0
import Derived.Test.YtidpieakofhmiaaDoorXMaskx1
import Derived.Test.YtidpieakofhmiaaDoorXMaskx2
import Derived.Test.YtidpieakofhmiaaDoorXMaskx3
namespace Go.Proofs.YtidpieakofhmiaaDoor.XMask
open Go.RowKit Go.Proofs.YtidpieakofhmiaaDoorW.PrintWords Go.Proofs.YtidpieakofhmiaaDoorW.PrintLast Go.Proofs.YtidpieakofhmiaaDoorW.PrintMore
attribute [local go_sem] max2_int min2_int max_two min_two max_three min_three max_four min_four   -- for this text's walks alone
set_option linter.unusedVariables false
set_option linter.unusedSimpArgs false

/-! ### hypercubelaw01_MaskSets: function 9 -/
mutual
def hypercubelaw01_MaskSets.j0 : Nat → Int → Int → Int → Int → Int → Bool → Option (Bool)
  | 0, _, _, _, _, _, _ => none
  | k + 1, x0, x1, x2, x7, x8, x22 => if x22 = true then (if x7 = x8 then ((mask_Has.f x0 x1).bind fun t225 => (some (!t225))) else (some false)) else ((mask_Has.f x7 x1).bind fun t226 => (if t226 = true then ((mask_Has.f x8 x1).bind fun t227 => (if t227 = true then (hypercubelaw01_MaskSets.j1 k x0 x1 x2 x7 x8 true) else ((mask_Count.f x7).bind fun t228 => ((mask_Count.f x8).bind fun t229 => (if t228 = (wrap64 (t229 + 1)) then ((mask_Without.f x7 x1).bind fun t230 => (if t230 = x8 then ((mask_With.f x8 x1).bind fun t231 => (hypercubelaw01_MaskSets.j1 k x0 x1 x2 x7 x8 (t231 != x7))) else (hypercubelaw01_MaskSets.j1 k x0 x1 x2 x7 x8 true))) else (hypercubelaw01_MaskSets.j1 k x0 x1 x2 x7 x8 true)))))) else (hypercubelaw01_MaskSets.j1 k x0 x1 x2 x7 x8 true)))
def hypercubelaw01_MaskSets.j1 : Nat → Int → Int → Int → Int → Int → Bool → Option (Bool)
  | 0, _, _, _, _, _, _ => none
  | k + 1, x0, x1, x2, x7, x8, x62 => if x62 = true then (some false) else (if x2 = x1 then (some true) else ((mask_Has.f x7 x2).bind fun t232 => ((mask_Has.f x0 x2).bind fun t233 => (if (t232 == t233) = true then ((mask_Has.f x8 x2).bind fun t234 => ((mask_Has.f x0 x2).bind fun t235 => (some (t234 == t235)))) else (some false)))))
end
def hypercubelaw01_MaskSets.f (k : Nat) (a0 : Int) (a1 : Int) (a2 : Int) : Option (Bool) := (hypercubelaw01_works.f k).bind fun t222 => (if t222 = true then ((mask_With.f a0 a1).bind fun t223 => ((mask_Without.f a0 a1).bind fun t224 => (if a1 < 0 then (hypercubelaw01_MaskSets.j0 k a0 a1 a2 t223 t224 true) else (hypercubelaw01_MaskSets.j0 k a0 a1 a2 t223 t224 (decide (a1 ≥ 24)))))) else (some false))
theorem hypercubelaw01_MaskSets.mono_l : ∀ k, (∀ y0 y1 y2 y3 y4 y5, LeO (hypercubelaw01_MaskSets.j0 k y0 y1 y2 y3 y4 y5) (hypercubelaw01_MaskSets.j0 (k + 1) y0 y1 y2 y3 y4 y5)) ∧ (∀ y0 y1 y2 y3 y4 y5, LeO (hypercubelaw01_MaskSets.j1 k y0 y1 y2 y3 y4 y5) (hypercubelaw01_MaskSets.j1 (k + 1) y0 y1 y2 y3 y4 y5))
  | 0 => ⟨fun _ _ _ _ _ _ r h => by simp [hypercubelaw01_MaskSets.j0] at h, fun _ _ _ _ _ _ r h => by simp [hypercubelaw01_MaskSets.j1] at h⟩
  | k + 1 => by
    obtain ⟨ih0, ih1⟩ := hypercubelaw01_MaskSets.mono_l k
    refine ⟨?_, ?_⟩
    · intro y0 y1 y2 y3 y4 y5
      unfold hypercubelaw01_MaskSets.j0
      repeat' first
      | (with_reducible exact ih0 _ _ _ _ _ _)
      | (with_reducible exact ih1 _ _ _ _ _ _)
      | (with_reducible exact hypercubelaw01_works.mono _)
      | (with_reducible exact LeO.refl _)
      | (with_reducible exact LeO.none _)
      | (with_reducible refine LeO.ite ?_ ?_)
      | (with_reducible refine LeO.bind ?_ (fun _ => ?_))
      | exact ih0 _ _ _ _ _ _
      | exact ih1 _ _ _ _ _ _
      | exact hypercubelaw01_works.mono _
      | exact LeO.none _
      | refine LeO.ite ?_ ?_
      | refine LeO.bind ?_ (fun _ => ?_)
    · intro y0 y1 y2 y3 y4 y5
      unfold hypercubelaw01_MaskSets.j1
      repeat' first
      | (with_reducible exact ih0 _ _ _ _ _ _)
      | (with_reducible exact ih1 _ _ _ _ _ _)
      | (with_reducible exact hypercubelaw01_works.mono _)
      | (with_reducible exact LeO.refl _)
      | (with_reducible exact LeO.none _)
      | (with_reducible refine LeO.ite ?_ ?_)
      | (with_reducible refine LeO.bind ?_ (fun _ => ?_))
      | exact ih0 _ _ _ _ _ _
      | exact ih1 _ _ _ _ _ _
      | exact hypercubelaw01_works.mono _
      | exact LeO.none _
      | refine LeO.ite ?_ ?_
      | refine LeO.bind ?_ (fun _ => ?_)
theorem hypercubelaw01_MaskSets.mono : ∀ a0 a1 a2 k, LeO (hypercubelaw01_MaskSets.f k a0 a1 a2) (hypercubelaw01_MaskSets.f (k + 1) a0 a1 a2) := by
  intro a0 a1 a2 k
  obtain ⟨ih0, ih1⟩ := hypercubelaw01_MaskSets.mono_l k
  unfold hypercubelaw01_MaskSets.f
  repeat' first
      | (with_reducible exact ih0 _ _ _ _ _ _)
      | (with_reducible exact ih1 _ _ _ _ _ _)
      | (with_reducible exact hypercubelaw01_works.mono _)
      | (with_reducible exact LeO.refl _)
      | (with_reducible exact LeO.none _)
      | (with_reducible refine LeO.ite ?_ ?_)
      | (with_reducible refine LeO.bind ?_ (fun _ => ?_))
      | exact ih0 _ _ _ _ _ _
      | exact ih1 _ _ _ _ _ _
      | exact hypercubelaw01_works.mono _
      | exact LeO.none _
      | refine LeO.ite ?_ ?_
      | refine LeO.bind ?_ (fun _ => ?_)
set_option maxHeartbeats 8000000 in
set_option maxRecDepth 100000 in
theorem hypercubelaw01_MaskSets.calls (k : Nat) (a0 : Int) (a1 : Int) (a2 : Int) (r : Bool) (w : World) (HT : Aside0 (Tab w)) (h : hypercubelaw01_MaskSets.f k a0 a1 a2 = some r) :
    Calls Tryd.prog 9 #[.int .u32 a0, .int .i64 a1, .int .i64 a2] w fun e w' => e = .returned (.bool r) ∧ Below w.heap.size w w' := by
  have HB := Aside0.mk (Below.refl w.heap.size w)
  have H : ((hypercubelaw01_works.f k).bind fun t222 => (if t222 = true then ((mask_With.f a0 a1).bind fun t223 => ((mask_Without.f a0 a1).bind fun t224 => (if a1 < 0 then (hypercubelaw01_MaskSets.j0 k a0 a1 a2 t223 t224 true) else (hypercubelaw01_MaskSets.j0 k a0 a1 a2 t223 t224 (decide (a1 ≥ 24)))))) else (some false))) = some r := h
  clear h
  replace H := Option.bind_eq_some_iff.mp H
  obtain ⟨t222, A40, H⟩ := H
  replace H : (if t222 = true then ((mask_With.f a0 a1).bind fun t223 => ((mask_Without.f a0 a1).bind fun t224 => (if a1 < 0 then (hypercubelaw01_MaskSets.j0 k a0 a1 a2 t223 t224 true) else (hypercubelaw01_MaskSets.j0 k a0 a1 a2 t223 t224 (decide (a1 ≥ 24)))))) else (some false)) = some r := H
  have A4 := Aside0.mk A40
  clear A40
  by_cases c5 : t222 = true
  · subst c5
    have H1 : ((mask_With.f a0 a1).bind fun t223 => ((mask_Without.f a0 a1).bind fun t224 => (if a1 < 0 then (hypercubelaw01_MaskSets.j0 k a0 a1 a2 t223 t224 true) else (hypercubelaw01_MaskSets.j0 k a0 a1 a2 t223 t224 (decide (a1 ≥ 24)))))) = some r := by rw [if_pos rfl] at H; exact H
    clear H
    have H := H1
    clear H1
    replace H := Option.bind_eq_some_iff.mp H
    obtain ⟨t223, A60, H⟩ := H
    replace H : ((mask_Without.f a0 a1).bind fun t224 => (if a1 < 0 then (hypercubelaw01_MaskSets.j0 k a0 a1 a2 t223 t224 true) else (hypercubelaw01_MaskSets.j0 k a0 a1 a2 t223 t224 (decide (a1 ≥ 24))))) = some r := H
    have A6 := Aside0.mk A60
    clear A60
    replace H := Option.bind_eq_some_iff.mp H
    obtain ⟨t224, A70, H⟩ := H
    replace H : (if a1 < 0 then (hypercubelaw01_MaskSets.j0 k a0 a1 a2 t223 t224 true) else (hypercubelaw01_MaskSets.j0 k a0 a1 a2 t223 t224 (decide (a1 ≥ 24)))) = some r := H
    have A7 := Aside0.mk A70
    clear A70
    have HC8 := Aside0.mk H
    clear H
    go_enter Tryd.func9, Tryd.ntmps9
    go_upto_region 4 with (first | ((with_reducible refine gate_callee (f := 12) rfl ?_); refine goesL_ (some 9) rfl rfl Tryd.func12 (by kernel_rfl) rfl #[] rfl (by (try simp only [List.map_toArray, List.map_cons, List.map_nil]); first | done | rfl | (simp only [List.length_drop, List.length_take]; rfl)) ?_; (with_reducible refine (hypercubelaw01_works.calls (HT := ⟨Tab.below HT.out (by repeat (first | (with_reducible first | exact HB.out | apply below_alloc | apply pw_below_drewN | apply below_drew1) | exact HB.out))⟩) k  true _ A4.out).mono ?_); rintro e w9 ⟨rfl, hb⟩; refine ⟨_, rfl, ?_⟩; have n0_ := Aside0.mk (below_step (by repeat (first | (with_reducible first | exact HB.out | apply below_alloc | apply pw_below_drewN | apply below_drew1) | exact HB.out)) hb); clear HB; have HB := n0_; clear n0_; (try clear hb); (try clear hb2); (try clear hk); (try clear hi)) | ((with_reducible refine gate_callee (f := 21) rfl ?_); refine goesL_ (some 13) rfl rfl Tryd.func21 (by kernel_rfl) rfl #[.int .u32 a0, .int .i64 a1] rfl (by (try simp only [List.map_toArray, List.map_cons, List.map_nil]); first | done | rfl | (simp only [List.length_drop, List.length_take]; rfl)) ?_; (with_reducible refine (mask_With.calls a0 a1 t223 _ A6.out).mono ?_); rintro e w' ⟨rfl, ⟨nd, rfl⟩⟩; refine ⟨_, rfl, ?_⟩) | ((with_reducible refine gate_callee (f := 23) rfl ?_); refine goesL_ (some 16) rfl rfl Tryd.func23 (by kernel_rfl) rfl #[.int .u32 a0, .int .i64 a1] rfl (by (try simp only [List.map_toArray, List.map_cons, List.map_nil]); first | done | rfl | (simp only [List.length_drop, List.length_take]; rfl)) ?_; (with_reducible refine (mask_Without.calls a0 a1 t224 _ A7.out).mono ?_); rintro e w' ⟨rfl, ⟨nd, rfl⟩⟩; refine ⟨_, rfl, ?_⟩))
    (try simp only [Act.put, List.setIfInBounds_toArray, List.set_cons_zero, List.set_cons_succ])
    go_cut [22] (fun v22 wc => ∃ (kq : Nat) (x22_7 : Bool), v22 = .bool x22_7 ∧ Aside0 (hypercubelaw01_MaskSets.j0 kq a0 a1 a2 t223 t224 x22_7 = some r) ∧ Aside0 (kq ≤ k) ∧ Aside0 (Below w.heap.size w wc))
    case first =>
      have H := HC8.out
      clear HC8
      by_cases c10 : a1 < 0
      · rw [if_pos c10] at H
        have c10b0 : decide (a1 < 0) = true := decide_eq_true c10
        clear c10
        (first | rw [c10b0] | (simp only [i64_w, i32_w]; rw [c10b0]) | skip)
        have H' := Aside0.mk H
        clear H
        go_wp2
        go_meet
        case rel => exact ⟨_, (true), (by first | rfl | (simp; done) | (simp [*]; done)), H', ⟨by first | omega | exact Nat.le_refl _⟩, ⟨by repeat (first | (with_reducible first | exact HB.out | apply below_alloc | apply pw_below_drewN | apply below_drew1) | exact HB.out)⟩⟩
      · rw [if_neg c10] at H
        have c10b0 : decide (a1 < 0) = false := decide_eq_false c10
        clear c10
        (first | rw [c10b0] | (simp only [i64_w, i32_w]; rw [c10b0]) | skip)
        have H' := Aside0.mk H
        clear H
        go_wp2
        go_meet
        case rel => exact ⟨_, (decide (a1 ≥ 24)), (by first | rfl | (simp; done) | (simp [*]; done)), H', ⟨by first | omega | exact Nat.le_refl _⟩, ⟨by repeat (first | (with_reducible first | exact HB.out | apply below_alloc | apply pw_below_drewN | apply below_drew1) | exact HB.out)⟩⟩
    case rest =>
      clear HC8
      try clear c1
      try clear c2
      try clear p2
      try clear c5
      try clear c9
      try clear c10
      try clear c10b0
      obtain ⟨kq, x22_7, rfl, HA, HJ7, HB⟩ := hcut
      cases kq with
      | zero => exact absurd HA.out (by simp [hypercubelaw01_MaskSets.j0])
      | succ kj7 =>
        have H := HA.out
        clear HA
        simp only [hypercubelaw01_MaskSets.j0] at H
        by_cases c11 : x22_7 = true
        · subst c11
          have H1 : (if t223 = t224 then ((mask_Has.f a0 a1).bind fun t225 => (some (!t225))) else (some false)) = some r := by rw [if_pos rfl] at H; exact H
          clear H
          have H := H1
          clear H1
          by_cases c12 : t223 = t224
          · rw [if_pos c12] at H
            have c12b0 : (t223 == t224) = true := beq_iff_eq.mpr c12
            have c12b1 : (t223 != t224) = false := bne_eq_false_iff_eq.mpr c12
            clear c12
            replace H := Option.bind_eq_some_iff.mp H
            obtain ⟨t225, A130, H⟩ := H
            replace H : (some (!t225)) = some r := H
            have A13 := Aside0.mk A130
            clear A130
            obtain rfl := Option.some.inj H
            go_wp2_with (first | (go_at_call 22; (with_reducible refine (mask_Has.calls a0 a1 t225 _ A13.out).mono ?_); rintro e w' ⟨rfl, ⟨nd, rfl⟩⟩))
            go_ret
            exact ⟨by first | rfl | (simp [errW_none, errW_some] <;> rfl) | (simp [*, errW_none, errW_some] <;> rfl), by repeat (first | (with_reducible first | exact HB.out | apply below_alloc | apply pw_below_drewN | apply below_drew1) | exact HB.out)⟩
          · rw [if_neg c12] at H
            have c12b0 : (t223 == t224) = false := beq_eq_false_iff_ne.mpr c12
            have c12b1 : (t223 != t224) = true := bne_iff_ne.mpr c12
            obtain rfl := Option.some.inj H
            go_wp2
            go_ret
            exact ⟨by first | rfl | (simp [errW_none, errW_some] <;> rfl) | (simp [*, errW_none, errW_some] <;> rfl), by repeat (first | (with_reducible first | exact HB.out | apply below_alloc | apply pw_below_drewN | apply below_drew1) | exact HB.out)⟩
        · replace c11 := Bool.eq_false_iff.mpr c11
          subst c11
          have H1 : ((mask_Has.f t223 a1).bind fun t226 => (if t226 = true then ((mask_Has.f t224 a1).bind fun t227 => (if t227 = true then (hypercubelaw01_MaskSets.j1 kj7 a0 a1 a2 t223 t224 true) else ((mask_Count.f t223).bind fun t228 => ((mask_Count.f t224).bind fun t229 => (if t228 = (wrap64 (t229 + 1)) then ((mask_Without.f t223 a1).bind fun t230 => (if t230 = t224 then ((mask_With.f t224 a1).bind fun t231 => (hypercubelaw01_MaskSets.j1 kj7 a0 a1 a2 t223 t224 (t231 != t223))) else (hypercubelaw01_MaskSets.j1 kj7 a0 a1 a2 t223 t224 true))) else (hypercubelaw01_MaskSets.j1 kj7 a0 a1 a2 t223 t224 true)))))) else (hypercubelaw01_MaskSets.j1 kj7 a0 a1 a2 t223 t224 true))) = some r := by rw [if_neg (show ¬ (false = true) by decide)] at H; exact H
          clear H
          have H := H1
          clear H1
          have HC14 := Aside0.mk H
          clear H
          go_upto_region 6 with (fail)
          go_cut [62] (fun v62 wc => ∃ (kq : Nat) (x62_13 : Bool), v62 = .bool x62_13 ∧ Aside0 (hypercubelaw01_MaskSets.j1 kq a0 a1 a2 t223 t224 x62_13 = some r) ∧ Aside0 (kq ≤ kj7) ∧ Aside0 (Below w.heap.size w wc))
          case first =>
            have H := HC14.out
            clear HC14
            replace H := Option.bind_eq_some_iff.mp H
            obtain ⟨t226, A150, H⟩ := H
            replace H : (if t226 = true then ((mask_Has.f t224 a1).bind fun t227 => (if t227 = true then (hypercubelaw01_MaskSets.j1 kj7 a0 a1 a2 t223 t224 true) else ((mask_Count.f t223).bind fun t228 => ((mask_Count.f t224).bind fun t229 => (if t228 = (wrap64 (t229 + 1)) then ((mask_Without.f t223 a1).bind fun t230 => (if t230 = t224 then ((mask_With.f t224 a1).bind fun t231 => (hypercubelaw01_MaskSets.j1 kj7 a0 a1 a2 t223 t224 (t231 != t223))) else (hypercubelaw01_MaskSets.j1 kj7 a0 a1 a2 t223 t224 true))) else (hypercubelaw01_MaskSets.j1 kj7 a0 a1 a2 t223 t224 true)))))) else (hypercubelaw01_MaskSets.j1 kj7 a0 a1 a2 t223 t224 true)) = some r := H
            have A15 := Aside0.mk A150
            clear A150
            by_cases c16 : t226 = true
            · subst c16
              have H1 : ((mask_Has.f t224 a1).bind fun t227 => (if t227 = true then (hypercubelaw01_MaskSets.j1 kj7 a0 a1 a2 t223 t224 true) else ((mask_Count.f t223).bind fun t228 => ((mask_Count.f t224).bind fun t229 => (if t228 = (wrap64 (t229 + 1)) then ((mask_Without.f t223 a1).bind fun t230 => (if t230 = t224 then ((mask_With.f t224 a1).bind fun t231 => (hypercubelaw01_MaskSets.j1 kj7 a0 a1 a2 t223 t224 (t231 != t223))) else (hypercubelaw01_MaskSets.j1 kj7 a0 a1 a2 t223 t224 true))) else (hypercubelaw01_MaskSets.j1 kj7 a0 a1 a2 t223 t224 true)))))) = some r := by rw [if_pos rfl] at H; exact H
              clear H
              have H := H1
              clear H1
              replace H := Option.bind_eq_some_iff.mp H
              obtain ⟨t227, A170, H⟩ := H
              replace H : (if t227 = true then (hypercubelaw01_MaskSets.j1 kj7 a0 a1 a2 t223 t224 true) else ((mask_Count.f t223).bind fun t228 => ((mask_Count.f t224).bind fun t229 => (if t228 = (wrap64 (t229 + 1)) then ((mask_Without.f t223 a1).bind fun t230 => (if t230 = t224 then ((mask_With.f t224 a1).bind fun t231 => (hypercubelaw01_MaskSets.j1 kj7 a0 a1 a2 t223 t224 (t231 != t223))) else (hypercubelaw01_MaskSets.j1 kj7 a0 a1 a2 t223 t224 true))) else (hypercubelaw01_MaskSets.j1 kj7 a0 a1 a2 t223 t224 true))))) = some r := H
              have A17 := Aside0.mk A170
              clear A170
              by_cases c18 : t227 = true
              · subst c18
                have H1 : (hypercubelaw01_MaskSets.j1 kj7 a0 a1 a2 t223 t224 true) = some r := by rw [if_pos rfl] at H; exact H
                clear H
                have H := H1
                clear H1
                have H' := Aside0.mk H
                clear H
                go_wp2_with (first | ((with_reducible refine gate_callee (f := 22) rfl ?_); refine goesL_ (some 34) rfl rfl Tryd.func22 (by kernel_rfl) rfl #[.int .u32 t223, .int .i64 a1] rfl (by (try simp only [List.map_toArray, List.map_cons, List.map_nil]); first | done | rfl | (simp only [List.length_drop, List.length_take]; rfl)) ?_; (with_reducible refine (mask_Has.calls t223 a1 true _ A15.out).mono ?_); rintro e w' ⟨rfl, ⟨nd, rfl⟩⟩; refine ⟨_, rfl, ?_⟩) | (go_at_call 22; (with_reducible refine (mask_Has.calls t224 a1 true _ A17.out).mono ?_); rintro e w' ⟨rfl, ⟨nd, rfl⟩⟩))
                go_meet
                case rel => exact ⟨_, (true), (by first | rfl | (simp; done) | (simp [*]; done)), H', ⟨by have := HJ7.out; first | omega | exact Nat.le_refl _⟩, ⟨by repeat (first | (with_reducible first | exact HB.out | apply below_alloc | apply pw_below_drewN | apply below_drew1) | exact HB.out)⟩⟩
              · replace c18 := Bool.eq_false_iff.mpr c18
                subst c18
                have H1 : ((mask_Count.f t223).bind fun t228 => ((mask_Count.f t224).bind fun t229 => (if t228 = (wrap64 (t229 + 1)) then ((mask_Without.f t223 a1).bind fun t230 => (if t230 = t224 then ((mask_With.f t224 a1).bind fun t231 => (hypercubelaw01_MaskSets.j1 kj7 a0 a1 a2 t223 t224 (t231 != t223))) else (hypercubelaw01_MaskSets.j1 kj7 a0 a1 a2 t223 t224 true))) else (hypercubelaw01_MaskSets.j1 kj7 a0 a1 a2 t223 t224 true)))) = some r := by rw [if_neg (show ¬ (false = true) by decide)] at H; exact H
                clear H
                have H := H1
                clear H1
                replace H := Option.bind_eq_some_iff.mp H
                obtain ⟨t228, A190, H⟩ := H
                replace H : ((mask_Count.f t224).bind fun t229 => (if t228 = (wrap64 (t229 + 1)) then ((mask_Without.f t223 a1).bind fun t230 => (if t230 = t224 then ((mask_With.f t224 a1).bind fun t231 => (hypercubelaw01_MaskSets.j1 kj7 a0 a1 a2 t223 t224 (t231 != t223))) else (hypercubelaw01_MaskSets.j1 kj7 a0 a1 a2 t223 t224 true))) else (hypercubelaw01_MaskSets.j1 kj7 a0 a1 a2 t223 t224 true))) = some r := H
                have A19 := Aside0.mk A190
                clear A190
                replace H := Option.bind_eq_some_iff.mp H
                obtain ⟨t229, A200, H⟩ := H
                replace H : (if t228 = (wrap64 (t229 + 1)) then ((mask_Without.f t223 a1).bind fun t230 => (if t230 = t224 then ((mask_With.f t224 a1).bind fun t231 => (hypercubelaw01_MaskSets.j1 kj7 a0 a1 a2 t223 t224 (t231 != t223))) else (hypercubelaw01_MaskSets.j1 kj7 a0 a1 a2 t223 t224 true))) else (hypercubelaw01_MaskSets.j1 kj7 a0 a1 a2 t223 t224 true)) = some r := H
                have A20 := Aside0.mk A200
                clear A200
                by_cases c21 : t228 = (wrap64 (t229 + 1))
                · rw [if_pos c21] at H
                  have c21b0 : (t228 == (wrap64 (t229 + 1))) = true := beq_iff_eq.mpr c21
                  have c21b1 : (t228 != (wrap64 (t229 + 1))) = false := bne_eq_false_iff_eq.mpr c21
                  clear c21
                  (first | rw [c21b0] | (simp only [i64_w, i32_w]; rw [c21b0]) | skip)
                  replace H := Option.bind_eq_some_iff.mp H
                  obtain ⟨t230, A220, H⟩ := H
                  replace H : (if t230 = t224 then ((mask_With.f t224 a1).bind fun t231 => (hypercubelaw01_MaskSets.j1 kj7 a0 a1 a2 t223 t224 (t231 != t223))) else (hypercubelaw01_MaskSets.j1 kj7 a0 a1 a2 t223 t224 true)) = some r := H
                  have A22 := Aside0.mk A220
                  clear A220
                  by_cases c23 : t230 = t224
                  · rw [if_pos c23] at H
                    have c23b0 : (t230 == t224) = true := beq_iff_eq.mpr c23
                    have c23b1 : (t230 != t224) = false := bne_eq_false_iff_eq.mpr c23
                    clear c23
                    replace H := Option.bind_eq_some_iff.mp H
                    obtain ⟨t231, A240, H⟩ := H
                    replace H : (hypercubelaw01_MaskSets.j1 kj7 a0 a1 a2 t223 t224 (t231 != t223)) = some r := H
                    have A24 := Aside0.mk A240
                    clear A240
                    have H' := Aside0.mk H
                    clear H
                    go_wp2_with (first | ((with_reducible refine gate_callee (f := 22) rfl ?_); refine goesL_ (some 34) rfl rfl Tryd.func22 (by kernel_rfl) rfl #[.int .u32 t223, .int .i64 a1] rfl (by (try simp only [List.map_toArray, List.map_cons, List.map_nil]); first | done | rfl | (simp only [List.length_drop, List.length_take]; rfl)) ?_; (with_reducible refine (mask_Has.calls t223 a1 true _ A15.out).mono ?_); rintro e w' ⟨rfl, ⟨nd, rfl⟩⟩; refine ⟨_, rfl, ?_⟩) | (go_at_call 22; (with_reducible refine (mask_Has.calls t224 a1 false _ A17.out).mono ?_); rintro e w' ⟨rfl, ⟨nd, rfl⟩⟩) | (go_at_call 15; (with_reducible refine (mask_Count.calls t223 t228 _ A19.out).mono ?_); rintro e w25 ⟨rfl, hb⟩; have n0_ := Aside0.mk (below_step (by repeat (first | (with_reducible first | exact HB.out | apply below_alloc | apply pw_below_drewN | apply below_drew1) | exact HB.out)) hb); clear HB; have HB := n0_; clear n0_; (try clear hb); (try clear hb2); (try clear hk); (try clear hi)) | (go_at_call 15; (with_reducible refine (mask_Count.calls t224 t229 _ A20.out).mono ?_); rintro e w26 ⟨rfl, hb⟩; have n0_ := Aside0.mk (below_step (by repeat (first | (with_reducible first | exact HB.out | apply below_alloc | apply pw_below_drewN | apply below_drew1) | exact HB.out)) hb); clear HB; have HB := n0_; clear n0_; (try clear hb); (try clear hb2); (try clear hk); (try clear hi)) | (go_at_call 23; (with_reducible refine (mask_Without.calls t223 a1 t230 _ A22.out).mono ?_); rintro e w' ⟨rfl, ⟨nd, rfl⟩⟩) | (go_at_call 21; (with_reducible refine (mask_With.calls t224 a1 t231 _ A24.out).mono ?_); rintro e w' ⟨rfl, ⟨nd, rfl⟩⟩))
                    go_meet
                    case rel => exact ⟨_, ((t231 != t223)), (by first | rfl | (simp; done) | (simp [*]; done)), H', ⟨by have := HJ7.out; first | omega | exact Nat.le_refl _⟩, ⟨by repeat (first | (with_reducible first | exact HB.out | apply below_alloc | apply pw_below_drewN | apply below_drew1) | exact HB.out)⟩⟩
                  · rw [if_neg c23] at H
                    have c23b0 : (t230 == t224) = false := beq_eq_false_iff_ne.mpr c23
                    have c23b1 : (t230 != t224) = true := bne_iff_ne.mpr c23
                    have H' := Aside0.mk H
                    clear H
                    go_wp2_with (first | ((with_reducible refine gate_callee (f := 22) rfl ?_); refine goesL_ (some 34) rfl rfl Tryd.func22 (by kernel_rfl) rfl #[.int .u32 t223, .int .i64 a1] rfl (by (try simp only [List.map_toArray, List.map_cons, List.map_nil]); first | done | rfl | (simp only [List.length_drop, List.length_take]; rfl)) ?_; (with_reducible refine (mask_Has.calls t223 a1 true _ A15.out).mono ?_); rintro e w' ⟨rfl, ⟨nd, rfl⟩⟩; refine ⟨_, rfl, ?_⟩) | (go_at_call 22; (with_reducible refine (mask_Has.calls t224 a1 false _ A17.out).mono ?_); rintro e w' ⟨rfl, ⟨nd, rfl⟩⟩) | (go_at_call 15; (with_reducible refine (mask_Count.calls t223 t228 _ A19.out).mono ?_); rintro e w27 ⟨rfl, hb⟩; have n0_ := Aside0.mk (below_step (by repeat (first | (with_reducible first | exact HB.out | apply below_alloc | apply pw_below_drewN | apply below_drew1) | exact HB.out)) hb); clear HB; have HB := n0_; clear n0_; (try clear hb); (try clear hb2); (try clear hk); (try clear hi)) | (go_at_call 15; (with_reducible refine (mask_Count.calls t224 t229 _ A20.out).mono ?_); rintro e w28 ⟨rfl, hb⟩; have n0_ := Aside0.mk (below_step (by repeat (first | (with_reducible first | exact HB.out | apply below_alloc | apply pw_below_drewN | apply below_drew1) | exact HB.out)) hb); clear HB; have HB := n0_; clear n0_; (try clear hb); (try clear hb2); (try clear hk); (try clear hi)) | (go_at_call 23; (with_reducible refine (mask_Without.calls t223 a1 t230 _ A22.out).mono ?_); rintro e w' ⟨rfl, ⟨nd, rfl⟩⟩))
                    go_meet
                    case rel => exact ⟨_, (true), (by first | rfl | (simp; done) | (simp [*]; done)), H', ⟨by have := HJ7.out; first | omega | exact Nat.le_refl _⟩, ⟨by repeat (first | (with_reducible first | exact HB.out | apply below_alloc | apply pw_below_drewN | apply below_drew1) | exact HB.out)⟩⟩
                · rw [if_neg c21] at H
                  have c21b0 : (t228 == (wrap64 (t229 + 1))) = false := beq_eq_false_iff_ne.mpr c21
                  have c21b1 : (t228 != (wrap64 (t229 + 1))) = true := bne_iff_ne.mpr c21
                  (first | rw [c21b0] | (simp only [i64_w, i32_w]; rw [c21b0]) | skip)
                  have H' := Aside0.mk H
                  clear H
                  go_wp2_with (first | ((with_reducible refine gate_callee (f := 22) rfl ?_); refine goesL_ (some 34) rfl rfl Tryd.func22 (by kernel_rfl) rfl #[.int .u32 t223, .int .i64 a1] rfl (by (try simp only [List.map_toArray, List.map_cons, List.map_nil]); first | done | rfl | (simp only [List.length_drop, List.length_take]; rfl)) ?_; (with_reducible refine (mask_Has.calls t223 a1 true _ A15.out).mono ?_); rintro e w' ⟨rfl, ⟨nd, rfl⟩⟩; refine ⟨_, rfl, ?_⟩) | (go_at_call 22; (with_reducible refine (mask_Has.calls t224 a1 false _ A17.out).mono ?_); rintro e w' ⟨rfl, ⟨nd, rfl⟩⟩) | (go_at_call 15; (with_reducible refine (mask_Count.calls t223 t228 _ A19.out).mono ?_); rintro e w29 ⟨rfl, hb⟩; have n0_ := Aside0.mk (below_step (by repeat (first | (with_reducible first | exact HB.out | apply below_alloc | apply pw_below_drewN | apply below_drew1) | exact HB.out)) hb); clear HB; have HB := n0_; clear n0_; (try clear hb); (try clear hb2); (try clear hk); (try clear hi)) | (go_at_call 15; (with_reducible refine (mask_Count.calls t224 t229 _ A20.out).mono ?_); rintro e w30 ⟨rfl, hb⟩; have n0_ := Aside0.mk (below_step (by repeat (first | (with_reducible first | exact HB.out | apply below_alloc | apply pw_below_drewN | apply below_drew1) | exact HB.out)) hb); clear HB; have HB := n0_; clear n0_; (try clear hb); (try clear hb2); (try clear hk); (try clear hi)))
                  go_meet
                  case rel => exact ⟨_, (true), (by first | rfl | (simp; done) | (simp [*]; done)), H', ⟨by have := HJ7.out; first | omega | exact Nat.le_refl _⟩, ⟨by repeat (first | (with_reducible first | exact HB.out | apply below_alloc | apply pw_below_drewN | apply below_drew1) | exact HB.out)⟩⟩
            · replace c16 := Bool.eq_false_iff.mpr c16
              subst c16
              have H1 : (hypercubelaw01_MaskSets.j1 kj7 a0 a1 a2 t223 t224 true) = some r := by rw [if_neg (show ¬ (false = true) by decide)] at H; exact H
              clear H
              have H := H1
              clear H1
              have H' := Aside0.mk H
              clear H
              go_wp2_with (first | ((with_reducible refine gate_callee (f := 22) rfl ?_); refine goesL_ (some 34) rfl rfl Tryd.func22 (by kernel_rfl) rfl #[.int .u32 t223, .int .i64 a1] rfl (by (try simp only [List.map_toArray, List.map_cons, List.map_nil]); first | done | rfl | (simp only [List.length_drop, List.length_take]; rfl)) ?_; (with_reducible refine (mask_Has.calls t223 a1 false _ A15.out).mono ?_); rintro e w' ⟨rfl, ⟨nd, rfl⟩⟩; refine ⟨_, rfl, ?_⟩))
              go_meet
              case rel => exact ⟨_, (true), (by first | rfl | (simp; done) | (simp [*]; done)), H', ⟨by have := HJ7.out; first | omega | exact Nat.le_refl _⟩, ⟨by repeat (first | (with_reducible first | exact HB.out | apply below_alloc | apply pw_below_drewN | apply below_drew1) | exact HB.out)⟩⟩
          case rest =>
            clear HC14
            try clear c1
            try clear c2
            try clear p2
            try clear c5
            try clear p6
            try clear c9
            try clear c10
            try clear c10b0
            try clear c11
            try clear c12
            try clear c12b0
            try clear c12b1
            try clear c16
            try clear c18
            try clear c21
            try clear c21b0
            try clear c21b1
            try clear c22
            try clear c23
            try clear c23b0
            try clear c23b1
            try clear p2
            obtain ⟨kq, x62_13, rfl, HA, HJ13, HB⟩ := hcut
            cases kq with
            | zero => exact absurd HA.out (by simp [hypercubelaw01_MaskSets.j1])
            | succ kj13 =>
              have H := HA.out
              clear HA
              simp only [hypercubelaw01_MaskSets.j1] at H
              by_cases c31 : x62_13 = true
              · subst c31
                have H1 : (some false) = some r := by rw [if_pos rfl] at H; exact H
                clear H
                have H := H1
                clear H1
                obtain rfl := Option.some.inj H
                go_wp2
                go_ret
                exact ⟨by first | rfl | (simp [errW_none, errW_some] <;> rfl) | (simp [*, errW_none, errW_some] <;> rfl), by repeat (first | (with_reducible first | exact HB.out | apply below_alloc | apply pw_below_drewN | apply below_drew1) | exact HB.out)⟩
              · replace c31 := Bool.eq_false_iff.mpr c31
                subst c31
                have H1 : (if a2 = a1 then (some true) else ((mask_Has.f t223 a2).bind fun t232 => ((mask_Has.f a0 a2).bind fun t233 => (if (t232 == t233) = true then ((mask_Has.f t224 a2).bind fun t234 => ((mask_Has.f a0 a2).bind fun t235 => (some (t234 == t235)))) else (some false))))) = some r := by rw [if_neg (show ¬ (false = true) by decide)] at H; exact H
                clear H
                have H := H1
                clear H1
                by_cases c32 : a2 = a1
                · rw [if_pos c32] at H
                  have c32b0 : (a2 == a1) = true := beq_iff_eq.mpr c32
                  have c32b1 : (a2 != a1) = false := bne_eq_false_iff_eq.mpr c32
                  clear c32
                  obtain rfl := Option.some.inj H
                  go_wp2
                  go_ret
                  exact ⟨by first | rfl | (simp [errW_none, errW_some] <;> rfl) | (simp [*, errW_none, errW_some] <;> rfl), by repeat (first | (with_reducible first | exact HB.out | apply below_alloc | apply pw_below_drewN | apply below_drew1) | exact HB.out)⟩
                · rw [if_neg c32] at H
                  have c32b0 : (a2 == a1) = false := beq_eq_false_iff_ne.mpr c32
                  have c32b1 : (a2 != a1) = true := bne_iff_ne.mpr c32
                  replace H := Option.bind_eq_some_iff.mp H
                  obtain ⟨t232, A330, H⟩ := H
                  replace H : ((mask_Has.f a0 a2).bind fun t233 => (if (t232 == t233) = true then ((mask_Has.f t224 a2).bind fun t234 => ((mask_Has.f a0 a2).bind fun t235 => (some (t234 == t235)))) else (some false))) = some r := H
                  have A33 := Aside0.mk A330
                  clear A330
                  replace H := Option.bind_eq_some_iff.mp H
                  obtain ⟨t233, A340, H⟩ := H
                  replace H : (if (t232 == t233) = true then ((mask_Has.f t224 a2).bind fun t234 => ((mask_Has.f a0 a2).bind fun t235 => (some (t234 == t235)))) else (some false)) = some r := H
                  have A34 := Aside0.mk A340
                  clear A340
                  by_cases c35 : (t232 == t233) = true
                  · rw [if_pos c35] at H
                    have c35b0 : (t232 == t233) = true := c35
                    (try (have c35b1 : decide (t232 = t233) = true := by simpa using c35))
                    (try (have c35b2 : (t232 == t233) = true := by simpa using c35))
                    clear c35
                    replace H := Option.bind_eq_some_iff.mp H
                    obtain ⟨t234, A360, H⟩ := H
                    replace H : ((mask_Has.f a0 a2).bind fun t235 => (some (t234 == t235))) = some r := H
                    have A36 := Aside0.mk A360
                    clear A360
                    replace H := Option.bind_eq_some_iff.mp H
                    obtain ⟨t235, A370, H⟩ := H
                    replace H : (some (t234 == t235)) = some r := H
                    have A37 := Aside0.mk A370
                    clear A370
                    obtain rfl := Option.some.inj H
                    have e_t235 : Aside0 (t233 = t235) := ⟨Option.some.inj (A34.out.symm.trans A37.out)⟩
                    go_wp2_with (first | (go_at_call 22; (with_reducible refine (mask_Has.calls t223 a2 t232 _ A33.out).mono ?_); rintro e w' ⟨rfl, ⟨nd, rfl⟩⟩) | (go_at_call 22; (with_reducible refine (mask_Has.calls a0 a2 t233 _ A34.out).mono ?_); rintro e w' ⟨rfl, ⟨nd, rfl⟩⟩) | (go_at_call 22; (with_reducible refine (mask_Has.calls t224 a2 t234 _ A36.out).mono ?_); rintro e w' ⟨rfl, ⟨nd, rfl⟩⟩) | (go_at_call 22; (with_reducible refine (mask_Has.calls a0 a2 t235 _ A37.out).mono ?_); rintro e w' ⟨rfl, ⟨nd, rfl⟩⟩))
                    go_ret
                    exact ⟨by first | rfl | (rw [e_t235.out]; rfl) | (simp [errW_none, errW_some] <;> rfl) | (simp [*, errW_none, errW_some] <;> rfl), by repeat (first | (with_reducible first | exact HB.out | apply below_alloc | apply pw_below_drewN | apply below_drew1) | exact HB.out)⟩
                  · rw [if_neg c35] at H
                    have c35b0 : (t232 == t233) = false := by simpa using c35
                    (try (have c35b1 : decide (t232 = t233) = false := by simpa using c35))
                    (try (have c35b2 : (t232 == t233) = false := by simpa using c35))
                    (try (have c35b3 : ¬ (t232 = t233) := by simpa using c35))
                    clear c35
                    obtain rfl := Option.some.inj H
                    go_wp2_with (first | (go_at_call 22; (with_reducible refine (mask_Has.calls t223 a2 t232 _ A33.out).mono ?_); rintro e w' ⟨rfl, ⟨nd, rfl⟩⟩) | (go_at_call 22; (with_reducible refine (mask_Has.calls a0 a2 t233 _ A34.out).mono ?_); rintro e w' ⟨rfl, ⟨nd, rfl⟩⟩))
                    go_ret
                    exact ⟨by first | rfl | (simp [errW_none, errW_some] <;> rfl) | (simp [*, errW_none, errW_some] <;> rfl), by repeat (first | (with_reducible first | exact HB.out | apply below_alloc | apply pw_below_drewN | apply below_drew1) | exact HB.out)⟩
  · replace c5 := Bool.eq_false_iff.mpr c5
    subst c5
    have H1 : (some false) = some r := by rw [if_neg (show ¬ (false = true) by decide)] at H; exact H
    clear H
    have H := H1
    clear H1
    obtain rfl := Option.some.inj H
    go_enter Tryd.func9, Tryd.ntmps9
    go_wp2_with (first | ((with_reducible refine gate_callee (f := 12) rfl ?_); refine goesL_ (some 9) rfl rfl Tryd.func12 (by kernel_rfl) rfl #[] rfl (by (try simp only [List.map_toArray, List.map_cons, List.map_nil]); first | done | rfl | (simp only [List.length_drop, List.length_take]; rfl)) ?_; (with_reducible refine (hypercubelaw01_works.calls (HT := ⟨Tab.below HT.out (by repeat (first | (with_reducible first | exact HB.out | apply below_alloc | apply pw_below_drewN | apply below_drew1) | exact HB.out))⟩) k  false _ A4.out).mono ?_); rintro e w38 ⟨rfl, hb⟩; refine ⟨_, rfl, ?_⟩; have n0_ := Aside0.mk (below_step (by repeat (first | (with_reducible first | exact HB.out | apply below_alloc | apply pw_below_drewN | apply below_drew1) | exact HB.out)) hb); clear HB; have HB := n0_; clear n0_; (try clear hb); (try clear hb2); (try clear hk); (try clear hi)))
    go_ret
    exact ⟨by first | rfl | (simp [errW_none, errW_some] <;> rfl) | (simp [*, errW_none, errW_some] <;> rfl), by repeat (first | (with_reducible first | exact HB.out | apply below_alloc | apply pw_below_drewN | apply below_drew1) | exact HB.out)⟩

/-- THE ONE PURE STATEMENT of hypercubelaw01_MaskSets: yours. -/
def hypercubelaw01_MaskSets.Pure : Prop := ∀ (a0 : Int) (a1 : Int) (a2 : Int), (Lit.int .u32 a0).wf = true → (Lit.int .i64 a1).wf = true → (Lit.int .i64 a2).wf = true → ∃ k, hypercubelaw01_MaskSets.f k a0 a1 a2 = some true
theorem hypercubelaw01_MaskSets.walk (P : hypercubelaw01_MaskSets.Pure) (a0 : Int) (a1 : Int) (a2 : Int) (w : World) (HT : Aside0 (Tab w)) (w0 : (Lit.int .u32 a0).wf = true) (w1 : (Lit.int .i64 a1).wf = true) (w2 : (Lit.int .i64 a2).wf = true) :
    Calls Tryd.prog 9 #[.int .u32 a0, .int .i64 a1, .int .i64 a2] w fun e w' => e = .returned (.bool true) ∧ Below w.heap.size w w' := by
  obtain ⟨k, h⟩ := P a0 a1 a2 w0 w1 w2
  refine (hypercubelaw01_MaskSets.calls (HT := HT) k a0 a1 a2 true w h).mono ?_
  rintro e w' ⟨rfl, hd⟩
  exact ⟨rfl, hd⟩

end Go.Proofs.YtidpieakofhmiaaDoor.XMask
