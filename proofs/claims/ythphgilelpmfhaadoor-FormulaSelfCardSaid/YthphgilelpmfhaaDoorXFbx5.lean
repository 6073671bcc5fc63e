-- Written for this claim by a program of ours (wip/xp.py), out of the translation and of hand-written contracts.
import Derived.Test.YthphgilelpmfhaaDoorXFbx0
import Derived.Test.YthphgilelpmfhaaDoorXFbx2
import Derived.Test.YthphgilelpmfhaaDoorXFbx3
import Derived.Test.YthphgilelpmfhaaDoorXFbx4
namespace Go.Proofs.YthphgilelpmfhaaDoor.XFb
open Go.RowKit Go.Proofs.YthphgilelpmfhaaDoorW.PrintWords Go.Proofs.YthphgilelpmfhaaDoorW.PrintLast Go.Proofs.YthphgilelpmfhaaDoorW.PrintMore
attribute [local go_sem] max2_int min2_int max_two min_two max_three min_three max_four min_four   -- for this text's walks alone
set_option linter.unusedVariables false
set_option linter.unusedSimpArgs false

/-! ### hypercubelaw03_FormulaSelf: function 7 -/
mutual
def hypercubelaw03_FormulaSelf.j0 : Nat → List (S52) → Int → List (S52) → Bool → Option (Bool)
  | 0, _, _, _, _ => none
  | k + 1, x0, x1, x2, x41 => if x41 = true then (some true) else ((formula_Dim.f x1).bind fun bt251 => ((formula_Put.f x0 x1 bt251.1).bind fun bt255 => (if bt251.2 = 0 then (if bt255.2 = 0 then ((hypercuberef02_Same.f k bt255.1 x0).bind fun t259 => (hypercubelaw03_FormulaSelf.j1 k x0 x1 x2 (!t259))) else (hypercubelaw03_FormulaSelf.j1 k x0 x1 x2 true)) else (hypercubelaw03_FormulaSelf.j1 k x0 x1 x2 true))))
def hypercubelaw03_FormulaSelf.j1 : Nat → List (S52) → Int → List (S52) → Bool → Option (Bool)
  | 0, _, _, _, _ => none
  | k + 1, x0, x1, x2, x65 => if x65 = true then (some false) else ((formula_Put.f x0 x1 x2).bind fun bt260 => (if bt260.2 = 0 then (if 0 ≤ (IntKind.u64.wrap (x1)) then ((formula_Dims.f k x2).bind fun t264 => (if (Go.bits .and .u32 t264 (shl .u32 1 (IntKind.u64.wrap (x1)))) = 0 then ((formula_Dims.f k bt260.1).bind fun t265 => (hypercubelaw03_FormulaSelf.j2 k x0 bt260.1 (shl .u32 1 (IntKind.u64.wrap (x1))) ((Go.bits .and .u32 t265 (shl .u32 1 (IntKind.u64.wrap (x1)))) != 0))) else (hypercubelaw03_FormulaSelf.j2 k x0 bt260.1 (shl .u32 1 (IntKind.u64.wrap (x1))) false))) else (none)) else (if bt260.2 = 3 then (some ((bt260.1.length : Int) == 0)) else (some false))))
def hypercubelaw03_FormulaSelf.j2 : Nat → List (S52) → List (S52) → Int → Bool → Option (Bool)
  | 0, _, _, _, _ => none
  | k + 1, x0, x11, x13, x96 => if x96 = true then (some false) else ((formula_Dims.f k x0).bind fun t266 => (if (Go.bits .and .u32 t266 x13) = 0 then ((hypercuberef02_Same.f k x11 x0).bind fun t267 => (some t267)) else (some true)))
end
def hypercubelaw03_FormulaSelf.f (k : Nat) (l0 : List (S52)) (a1 : Int) (l2 : List (S52)) : Option (Bool) := (hypercubelaw03_works.f k).bind fun t248 => (if t248 = true then (if (l0.length : Int) > 20 then (hypercubelaw03_FormulaSelf.j0 k l0 a1 l2 true) else (if (l2.length : Int) > 20 then (hypercubelaw03_FormulaSelf.j0 k l0 a1 l2 true) else ((formula_Right.f k l0).bind fun t249 => (if t249 = true then ((formula_Right.f k l2).bind fun t250 => (if t250 = true then (if a1 < 0 then (hypercubelaw03_FormulaSelf.j0 k l0 a1 l2 true) else (hypercubelaw03_FormulaSelf.j0 k l0 a1 l2 (decide (a1 ≥ 24)))) else (hypercubelaw03_FormulaSelf.j0 k l0 a1 l2 true))) else (hypercubelaw03_FormulaSelf.j0 k l0 a1 l2 true))))) else (some false))
theorem hypercubelaw03_FormulaSelf.mono_l : ∀ k, (∀ y0 y1 y2 y3, LeO (hypercubelaw03_FormulaSelf.j0 k y0 y1 y2 y3) (hypercubelaw03_FormulaSelf.j0 (k + 1) y0 y1 y2 y3)) ∧ (∀ y0 y1 y2 y3, LeO (hypercubelaw03_FormulaSelf.j1 k y0 y1 y2 y3) (hypercubelaw03_FormulaSelf.j1 (k + 1) y0 y1 y2 y3)) ∧ (∀ y0 y1 y2 y3, LeO (hypercubelaw03_FormulaSelf.j2 k y0 y1 y2 y3) (hypercubelaw03_FormulaSelf.j2 (k + 1) y0 y1 y2 y3))
  | 0 => ⟨fun _ _ _ _ r h => by simp [hypercubelaw03_FormulaSelf.j0] at h, fun _ _ _ _ r h => by simp [hypercubelaw03_FormulaSelf.j1] at h, fun _ _ _ _ r h => by simp [hypercubelaw03_FormulaSelf.j2] at h⟩
  | k + 1 => by
    obtain ⟨ih0, ih1, ih2⟩ := hypercubelaw03_FormulaSelf.mono_l k
    refine ⟨?_, ?_, ?_⟩
    · intro y0 y1 y2 y3
      unfold hypercubelaw03_FormulaSelf.j0
      repeat' first
      | (with_reducible exact ih0 _ _ _ _)
      | (with_reducible exact ih1 _ _ _ _)
      | (with_reducible exact ih2 _ _ _ _)
      | (with_reducible exact formula_Dims.mono _ _)
      | (with_reducible exact formula_Right.mono _ _)
      | (with_reducible exact hypercubelaw03_works.mono _)
      | (with_reducible exact hypercuberef02_Same.mono _ _ _)
      | (with_reducible exact LeO.refl _)
      | (with_reducible exact LeO.none _)
      | (with_reducible refine LeO.ite ?_ ?_)
      | (with_reducible refine LeO.bind ?_ (fun _ => ?_))
      | exact ih0 _ _ _ _
      | exact ih1 _ _ _ _
      | exact ih2 _ _ _ _
      | exact formula_Dims.mono _ _
      | exact formula_Right.mono _ _
      | exact hypercubelaw03_works.mono _
      | exact hypercuberef02_Same.mono _ _ _
      | exact LeO.none _
      | refine LeO.ite ?_ ?_
      | refine LeO.bind ?_ (fun _ => ?_)
    · intro y0 y1 y2 y3
      unfold hypercubelaw03_FormulaSelf.j1
      repeat' first
      | (with_reducible exact ih0 _ _ _ _)
      | (with_reducible exact ih1 _ _ _ _)
      | (with_reducible exact ih2 _ _ _ _)
      | (with_reducible exact formula_Dims.mono _ _)
      | (with_reducible exact formula_Right.mono _ _)
      | (with_reducible exact hypercubelaw03_works.mono _)
      | (with_reducible exact hypercuberef02_Same.mono _ _ _)
      | (with_reducible exact LeO.refl _)
      | (with_reducible exact LeO.none _)
      | (with_reducible refine LeO.ite ?_ ?_)
      | (with_reducible refine LeO.bind ?_ (fun _ => ?_))
      | exact ih0 _ _ _ _
      | exact ih1 _ _ _ _
      | exact ih2 _ _ _ _
      | exact formula_Dims.mono _ _
      | exact formula_Right.mono _ _
      | exact hypercubelaw03_works.mono _
      | exact hypercuberef02_Same.mono _ _ _
      | exact LeO.none _
      | refine LeO.ite ?_ ?_
      | refine LeO.bind ?_ (fun _ => ?_)
    · intro y0 y1 y2 y3
      unfold hypercubelaw03_FormulaSelf.j2
      repeat' first
      | (with_reducible exact ih0 _ _ _ _)
      | (with_reducible exact ih1 _ _ _ _)
      | (with_reducible exact ih2 _ _ _ _)
      | (with_reducible exact formula_Dims.mono _ _)
      | (with_reducible exact formula_Right.mono _ _)
      | (with_reducible exact hypercubelaw03_works.mono _)
      | (with_reducible exact hypercuberef02_Same.mono _ _ _)
      | (with_reducible exact LeO.refl _)
      | (with_reducible exact LeO.none _)
      | (with_reducible refine LeO.ite ?_ ?_)
      | (with_reducible refine LeO.bind ?_ (fun _ => ?_))
      | exact ih0 _ _ _ _
      | exact ih1 _ _ _ _
      | exact ih2 _ _ _ _
      | exact formula_Dims.mono _ _
      | exact formula_Right.mono _ _
      | exact hypercubelaw03_works.mono _
      | exact hypercuberef02_Same.mono _ _ _
      | exact LeO.none _
      | refine LeO.ite ?_ ?_
      | refine LeO.bind ?_ (fun _ => ?_)
theorem hypercubelaw03_FormulaSelf.mono : ∀ a0 a1 a2 k, LeO (hypercubelaw03_FormulaSelf.f k a0 a1 a2) (hypercubelaw03_FormulaSelf.f (k + 1) a0 a1 a2) := by
  intro a0 a1 a2 k
  obtain ⟨ih0, ih1, ih2⟩ := hypercubelaw03_FormulaSelf.mono_l k
  unfold hypercubelaw03_FormulaSelf.f
  repeat' first
      | (with_reducible exact ih0 _ _ _ _)
      | (with_reducible exact ih1 _ _ _ _)
      | (with_reducible exact ih2 _ _ _ _)
      | (with_reducible exact formula_Dims.mono _ _)
      | (with_reducible exact formula_Right.mono _ _)
      | (with_reducible exact hypercubelaw03_works.mono _)
      | (with_reducible exact hypercuberef02_Same.mono _ _ _)
      | (with_reducible exact LeO.refl _)
      | (with_reducible exact LeO.none _)
      | (with_reducible refine LeO.ite ?_ ?_)
      | (with_reducible refine LeO.bind ?_ (fun _ => ?_))
      | exact ih0 _ _ _ _
      | exact ih1 _ _ _ _
      | exact ih2 _ _ _ _
      | exact formula_Dims.mono _ _
      | exact formula_Right.mono _ _
      | exact hypercubelaw03_works.mono _
      | exact hypercuberef02_Same.mono _ _ _
      | exact LeO.none _
      | refine LeO.ite ?_ ?_
      | refine LeO.bind ?_ (fun _ => ?_)
set_option maxHeartbeats 8000000 in
set_option maxRecDepth 100000 in
theorem hypercubelaw03_FormulaSelf.calls (k : Nat) (A0 : Option Addr) (c0 : Nat) (l0 : List (S52)) (a1 : Int) (A2 : Option Addr) (c2 : Nat) (l2 : List (S52)) (r : Bool) (w : World) (HT : Aside0 (Tab w)) (hr_ : Aside0 (r = true)) (hr0 : Kd.C k52 w A0 l0.length l0) (hc0 : l0.length ≤ c0) (hr2 : Kd.C k52 w A2 l2.length l2) (hc2 : l2.length ≤ c2) (h : hypercubelaw03_FormulaSelf.f k l0 a1 l2 = some r) :
    Calls Tryd.prog 7 #[.slice A0 l0.length c0, .int .i64 a1, .slice A2 l2.length c2] w fun e w' => e = .returned (.bool r) ∧ Below w.heap.size w w' := by
  have HR0 := Aside0.mk hr0
  have HC0 := Aside0.mk hc0
  clear hr0 hc0
  have HR2 := Aside0.mk hr2
  have HC2 := Aside0.mk hc2
  clear hr2 hc2
  have HB := Aside0.mk (Below.refl w.heap.size w)
  have H : ((hypercubelaw03_works.f k).bind fun t248 => (if t248 = true then (if (l0.length : Int) > 20 then (hypercubelaw03_FormulaSelf.j0 k l0 a1 l2 true) else (if (l2.length : Int) > 20 then (hypercubelaw03_FormulaSelf.j0 k l0 a1 l2 true) else ((formula_Right.f k l0).bind fun t249 => (if t249 = true then ((formula_Right.f k l2).bind fun t250 => (if t250 = true then (if a1 < 0 then (hypercubelaw03_FormulaSelf.j0 k l0 a1 l2 true) else (hypercubelaw03_FormulaSelf.j0 k l0 a1 l2 (decide (a1 ≥ 24)))) else (hypercubelaw03_FormulaSelf.j0 k l0 a1 l2 true))) else (hypercubelaw03_FormulaSelf.j0 k l0 a1 l2 true))))) else (some false))) = some r := h
  clear h
  replace H := Option.bind_eq_some_iff.mp H
  obtain ⟨t248, A40, H⟩ := H
  replace H : (if t248 = true then (if (l0.length : Int) > 20 then (hypercubelaw03_FormulaSelf.j0 k l0 a1 l2 true) else (if (l2.length : Int) > 20 then (hypercubelaw03_FormulaSelf.j0 k l0 a1 l2 true) else ((formula_Right.f k l0).bind fun t249 => (if t249 = true then ((formula_Right.f k l2).bind fun t250 => (if t250 = true then (if a1 < 0 then (hypercubelaw03_FormulaSelf.j0 k l0 a1 l2 true) else (hypercubelaw03_FormulaSelf.j0 k l0 a1 l2 (decide (a1 ≥ 24)))) else (hypercubelaw03_FormulaSelf.j0 k l0 a1 l2 true))) else (hypercubelaw03_FormulaSelf.j0 k l0 a1 l2 true))))) else (some false)) = some r := H
  have A4 := Aside0.mk A40
  clear A40
  by_cases c5 : t248 = true
  · subst c5
    have H1 : (if (l0.length : Int) > 20 then (hypercubelaw03_FormulaSelf.j0 k l0 a1 l2 true) else (if (l2.length : Int) > 20 then (hypercubelaw03_FormulaSelf.j0 k l0 a1 l2 true) else ((formula_Right.f k l0).bind fun t249 => (if t249 = true then ((formula_Right.f k l2).bind fun t250 => (if t250 = true then (if a1 < 0 then (hypercubelaw03_FormulaSelf.j0 k l0 a1 l2 true) else (hypercubelaw03_FormulaSelf.j0 k l0 a1 l2 (decide (a1 ≥ 24)))) else (hypercubelaw03_FormulaSelf.j0 k l0 a1 l2 true))) else (hypercubelaw03_FormulaSelf.j0 k l0 a1 l2 true))))) = some r := by rw [if_pos rfl] at H; exact H
    clear H
    have H := H1
    clear H1
    have HC6 := Aside0.mk H
    clear H
    go_enter Tryd.func7, Tryd.ntmps7
    go_upto_region 3 with (first | ((with_reducible refine gate_callee (f := 11) rfl ?_); refine goesL_ (some 14) rfl rfl Tryd.func11 (by kernel_rfl) rfl #[] rfl (by (try simp only [List.map_toArray, List.map_cons, List.map_nil]); first | done | rfl | (simp only [List.length_drop, List.length_take]; rfl)) ?_; (with_reducible refine (hypercubelaw03_works.calls (HT := ⟨Tab.below HT.out (by repeat (first | (with_reducible first | exact HB.out | apply below_alloc | apply pw_below_drewN | apply below_drew1) | exact HB.out))⟩) k  true _ A4.out).mono ?_); rintro e w7 ⟨rfl, hb⟩; refine ⟨_, rfl, ?_⟩; have n0_ := Aside0.mk (below_step (by repeat (first | (with_reducible first | exact HB.out | apply below_alloc | apply pw_below_drewN | apply below_drew1) | exact HB.out)) hb); clear HB; have HB := n0_; clear n0_; (try clear hb); (try clear hb2); (try clear hk); (try clear hi)))
    (try simp only [Act.put, List.setIfInBounds_toArray, List.set_cons_zero, List.set_cons_succ])
    go_cut [41] (fun v41 wc => ∃ (kq : Nat) (x41_5 : Bool), v41 = .bool x41_5 ∧ Aside0 (hypercubelaw03_FormulaSelf.j0 kq l0 a1 l2 x41_5 = some r) ∧ Aside0 (kq ≤ k) ∧ Aside0 (Below w.heap.size w wc))
    case first =>
      have H := HC6.out
      clear HC6
      by_cases c8 : (l0.length : Int) > 20
      · rw [if_pos c8] at H
        have c8b0 : decide (20 < (l0.length : Int)) = true := decide_eq_true c8
        have c8b1 : decide (20 < l0.length) = true := decide_eq_true (by omega)
        clear c8
        (first | rw [c8b0] | (simp only [i64_w, i32_w]; rw [c8b0]) | skip)
        have H' := Aside0.mk H
        clear H
        go_wp2
        go_meet
        case rel => exact ⟨_, (true), (by first | rfl | (simp; done) | (simp [*]; done)), H', ⟨by first | omega | exact Nat.le_refl _⟩, ⟨by repeat (first | (with_reducible first | exact HB.out | apply below_alloc | apply pw_below_drewN | apply below_drew1) | exact HB.out)⟩⟩
      · rw [if_neg c8] at H
        have c8b0 : decide (20 < (l0.length : Int)) = false := decide_eq_false c8
        have c8b1 : decide (20 < l0.length) = false := decide_eq_false (by omega)
        clear c8
        (first | rw [c8b0] | (simp only [i64_w, i32_w]; rw [c8b0]) | skip)
        by_cases c9 : (l2.length : Int) > 20
        · rw [if_pos c9] at H
          have c9b0 : decide (20 < (l2.length : Int)) = true := decide_eq_true c9
          have c9b1 : decide (20 < l2.length) = true := decide_eq_true (by omega)
          clear c9
          have H' := Aside0.mk H
          clear H
          go_wp2
          go_meet
          case rel => exact ⟨_, (true), (by first | rfl | (simp; done) | (simp [*]; done)), H', ⟨by first | omega | exact Nat.le_refl _⟩, ⟨by repeat (first | (with_reducible first | exact HB.out | apply below_alloc | apply pw_below_drewN | apply below_drew1) | exact HB.out)⟩⟩
        · rw [if_neg c9] at H
          have c9b0 : decide (20 < (l2.length : Int)) = false := decide_eq_false c9
          have c9b1 : decide (20 < l2.length) = false := decide_eq_false (by omega)
          clear c9
          replace H := Option.bind_eq_some_iff.mp H
          obtain ⟨t249, A100, H⟩ := H
          replace H : (if t249 = true then ((formula_Right.f k l2).bind fun t250 => (if t250 = true then (if a1 < 0 then (hypercubelaw03_FormulaSelf.j0 k l0 a1 l2 true) else (hypercubelaw03_FormulaSelf.j0 k l0 a1 l2 (decide (a1 ≥ 24)))) else (hypercubelaw03_FormulaSelf.j0 k l0 a1 l2 true))) else (hypercubelaw03_FormulaSelf.j0 k l0 a1 l2 true)) = some r := H
          have A10 := Aside0.mk A100
          clear A100
          by_cases c11 : t249 = true
          · subst c11
            have H1 : ((formula_Right.f k l2).bind fun t250 => (if t250 = true then (if a1 < 0 then (hypercubelaw03_FormulaSelf.j0 k l0 a1 l2 true) else (hypercubelaw03_FormulaSelf.j0 k l0 a1 l2 (decide (a1 ≥ 24)))) else (hypercubelaw03_FormulaSelf.j0 k l0 a1 l2 true))) = some r := by rw [if_pos rfl] at H; exact H
            clear H
            have H := H1
            clear H1
            replace H := Option.bind_eq_some_iff.mp H
            obtain ⟨t250, A120, H⟩ := H
            replace H : (if t250 = true then (if a1 < 0 then (hypercubelaw03_FormulaSelf.j0 k l0 a1 l2 true) else (hypercubelaw03_FormulaSelf.j0 k l0 a1 l2 (decide (a1 ≥ 24)))) else (hypercubelaw03_FormulaSelf.j0 k l0 a1 l2 true)) = some r := H
            have A12 := Aside0.mk A120
            clear A120
            by_cases c13 : t250 = true
            · subst c13
              have H1 : (if a1 < 0 then (hypercubelaw03_FormulaSelf.j0 k l0 a1 l2 true) else (hypercubelaw03_FormulaSelf.j0 k l0 a1 l2 (decide (a1 ≥ 24)))) = some r := by rw [if_pos rfl] at H; exact H
              clear H
              have H := H1
              clear H1
              by_cases c14 : a1 < 0
              · rw [if_pos c14] at H
                have c14b0 : decide (a1 < 0) = true := decide_eq_true c14
                clear c14
                have H' := Aside0.mk H
                clear H
                go_wp2_with (first | (go_at_call 21; (with_reducible refine (formula_Right.calls k _ _ l0 true _ ?side1 ?side2 A10.out).mono ?_); (case side1 => repeat (first | exact (Kd.C_below HR0.out HB.out) | (with_reducible refine Kd.C_alloc ?_ _) | (with_reducible refine Kd.C_drewN ?_ _) | (with_reducible refine Kd.C_drew ?_))); (case side2 => exact HC0.out); rintro e w15 ⟨rfl, hb⟩; have n0_ := Aside0.mk (below_step (by repeat (first | (with_reducible first | exact HB.out | apply below_alloc | apply pw_below_drewN | apply below_drew1) | exact HB.out)) hb); clear HB; have HB := n0_; clear n0_; (try clear hb); (try clear hb2); (try clear hk); (try clear hi)) | (go_at_call 21; (with_reducible refine (formula_Right.calls k _ _ l2 true _ ?side1 ?side2 A12.out).mono ?_); (case side1 => repeat (first | exact (Kd.C_below HR2.out HB.out) | (with_reducible refine Kd.C_alloc ?_ _) | (with_reducible refine Kd.C_drewN ?_ _) | (with_reducible refine Kd.C_drew ?_))); (case side2 => exact HC2.out); rintro e w16 ⟨rfl, hb⟩; have n0_ := Aside0.mk (below_step (by repeat (first | (with_reducible first | exact HB.out | apply below_alloc | apply pw_below_drewN | apply below_drew1) | exact HB.out)) hb); clear HB; have HB := n0_; clear n0_; (try clear hb); (try clear hb2); (try clear hk); (try clear hi)))
                go_meet
                case rel => exact ⟨_, (true), (by first | rfl | (simp; done) | (simp [*]; done)), H', ⟨by first | omega | exact Nat.le_refl _⟩, ⟨by repeat (first | (with_reducible first | exact HB.out | apply below_alloc | apply pw_below_drewN | apply below_drew1) | exact HB.out)⟩⟩
              · rw [if_neg c14] at H
                have c14b0 : decide (a1 < 0) = false := decide_eq_false c14
                clear c14
                have H' := Aside0.mk H
                clear H
                go_wp2_with (first | (go_at_call 21; (with_reducible refine (formula_Right.calls k _ _ l0 true _ ?side1 ?side2 A10.out).mono ?_); (case side1 => repeat (first | exact (Kd.C_below HR0.out HB.out) | (with_reducible refine Kd.C_alloc ?_ _) | (with_reducible refine Kd.C_drewN ?_ _) | (with_reducible refine Kd.C_drew ?_))); (case side2 => exact HC0.out); rintro e w17 ⟨rfl, hb⟩; have n0_ := Aside0.mk (below_step (by repeat (first | (with_reducible first | exact HB.out | apply below_alloc | apply pw_below_drewN | apply below_drew1) | exact HB.out)) hb); clear HB; have HB := n0_; clear n0_; (try clear hb); (try clear hb2); (try clear hk); (try clear hi)) | (go_at_call 21; (with_reducible refine (formula_Right.calls k _ _ l2 true _ ?side1 ?side2 A12.out).mono ?_); (case side1 => repeat (first | exact (Kd.C_below HR2.out HB.out) | (with_reducible refine Kd.C_alloc ?_ _) | (with_reducible refine Kd.C_drewN ?_ _) | (with_reducible refine Kd.C_drew ?_))); (case side2 => exact HC2.out); rintro e w18 ⟨rfl, hb⟩; have n0_ := Aside0.mk (below_step (by repeat (first | (with_reducible first | exact HB.out | apply below_alloc | apply pw_below_drewN | apply below_drew1) | exact HB.out)) hb); clear HB; have HB := n0_; clear n0_; (try clear hb); (try clear hb2); (try clear hk); (try clear hi)))
                go_meet
                case rel => exact ⟨_, (decide (a1 ≥ 24)), (by first | rfl | (simp; done) | (simp [*]; done)), H', ⟨by first | omega | exact Nat.le_refl _⟩, ⟨by repeat (first | (with_reducible first | exact HB.out | apply below_alloc | apply pw_below_drewN | apply below_drew1) | exact HB.out)⟩⟩
            · replace c13 := Bool.eq_false_iff.mpr c13
              subst c13
              have H1 : (hypercubelaw03_FormulaSelf.j0 k l0 a1 l2 true) = some r := by rw [if_neg (show ¬ (false = true) by decide)] at H; exact H
              clear H
              have H := H1
              clear H1
              have H' := Aside0.mk H
              clear H
              go_wp2_with (first | (go_at_call 21; (with_reducible refine (formula_Right.calls k _ _ l0 true _ ?side1 ?side2 A10.out).mono ?_); (case side1 => repeat (first | exact (Kd.C_below HR0.out HB.out) | (with_reducible refine Kd.C_alloc ?_ _) | (with_reducible refine Kd.C_drewN ?_ _) | (with_reducible refine Kd.C_drew ?_))); (case side2 => exact HC0.out); rintro e w19 ⟨rfl, hb⟩; have n0_ := Aside0.mk (below_step (by repeat (first | (with_reducible first | exact HB.out | apply below_alloc | apply pw_below_drewN | apply below_drew1) | exact HB.out)) hb); clear HB; have HB := n0_; clear n0_; (try clear hb); (try clear hb2); (try clear hk); (try clear hi)) | (go_at_call 21; (with_reducible refine (formula_Right.calls k _ _ l2 false _ ?side1 ?side2 A12.out).mono ?_); (case side1 => repeat (first | exact (Kd.C_below HR2.out HB.out) | (with_reducible refine Kd.C_alloc ?_ _) | (with_reducible refine Kd.C_drewN ?_ _) | (with_reducible refine Kd.C_drew ?_))); (case side2 => exact HC2.out); rintro e w20 ⟨rfl, hb⟩; have n0_ := Aside0.mk (below_step (by repeat (first | (with_reducible first | exact HB.out | apply below_alloc | apply pw_below_drewN | apply below_drew1) | exact HB.out)) hb); clear HB; have HB := n0_; clear n0_; (try clear hb); (try clear hb2); (try clear hk); (try clear hi)))
              go_meet
              case rel => exact ⟨_, (true), (by first | rfl | (simp; done) | (simp [*]; done)), H', ⟨by first | omega | exact Nat.le_refl _⟩, ⟨by repeat (first | (with_reducible first | exact HB.out | apply below_alloc | apply pw_below_drewN | apply below_drew1) | exact HB.out)⟩⟩
          · replace c11 := Bool.eq_false_iff.mpr c11
            subst c11
            have H1 : (hypercubelaw03_FormulaSelf.j0 k l0 a1 l2 true) = some r := by rw [if_neg (show ¬ (false = true) by decide)] at H; exact H
            clear H
            have H := H1
            clear H1
            have H' := Aside0.mk H
            clear H
            go_wp2_with (first | (go_at_call 21; (with_reducible refine (formula_Right.calls k _ _ l0 false _ ?side1 ?side2 A10.out).mono ?_); (case side1 => repeat (first | exact (Kd.C_below HR0.out HB.out) | (with_reducible refine Kd.C_alloc ?_ _) | (with_reducible refine Kd.C_drewN ?_ _) | (with_reducible refine Kd.C_drew ?_))); (case side2 => exact HC0.out); rintro e w21 ⟨rfl, hb⟩; have n0_ := Aside0.mk (below_step (by repeat (first | (with_reducible first | exact HB.out | apply below_alloc | apply pw_below_drewN | apply below_drew1) | exact HB.out)) hb); clear HB; have HB := n0_; clear n0_; (try clear hb); (try clear hb2); (try clear hk); (try clear hi)))
            go_meet
            case rel => exact ⟨_, (true), (by first | rfl | (simp; done) | (simp [*]; done)), H', ⟨by first | omega | exact Nat.le_refl _⟩, ⟨by repeat (first | (with_reducible first | exact HB.out | apply below_alloc | apply pw_below_drewN | apply below_drew1) | exact HB.out)⟩⟩
    case rest =>
      clear HC6
      try clear c1
      try clear c2
      try clear p2
      try clear c5
      try clear c7
      try clear c8
      try clear c8b0
      try clear c8b1
      try clear c9
      try clear c9b0
      try clear c9b1
      try clear c11
      try clear c13
      try clear c14
      try clear c14b0
      obtain ⟨kq, x41_5, rfl, HA, HJ5, HB⟩ := hcut
      cases kq with
      | zero => exact absurd HA.out (by simp [hypercubelaw03_FormulaSelf.j0])
      | succ kj5 =>
        have H := HA.out
        clear HA
        simp only [hypercubelaw03_FormulaSelf.j0] at H
        by_cases c22 : x41_5 = true
        · subst c22
          have H1 : (some true) = some r := by rw [if_pos rfl] at H; exact H
          clear H
          have H := H1
          clear H1
          obtain rfl := Option.some.inj H
          go_wp2
          go_ret
          exact ⟨by first | rfl | (simp [errW_none, errW_some] <;> rfl) | (simp [*, errW_none, errW_some] <;> rfl), by repeat (first | (with_reducible first | exact HB.out | apply below_alloc | apply pw_below_drewN | apply below_drew1) | exact HB.out)⟩
        · replace c22 := Bool.eq_false_iff.mpr c22
          subst c22
          have H1 : ((formula_Dim.f a1).bind fun bt251 => ((formula_Put.f l0 a1 bt251.1).bind fun bt255 => (if bt251.2 = 0 then (if bt255.2 = 0 then ((hypercuberef02_Same.f kj5 bt255.1 l0).bind fun t259 => (hypercubelaw03_FormulaSelf.j1 kj5 l0 a1 l2 (!t259))) else (hypercubelaw03_FormulaSelf.j1 kj5 l0 a1 l2 true)) else (hypercubelaw03_FormulaSelf.j1 kj5 l0 a1 l2 true)))) = some r := by rw [if_neg (show ¬ (false = true) by decide)] at H; exact H
          clear H
          have H := H1
          clear H1
          replace H := Option.bind_eq_some_iff.mp H
          obtain ⟨⟨t251, t252⟩, A230, H⟩ := H
          replace H : ((formula_Put.f l0 a1 t251).bind fun bt255 => (if t252 = 0 then (if bt255.2 = 0 then ((hypercuberef02_Same.f kj5 bt255.1 l0).bind fun t259 => (hypercubelaw03_FormulaSelf.j1 kj5 l0 a1 l2 (!t259))) else (hypercubelaw03_FormulaSelf.j1 kj5 l0 a1 l2 true)) else (hypercubelaw03_FormulaSelf.j1 kj5 l0 a1 l2 true))) = some r := H
          have A23 := Aside0.mk A230
          clear A230
          replace H := Option.bind_eq_some_iff.mp H
          obtain ⟨⟨t255, t256⟩, A240, H⟩ := H
          replace H : (if t252 = 0 then (if t256 = 0 then ((hypercuberef02_Same.f kj5 t255 l0).bind fun t259 => (hypercubelaw03_FormulaSelf.j1 kj5 l0 a1 l2 (!t259))) else (hypercubelaw03_FormulaSelf.j1 kj5 l0 a1 l2 true)) else (hypercubelaw03_FormulaSelf.j1 kj5 l0 a1 l2 true)) = some r := H
          have A24 := Aside0.mk A240
          clear A240
          have HC25 := Aside0.mk H
          clear H
          go_upto_region 7 with (first | ((with_reducible refine gate_callee (f := 19) rfl ?_); refine goesL_ (some 44) rfl rfl Tryd.func19 (by kernel_rfl) rfl #[.int .i64 a1] rfl (by (try simp only [List.map_toArray, List.map_cons, List.map_nil]); first | done | rfl | (simp only [List.length_drop, List.length_take]; rfl)) ?_; (with_reducible refine (formula_Dim.calls a1 t251 t252 _ A23.out).mono ?_); rintro e w26 ⟨v253, rfl, ho0, hb⟩; refine ⟨_, rfl, ?_⟩; have n0_ := Aside0.mk (Kd.R_lower ho0 (below_size (by repeat (first | (with_reducible first | exact HB.out | apply below_alloc | apply pw_below_drewN | apply below_drew1) | exact HB.out)))); have n1_ := Aside0.mk (below_step (by repeat (first | (with_reducible first | exact HB.out | apply below_alloc | apply pw_below_drewN | apply below_drew1) | exact HB.out)) hb); clear HB; have HO254 := n0_; have HB := n1_; clear n0_ n1_; (try clear hb); (try clear hb2); (try clear hk); (try clear hi); (try clear ho0); obtain ⟨Ao27, co27, eo27⟩ := Kd.R_slice HO254.out; subst eo27) | ((with_reducible refine gate_callee (f := 25) rfl ?_); refine goesL_ (some 51) rfl rfl Tryd.func25 (by kernel_rfl) rfl #[.slice A0 l0.length c0, .int .i64 a1, .slice Ao27 t251.length co27] rfl (by (try simp only [List.map_toArray, List.map_cons, List.map_nil]); first | done | rfl | (simp only [List.length_drop, List.length_take]; rfl)) ?_; (with_reducible refine (formula_Put.calls (HT := ⟨Tab.below HT.out (by repeat (first | (with_reducible first | exact HB.out | apply below_alloc | apply pw_below_drewN | apply below_drew1) | exact HB.out))⟩) _ _ l0 a1 _ _ t251 t255 t256 _ ?side1 ?side2 ?side3 ?side4 A24.out).mono ?_); (case side1 => repeat (first | exact (Kd.C_below HR0.out HB.out) | (with_reducible refine Kd.C_alloc ?_ _) | (with_reducible refine Kd.C_drewN ?_ _) | (with_reducible refine Kd.C_drew ?_))); (case side2 => exact HC0.out); (case side3 => repeat (first | exact (Kd.R_reads' HO254.out).2.2 | (with_reducible refine Kd.C_alloc ?_ _) | (with_reducible refine Kd.C_drewN ?_ _) | (with_reducible refine Kd.C_drew ?_))); (case side4 => exact (Kd.R_reads' HO254.out).2.1); rintro e w28 ⟨v257, rfl, ho0, hb⟩; refine ⟨_, rfl, ?_⟩; have n0_ := Aside0.mk (Kd.R_elder' (by (with_reducible repeat (first | apply Kd.R_alloc | apply Kd.R_drewN | apply Kd.R_drew)); exact HO254.out) (Kd.R_base ho0) hb); have n1_ := Aside0.mk (Kd.R_lower (Kd.R_new' ho0 (Kd.R_lt (by (with_reducible repeat (first | apply Kd.R_alloc | apply Kd.R_drewN | apply Kd.R_drew)); exact HO254.out))) (below_size (by repeat (first | (with_reducible first | exact HB.out | apply below_alloc | apply pw_below_drewN | apply below_drew1) | exact HB.out)))); have n2_ := Aside0.mk (below_step (by repeat (first | (with_reducible first | exact HB.out | apply below_alloc | apply pw_below_drewN | apply below_drew1) | exact HB.out)) hb); clear HO254; clear HB; have HO254 := n0_; have HO258 := n1_; have HB := n2_; clear n0_ n1_ n2_; (try clear hb); (try clear hb2); (try clear hk); (try clear hi); (try clear ho0)))
          (try simp only [Act.put, List.setIfInBounds_toArray, List.set_cons_zero, List.set_cons_succ])
          go_cut [65] (fun v65 wc => ∃ (kq : Nat) (x65_24 : Bool), v65 = .bool x65_24 ∧ Aside0 (hypercubelaw03_FormulaSelf.j1 kq l0 a1 l2 x65_24 = some r) ∧ Aside0 (kq ≤ kj5) ∧ Aside0 (Below w.heap.size w wc))
          case first =>
            have H := HC25.out
            clear HC25
            by_cases c29 : t252 = 0
            · rw [if_pos c29] at H
              have c29b0 : (t252 == 0) = true := beq_iff_eq.mpr c29
              have c29b1 : (t252 != 0) = false := bne_eq_false_iff_eq.mpr c29
              clear c29
              (first | rw [c29b0] | (simp only [i64_w, i32_w]; rw [c29b0]) | skip)
              by_cases c30 : t256 = 0
              · rw [if_pos c30] at H
                have c30b0 : (t256 == 0) = true := beq_iff_eq.mpr c30
                have c30b1 : (t256 != 0) = false := bne_eq_false_iff_eq.mpr c30
                clear c30
                replace H := Option.bind_eq_some_iff.mp H
                obtain ⟨t259, A310, H⟩ := H
                replace H : (hypercubelaw03_FormulaSelf.j1 kj5 l0 a1 l2 (!t259)) = some r := H
                have A31 := Aside0.mk A310
                clear A310
                have H' := Aside0.mk H
                clear H
                obtain ⟨Ao32, co32, eo32⟩ := Kd.R_slice HO258.out
                subst eo32
                go_wp2_with (first | (go_at_call 23; (with_reducible refine (hypercuberef02_Same.calls kj5 _ _ t255 _ _ l0 t259 _ ?side1 ?side2 ?side3 ?side4 A31.out).mono ?_); (case side1 => repeat (first | exact (Kd.R_reads' HO258.out).2.2 | (with_reducible refine Kd.C_alloc ?_ _) | (with_reducible refine Kd.C_drewN ?_ _) | (with_reducible refine Kd.C_drew ?_))); (case side2 => exact (Kd.R_reads' HO258.out).2.1); (case side3 => repeat (first | exact (Kd.C_below HR0.out HB.out) | (with_reducible refine Kd.C_alloc ?_ _) | (with_reducible refine Kd.C_drewN ?_ _) | (with_reducible refine Kd.C_drew ?_))); (case side4 => exact HC0.out); rintro e w' ⟨rfl, ⟨nd, rfl⟩⟩))
                go_meet
                case rel => exact ⟨_, (!t259), (by first | rfl | (simp; done) | (simp [*]; done)), H', ⟨by have := HJ5.out; first | omega | exact Nat.le_refl _⟩, ⟨by repeat (first | (with_reducible first | exact HB.out | apply below_alloc | apply pw_below_drewN | apply below_drew1) | exact HB.out)⟩⟩
              · rw [if_neg c30] at H
                have c30b0 : (t256 == 0) = false := beq_eq_false_iff_ne.mpr c30
                have c30b1 : (t256 != 0) = true := bne_iff_ne.mpr c30
                have H' := Aside0.mk H
                clear H
                go_wp2
                go_meet
                case rel => exact ⟨_, (true), (by first | rfl | (simp; done) | (simp [*]; done)), H', ⟨by have := HJ5.out; first | omega | exact Nat.le_refl _⟩, ⟨by repeat (first | (with_reducible first | exact HB.out | apply below_alloc | apply pw_below_drewN | apply below_drew1) | exact HB.out)⟩⟩
            · rw [if_neg c29] at H
              have c29b0 : (t252 == 0) = false := beq_eq_false_iff_ne.mpr c29
              have c29b1 : (t252 != 0) = true := bne_iff_ne.mpr c29
              (first | rw [c29b0] | (simp only [i64_w, i32_w]; rw [c29b0]) | skip)
              have H' := Aside0.mk H
              clear H
              go_wp2
              go_meet
              case rel => exact ⟨_, (true), (by first | rfl | (simp; done) | (simp [*]; done)), H', ⟨by have := HJ5.out; first | omega | exact Nat.le_refl _⟩, ⟨by repeat (first | (with_reducible first | exact HB.out | apply below_alloc | apply pw_below_drewN | apply below_drew1) | exact HB.out)⟩⟩
          case rest =>
            clear HC25
            try clear c1
            try clear c2
            try clear p2
            try clear c3
            try clear c5
            try clear c7
            try clear c8
            try clear c8b0
            try clear c8b1
            try clear c9
            try clear c9b0
            try clear c9b1
            try clear c11
            try clear c13
            try clear c14
            try clear c14b0
            try clear c19
            try clear c22
            try clear c25
            try clear c29
            try clear c29b0
            try clear c29b1
            try clear c30
            try clear c30b0
            try clear c30b1
            try clear p2
            obtain ⟨kq, x65_24, rfl, HA, HJ24, HB⟩ := hcut
            cases kq with
            | zero => exact absurd HA.out (by simp [hypercubelaw03_FormulaSelf.j1])
            | succ kj24 =>
              have H := HA.out
              clear HA
              simp only [hypercubelaw03_FormulaSelf.j1] at H
              by_cases c33 : x65_24 = true
              · subst c33
                have H1 : (some false) = some r := by rw [if_pos rfl] at H; exact H
                clear H
                have H := H1
                clear H1
                exact absurd ((Option.some.inj H).trans hr_.out) Bool.false_ne_true
              · replace c33 := Bool.eq_false_iff.mpr c33
                subst c33
                have H1 : ((formula_Put.f l0 a1 l2).bind fun bt260 => (if bt260.2 = 0 then (if 0 ≤ (IntKind.u64.wrap (a1)) then ((formula_Dims.f kj24 l2).bind fun t264 => (if (Go.bits .and .u32 t264 (shl .u32 1 (IntKind.u64.wrap (a1)))) = 0 then ((formula_Dims.f kj24 bt260.1).bind fun t265 => (hypercubelaw03_FormulaSelf.j2 kj24 l0 bt260.1 (shl .u32 1 (IntKind.u64.wrap (a1))) ((Go.bits .and .u32 t265 (shl .u32 1 (IntKind.u64.wrap (a1)))) != 0))) else (hypercubelaw03_FormulaSelf.j2 kj24 l0 bt260.1 (shl .u32 1 (IntKind.u64.wrap (a1))) false))) else (none)) else (if bt260.2 = 3 then (some ((bt260.1.length : Int) == 0)) else (some false)))) = some r := by rw [if_neg (show ¬ (false = true) by decide)] at H; exact H
                clear H
                have H := H1
                clear H1
                replace H := Option.bind_eq_some_iff.mp H
                obtain ⟨⟨t260, t261⟩, A340, H⟩ := H
                replace H : (if t261 = 0 then (if 0 ≤ (IntKind.u64.wrap (a1)) then ((formula_Dims.f kj24 l2).bind fun t264 => (if (Go.bits .and .u32 t264 (shl .u32 1 (IntKind.u64.wrap (a1)))) = 0 then ((formula_Dims.f kj24 t260).bind fun t265 => (hypercubelaw03_FormulaSelf.j2 kj24 l0 t260 (shl .u32 1 (IntKind.u64.wrap (a1))) ((Go.bits .and .u32 t265 (shl .u32 1 (IntKind.u64.wrap (a1)))) != 0))) else (hypercubelaw03_FormulaSelf.j2 kj24 l0 t260 (shl .u32 1 (IntKind.u64.wrap (a1))) false))) else (none)) else (if t261 = 3 then (some ((t260.length : Int) == 0)) else (some false))) = some r := H
                have A34 := Aside0.mk A340
                clear A340
                by_cases c35 : t261 = 0
                · rw [if_pos c35] at H
                  have c35b0 : (t261 == 0) = true := beq_iff_eq.mpr c35
                  have c35b1 : (t261 != 0) = false := bne_eq_false_iff_eq.mpr c35
                  clear c35
                  obtain ⟨ji36, hji36⟩ : ∃ j_ : Int, (IntKind.u64.wrap (a1)) = j_ := ⟨_, rfl⟩
                  replace H : (if 0 ≤ (ji36) then ((formula_Dims.f kj24 l2).bind fun t264 => (if (Go.bits .and .u32 t264 (shl .u32 1 (ji36))) = 0 then ((formula_Dims.f kj24 t260).bind fun t265 => (hypercubelaw03_FormulaSelf.j2 kj24 l0 t260 (shl .u32 1 (ji36)) ((Go.bits .and .u32 t265 (shl .u32 1 (ji36))) != 0))) else (hypercubelaw03_FormulaSelf.j2 kj24 l0 t260 (shl .u32 1 (ji36)) false))) else (none)) = some r := by first | (rw [hji36] at H; exact H) | (simp only [hji36] at H ⊢; exact H)
                  (try rw [hji36] at A34)
                  by_cases c37 : 0 ≤ (ji36)
                  · rw [if_pos c37] at H
                    have c37b0 := eq_true c37
                    have c37b1 : decide (0 ≤ (ji36)) = true := decide_eq_true c37
                    clear c37
                    obtain ⟨ji38, hji38⟩ : ∃ j_ : Int, (shl .u32 1 (ji36)) = j_ := ⟨_, rfl⟩
                    replace H : ((formula_Dims.f kj24 l2).bind fun t264 => (if (Go.bits .and .u32 t264 (ji38)) = 0 then ((formula_Dims.f kj24 t260).bind fun t265 => (hypercubelaw03_FormulaSelf.j2 kj24 l0 t260 ji38 ((Go.bits .and .u32 t265 (ji38)) != 0))) else (hypercubelaw03_FormulaSelf.j2 kj24 l0 t260 ji38 false))) = some r := by first | (rw [hji38] at H; exact H) | (simp only [hji38] at H ⊢; exact H)
                    (try rw [hji38] at A34)
                    have hji38_ : (IntKind.u32.wrap (1 * 2 ^ min (ji36).toNat 32)) = ji38 := hji38
                    have hji38z : (ji36) ≤ 32 → (IntKind.u32.wrap (1 * 2 ^ (ji36).toNat)) = ji38 := shl_small hji38
                    have hji38u : (IntKind.u32.wrap (2 ^ min (ji36).toNat 32)) = ji38 := by have h_ := hji38_; rw [Int.one_mul] at h_; exact h_
                    have hji38v : (ji36) ≤ 32 → (IntKind.u32.wrap (2 ^ (ji36).toNat)) = ji38 := fun hle_ => by have h_ := hji38z hle_; rw [Int.one_mul] at h_; exact h_
                    have HC39 := Aside0.mk H
                    clear H
                    go_upto_region 13 with (first | ((with_reducible refine gate_callee (f := 25) rfl ?_); refine goesL_ (some 70) rfl rfl Tryd.func25 (by kernel_rfl) rfl #[.slice A0 l0.length c0, .int .i64 a1, .slice A2 l2.length c2] rfl (by (try simp only [List.map_toArray, List.map_cons, List.map_nil]); first | done | rfl | (simp only [List.length_drop, List.length_take]; rfl)) ?_; (with_reducible refine (formula_Put.calls (HT := ⟨Tab.below HT.out (by repeat (first | (with_reducible first | exact HB.out | apply below_alloc | apply pw_below_drewN | apply below_drew1) | exact HB.out))⟩) _ _ l0 a1 _ _ l2 t260 t261 _ ?side1 ?side2 ?side3 ?side4 A34.out).mono ?_); (case side1 => repeat (first | exact (Kd.C_below HR0.out HB.out) | (with_reducible refine Kd.C_alloc ?_ _) | (with_reducible refine Kd.C_drewN ?_ _) | (with_reducible refine Kd.C_drew ?_))); (case side2 => exact HC0.out); (case side3 => repeat (first | exact (Kd.C_below HR2.out HB.out) | (with_reducible refine Kd.C_alloc ?_ _) | (with_reducible refine Kd.C_drewN ?_ _) | (with_reducible refine Kd.C_drew ?_))); (case side4 => exact HC2.out); rintro e w40 ⟨v262, rfl, ho0, hb⟩; refine ⟨_, rfl, ?_⟩; have n0_ := Aside0.mk (Kd.R_lower ho0 (below_size (by repeat (first | (with_reducible first | exact HB.out | apply below_alloc | apply pw_below_drewN | apply below_drew1) | exact HB.out)))); have n1_ := Aside0.mk (below_step (by repeat (first | (with_reducible first | exact HB.out | apply below_alloc | apply pw_below_drewN | apply below_drew1) | exact HB.out)) hb); clear HB; have HO263 := n0_; have HB := n1_; clear n0_ n1_; (try clear hb); (try clear hb2); (try clear hk); (try clear hi); (try clear ho0)))
                    (try simp only [Act.put, List.setIfInBounds_toArray, List.set_cons_zero, List.set_cons_succ])
                    go_cut [96] (fun v96 wc => ∃ (kq : Nat) (x96_38 : Bool), v96 = .bool x96_38 ∧ Aside0 (hypercubelaw03_FormulaSelf.j2 kq l0 t260 ji38 x96_38 = some r) ∧ Aside0 (kq ≤ kj24) ∧ Aside0 (Kd.R k52 52 wc w.heap.size (fun _ => True) v262 t260) ∧ Aside0 (Below w.heap.size w wc))
                    case first =>
                      have H := HC39.out
                      clear HC39
                      replace H := Option.bind_eq_some_iff.mp H
                      obtain ⟨t264, A410, H⟩ := H
                      replace H : (if (Go.bits .and .u32 t264 (ji38)) = 0 then ((formula_Dims.f kj24 t260).bind fun t265 => (hypercubelaw03_FormulaSelf.j2 kj24 l0 t260 ji38 ((Go.bits .and .u32 t265 (ji38)) != 0))) else (hypercubelaw03_FormulaSelf.j2 kj24 l0 t260 ji38 false)) = some r := H
                      have A41 := Aside0.mk A410
                      clear A410
                      by_cases c42 : (Go.bits .and .u32 t264 (ji38)) = 0
                      · rw [if_pos c42] at H
                        have c42b0 : ((Go.bits .and .u32 t264 (ji38)) == 0) = true := beq_iff_eq.mpr c42
                        have c42b1 : ((Go.bits .and .u32 t264 (ji38)) != 0) = false := bne_eq_false_iff_eq.mpr c42
                        clear c42
                        (first | rw [c42b0] | (simp only [i64_w, i32_w]; rw [c42b0]) | skip)
                        replace H := Option.bind_eq_some_iff.mp H
                        obtain ⟨t265, A430, H⟩ := H
                        replace H : (hypercubelaw03_FormulaSelf.j2 kj24 l0 t260 ji38 ((Go.bits .and .u32 t265 (ji38)) != 0)) = some r := H
                        have A43 := Aside0.mk A430
                        clear A430
                        have H' := Aside0.mk H
                        clear H
                        go_wp2_with (first | ((with_reducible refine gate_callee (f := 26) rfl ?_); refine goesL_ (some 86) rfl rfl Tryd.func26 (by kernel_rfl) rfl #[.slice A2 l2.length c2] rfl (by (try simp only [List.map_toArray, List.map_cons, List.map_nil]); first | done | rfl | (simp only [List.length_drop, List.length_take]; rfl)) ?_; (with_reducible refine (formula_Dims.calls kj24 _ _ l2 t264 _ ?side1 ?side2 A41.out).mono ?_); (case side1 => repeat (first | exact (Kd.C_below HR2.out HB.out) | (with_reducible refine Kd.C_alloc ?_ _) | (with_reducible refine Kd.C_drewN ?_ _) | (with_reducible refine Kd.C_drew ?_))); (case side2 => exact HC2.out); rintro e w44 ⟨rfl, hb⟩; refine ⟨_, rfl, ?_⟩; have n0_ := Aside0.mk (Kd.R_below (by (with_reducible repeat (first | apply Kd.R_alloc | apply Kd.R_drewN | apply Kd.R_drew)); exact HO263.out) hb); have n1_ := Aside0.mk (below_step (by repeat (first | (with_reducible first | exact HB.out | apply below_alloc | apply pw_below_drewN | apply below_drew1) | exact HB.out)) hb); clear HO263; clear HB; have HO263 := n0_; have HB := n1_; clear n0_ n1_; (try clear hb); (try clear hb2); (try clear hk); (try clear hi); obtain ⟨Ao45, co45, eo45⟩ := Kd.R_slice HO263.out; subst eo45) | (go_at_call 26; (with_reducible refine (formula_Dims.calls kj24 _ _ t260 t265 _ ?side1 ?side2 A43.out).mono ?_); (case side1 => repeat (first | exact (Kd.R_reads' HO263.out).2.2 | (with_reducible refine Kd.C_alloc ?_ _) | (with_reducible refine Kd.C_drewN ?_ _) | (with_reducible refine Kd.C_drew ?_))); (case side2 => exact (Kd.R_reads' HO263.out).2.1); rintro e w46 ⟨rfl, hb⟩; have n0_ := Aside0.mk (Kd.R_below (by (with_reducible repeat (first | apply Kd.R_alloc | apply Kd.R_drewN | apply Kd.R_drew)); exact HO263.out) hb); have n1_ := Aside0.mk (below_step (by repeat (first | (with_reducible first | exact HB.out | apply below_alloc | apply pw_below_drewN | apply below_drew1) | exact HB.out)) hb); clear HO263; clear HB; have HO263 := n0_; have HB := n1_; clear n0_ n1_; (try clear hb); (try clear hb2); (try clear hk); (try clear hi)))
                        go_meet
                        case rel => exact ⟨_, (((Go.bits .and .u32 t265 (ji38)) != 0)), (by first | rfl | (simp; done) | (simp only [← hji38] <;> (first | rfl | simp)) | (simp [*]; done)), H', ⟨by have := HJ5.out; have := HJ24.out; first | omega | exact Nat.le_refl _⟩, ⟨by (with_reducible repeat (first | apply Kd.R_alloc | apply Kd.R_drewN | apply Kd.R_drew)); exact HO263.out⟩, ⟨by repeat (first | (with_reducible first | exact HB.out | apply below_alloc | apply pw_below_drewN | apply below_drew1) | exact HB.out)⟩⟩
                      · rw [if_neg c42] at H
                        have c42b0 : ((Go.bits .and .u32 t264 (ji38)) == 0) = false := beq_eq_false_iff_ne.mpr c42
                        have c42b1 : ((Go.bits .and .u32 t264 (ji38)) != 0) = true := bne_iff_ne.mpr c42
                        (first | rw [c42b0] | (simp only [i64_w, i32_w]; rw [c42b0]) | skip)
                        have H' := Aside0.mk H
                        clear H
                        go_wp2_with (first | ((with_reducible refine gate_callee (f := 26) rfl ?_); refine goesL_ (some 86) rfl rfl Tryd.func26 (by kernel_rfl) rfl #[.slice A2 l2.length c2] rfl (by (try simp only [List.map_toArray, List.map_cons, List.map_nil]); first | done | rfl | (simp only [List.length_drop, List.length_take]; rfl)) ?_; (with_reducible refine (formula_Dims.calls kj24 _ _ l2 t264 _ ?side1 ?side2 A41.out).mono ?_); (case side1 => repeat (first | exact (Kd.C_below HR2.out HB.out) | (with_reducible refine Kd.C_alloc ?_ _) | (with_reducible refine Kd.C_drewN ?_ _) | (with_reducible refine Kd.C_drew ?_))); (case side2 => exact HC2.out); rintro e w47 ⟨rfl, hb⟩; refine ⟨_, rfl, ?_⟩; have n0_ := Aside0.mk (Kd.R_below (by (with_reducible repeat (first | apply Kd.R_alloc | apply Kd.R_drewN | apply Kd.R_drew)); exact HO263.out) hb); have n1_ := Aside0.mk (below_step (by repeat (first | (with_reducible first | exact HB.out | apply below_alloc | apply pw_below_drewN | apply below_drew1) | exact HB.out)) hb); clear HO263; clear HB; have HO263 := n0_; have HB := n1_; clear n0_ n1_; (try clear hb); (try clear hb2); (try clear hk); (try clear hi)))
                        go_meet
                        case rel => exact ⟨_, (false), (by first | rfl | (simp; done) | (simp [*]; done)), H', ⟨by have := HJ5.out; have := HJ24.out; first | omega | exact Nat.le_refl _⟩, ⟨by (with_reducible repeat (first | apply Kd.R_alloc | apply Kd.R_drewN | apply Kd.R_drew)); exact HO263.out⟩, ⟨by repeat (first | (with_reducible first | exact HB.out | apply below_alloc | apply pw_below_drewN | apply below_drew1) | exact HB.out)⟩⟩
                    case rest =>
                      clear HC39
                      try clear c1
                      try clear c2
                      try clear p2
                      try clear c3
                      try clear c4
                      try clear c5
                      try clear c7
                      try clear c8
                      try clear c8b0
                      try clear c8b1
                      try clear c9
                      try clear c9b0
                      try clear c9b1
                      try clear c11
                      try clear c13
                      try clear c14
                      try clear c14b0
                      try clear c19
                      try clear c22
                      try clear c25
                      try clear c26
                      try clear c29
                      try clear c29b0
                      try clear c29b1
                      try clear c30
                      try clear c30b0
                      try clear c30b1
                      try clear c33
                      try clear c35
                      try clear c35b0
                      try clear c35b1
                      try clear c37
                      try clear c37b0
                      try clear c37b1
                      try clear c42
                      try clear c42b0
                      try clear c42b1
                      try clear p2
                      obtain ⟨kq, x96_38, rfl, HA, HJ38, HO_11, HB⟩ := hcut
                      cases kq with
                      | zero => exact absurd HA.out (by simp [hypercubelaw03_FormulaSelf.j2])
                      | succ kj38 =>
                        have H := HA.out
                        clear HA
                        simp only [hypercubelaw03_FormulaSelf.j2] at H
                        by_cases c48 : x96_38 = true
                        · subst c48
                          have H1 : (some false) = some r := by rw [if_pos rfl] at H; exact H
                          clear H
                          have H := H1
                          clear H1
                          exact absurd ((Option.some.inj H).trans hr_.out) Bool.false_ne_true
                        · replace c48 := Bool.eq_false_iff.mpr c48
                          subst c48
                          have H1 : ((formula_Dims.f kj38 l0).bind fun t266 => (if (Go.bits .and .u32 t266 ji38) = 0 then ((hypercuberef02_Same.f kj38 t260 l0).bind fun t267 => (some t267)) else (some true))) = some r := by rw [if_neg (show ¬ (false = true) by decide)] at H; exact H
                          clear H
                          have H := H1
                          clear H1
                          replace H := Option.bind_eq_some_iff.mp H
                          obtain ⟨t266, A490, H⟩ := H
                          replace H : (if (Go.bits .and .u32 t266 ji38) = 0 then ((hypercuberef02_Same.f kj38 t260 l0).bind fun t267 => (some t267)) else (some true)) = some r := H
                          have A49 := Aside0.mk A490
                          clear A490
                          by_cases c50 : (Go.bits .and .u32 t266 ji38) = 0
                          · rw [if_pos c50] at H
                            have c50b0 : ((Go.bits .and .u32 t266 ji38) == 0) = true := beq_iff_eq.mpr c50
                            have c50b1 : ((Go.bits .and .u32 t266 ji38) != 0) = false := bne_eq_false_iff_eq.mpr c50
                            clear c50
                            replace H := Option.bind_eq_some_iff.mp H
                            obtain ⟨t267, A510, H⟩ := H
                            replace H : (some t267) = some r := H
                            have A51 := Aside0.mk A510
                            clear A510
                            obtain rfl := Option.some.inj H
                            go_wp2_with (first | ((with_reducible refine gate_callee (f := 26) rfl ?_); refine goesL_ (some 98) rfl rfl Tryd.func26 (by kernel_rfl) rfl #[.slice A0 l0.length c0] rfl (by (try simp only [List.map_toArray, List.map_cons, List.map_nil]); first | done | rfl | (simp only [List.length_drop, List.length_take]; rfl)) ?_; (with_reducible refine (formula_Dims.calls kj38 _ _ l0 t266 _ ?side1 ?side2 A49.out).mono ?_); (case side1 => repeat (first | exact (Kd.C_below HR0.out HB.out) | (with_reducible refine Kd.C_alloc ?_ _) | (with_reducible refine Kd.C_drewN ?_ _) | (with_reducible refine Kd.C_drew ?_))); (case side2 => exact HC0.out); rintro e w52 ⟨rfl, hb⟩; refine ⟨_, rfl, ?_⟩; have n0_ := Aside0.mk (Kd.R_below (by (with_reducible repeat (first | apply Kd.R_alloc | apply Kd.R_drewN | apply Kd.R_drew)); exact HO_11.out) hb); have n1_ := Aside0.mk (below_step (by repeat (first | (with_reducible first | exact HB.out | apply below_alloc | apply pw_below_drewN | apply below_drew1) | exact HB.out)) hb); clear HO_11; clear HB; have HO_11 := n0_; have HB := n1_; clear n0_ n1_; (try clear hb); (try clear hb2); (try clear hk); (try clear hi); obtain ⟨Ao53, co53, eo53⟩ := Kd.R_slice HO_11.out; subst eo53) | (go_at_call 23; (with_reducible refine (hypercuberef02_Same.calls kj38 _ _ t260 _ _ l0 t267 _ ?side1 ?side2 ?side3 ?side4 A51.out).mono ?_); (case side1 => repeat (first | exact (Kd.R_reads' HO_11.out).2.2 | (with_reducible refine Kd.C_alloc ?_ _) | (with_reducible refine Kd.C_drewN ?_ _) | (with_reducible refine Kd.C_drew ?_))); (case side2 => exact (Kd.R_reads' HO_11.out).2.1); (case side3 => repeat (first | exact (Kd.C_below HR0.out HB.out) | (with_reducible refine Kd.C_alloc ?_ _) | (with_reducible refine Kd.C_drewN ?_ _) | (with_reducible refine Kd.C_drew ?_))); (case side4 => exact HC0.out); rintro e w' ⟨rfl, ⟨nd, rfl⟩⟩))
                            go_ret
                            exact ⟨by first | rfl | (simp [errW_none, errW_some] <;> rfl) | (simp only [← hji36, ← hji38]; first | rfl | (simp [errW_none, errW_some] <;> rfl)) | (simp [*, errW_none, errW_some] <;> rfl), by repeat (first | (with_reducible first | exact HB.out | apply below_alloc | apply pw_below_drewN | apply below_drew1) | exact HB.out)⟩
                          · rw [if_neg c50] at H
                            have c50b0 : ((Go.bits .and .u32 t266 ji38) == 0) = false := beq_eq_false_iff_ne.mpr c50
                            have c50b1 : ((Go.bits .and .u32 t266 ji38) != 0) = true := bne_iff_ne.mpr c50
                            obtain rfl := Option.some.inj H
                            go_wp2_with (first | ((with_reducible refine gate_callee (f := 26) rfl ?_); refine goesL_ (some 98) rfl rfl Tryd.func26 (by kernel_rfl) rfl #[.slice A0 l0.length c0] rfl (by (try simp only [List.map_toArray, List.map_cons, List.map_nil]); first | done | rfl | (simp only [List.length_drop, List.length_take]; rfl)) ?_; (with_reducible refine (formula_Dims.calls kj38 _ _ l0 t266 _ ?side1 ?side2 A49.out).mono ?_); (case side1 => repeat (first | exact (Kd.C_below HR0.out HB.out) | (with_reducible refine Kd.C_alloc ?_ _) | (with_reducible refine Kd.C_drewN ?_ _) | (with_reducible refine Kd.C_drew ?_))); (case side2 => exact HC0.out); rintro e w54 ⟨rfl, hb⟩; refine ⟨_, rfl, ?_⟩; have n0_ := Aside0.mk (Kd.R_below (by (with_reducible repeat (first | apply Kd.R_alloc | apply Kd.R_drewN | apply Kd.R_drew)); exact HO_11.out) hb); have n1_ := Aside0.mk (below_step (by repeat (first | (with_reducible first | exact HB.out | apply below_alloc | apply pw_below_drewN | apply below_drew1) | exact HB.out)) hb); clear HO_11; clear HB; have HO_11 := n0_; have HB := n1_; clear n0_ n1_; (try clear hb); (try clear hb2); (try clear hk); (try clear hi)))
                            go_ret
                            exact ⟨by first | rfl | (simp [errW_none, errW_some] <;> rfl) | (simp only [← hji36, ← hji38]; first | rfl | (simp [errW_none, errW_some] <;> rfl)) | (simp [*, errW_none, errW_some] <;> rfl), by repeat (first | (with_reducible first | exact HB.out | apply below_alloc | apply pw_below_drewN | apply below_drew1) | exact HB.out)⟩
                  · rw [if_neg c37] at H
                    exact absurd H (by simp)
                · rw [if_neg c35] at H
                  have c35b0 : (t261 == 0) = false := beq_eq_false_iff_ne.mpr c35
                  have c35b1 : (t261 != 0) = true := bne_iff_ne.mpr c35
                  by_cases c55 : t261 = 3
                  · rw [if_pos c55] at H
                    have c55b0 : (t261 == 3) = true := beq_iff_eq.mpr c55
                    have c55b1 : (t261 != 3) = false := bne_eq_false_iff_eq.mpr c55
                    clear c55
                    obtain rfl := Option.some.inj H
                    go_wp2_with (first | ((with_reducible refine gate_callee (f := 25) rfl ?_); refine goesL_ (some 70) rfl rfl Tryd.func25 (by kernel_rfl) rfl #[.slice A0 l0.length c0, .int .i64 a1, .slice A2 l2.length c2] rfl (by (try simp only [List.map_toArray, List.map_cons, List.map_nil]); first | done | rfl | (simp only [List.length_drop, List.length_take]; rfl)) ?_; (with_reducible refine (formula_Put.calls (HT := ⟨Tab.below HT.out (by repeat (first | (with_reducible first | exact HB.out | apply below_alloc | apply pw_below_drewN | apply below_drew1) | exact HB.out))⟩) _ _ l0 a1 _ _ l2 t260 t261 _ ?side1 ?side2 ?side3 ?side4 A34.out).mono ?_); (case side1 => repeat (first | exact (Kd.C_below HR0.out HB.out) | (with_reducible refine Kd.C_alloc ?_ _) | (with_reducible refine Kd.C_drewN ?_ _) | (with_reducible refine Kd.C_drew ?_))); (case side2 => exact HC0.out); (case side3 => repeat (first | exact (Kd.C_below HR2.out HB.out) | (with_reducible refine Kd.C_alloc ?_ _) | (with_reducible refine Kd.C_drewN ?_ _) | (with_reducible refine Kd.C_drew ?_))); (case side4 => exact HC2.out); rintro e w56 ⟨v262, rfl, ho0, hb⟩; refine ⟨_, rfl, ?_⟩; have n0_ := Aside0.mk (Kd.R_lower ho0 (below_size (by repeat (first | (with_reducible first | exact HB.out | apply below_alloc | apply pw_below_drewN | apply below_drew1) | exact HB.out)))); have n1_ := Aside0.mk (below_step (by repeat (first | (with_reducible first | exact HB.out | apply below_alloc | apply pw_below_drewN | apply below_drew1) | exact HB.out)) hb); clear HB; have HO263 := n0_; have HB := n1_; clear n0_ n1_; (try clear hb); (try clear hb2); (try clear hk); (try clear hi); (try clear ho0); obtain ⟨Ao57, co57, eo57⟩ := Kd.R_slice HO263.out; subst eo57))
                    go_ret
                    exact ⟨by first | rfl | (simp [errW_none, errW_some] <;> rfl) | (simp [*, errW_none, errW_some] <;> rfl), by repeat (first | (with_reducible first | exact HB.out | apply below_alloc | apply pw_below_drewN | apply below_drew1) | exact HB.out)⟩
                  · rw [if_neg c55] at H
                    have c55b0 : (t261 == 3) = false := beq_eq_false_iff_ne.mpr c55
                    have c55b1 : (t261 != 3) = true := bne_iff_ne.mpr c55
                    exact absurd ((Option.some.inj H).trans hr_.out) Bool.false_ne_true
  · replace c5 := Bool.eq_false_iff.mpr c5
    subst c5
    have H1 : (some false) = some r := by rw [if_neg (show ¬ (false = true) by decide)] at H; exact H
    clear H
    have H := H1
    clear H1
    exact absurd ((Option.some.inj H).trans hr_.out) Bool.false_ne_true

end Go.Proofs.YthphgilelpmfhaaDoor.XFb
