-- Written for this claim by a program of ours (wip/xp.py), out of the translation and of hand-written contracts.
import Derived.Test.YtcniiabaloicoaaXFqx0
import Derived.Test.YtcniiabaloicoaaXFqx2
import Derived.Test.YtcniiabaloicoaaXFqx3
namespace Go.Proofs.Ytcniiabaloicoaa.XFq
open Go.RowKit Go.Proofs.YtcniiabaloicoaaW.PrintWords Go.Proofs.YtcniiabaloicoaaW.PrintLast Go.Proofs.YtcniiabaloicoaaW.PrintMore
attribute [local go_sem] max2_int min2_int max_two min_two max_three min_three max_four min_four   -- for this text's walks alone
set_option linter.unusedVariables false
set_option linter.unusedSimpArgs false

/-! ### hypercubelaw05_FaceOrder: function 6 -/
mutual
def hypercubelaw05_FaceOrder.j0 : Nat → List (S32) → List (S32) → List (S32) → Bool → Option (Bool)
  | 0, _, _, _, _ => none
  | k + 1, x0, x1, x2, x61 => if x61 = true then (some true) else ((face_Entails.f x0 x0).bind fun bt190 => ((face_Entails.f x0 x1).bind fun bt192 => ((face_Entails.f x1 x0).bind fun bt194 => ((face_Entails.f x1 x2).bind fun bt196 => ((face_Entails.f x0 x2).bind fun bt198 => ((face_Entails.f x2 x0).bind fun bt200 => ((face_Entails.f x2 x1).bind fun bt202 => (if bt190.1 = true then (if bt192.1 = true then ((hypercuberef02_Same.f k x0 x1).bind fun t204 => (if (bt194.1 != t204) = true then (hypercubelaw05_FaceOrder.j1 k x0 x1 x2 bt196.1 bt198.1 bt200.1 bt202.1 true) else (if bt196.1 = true then (hypercubelaw05_FaceOrder.j1 k x0 x1 x2 bt196.1 bt198.1 bt200.1 bt202.1 (!bt198.1)) else (hypercubelaw05_FaceOrder.j1 k x0 x1 x2 bt196.1 bt198.1 bt200.1 bt202.1 false)))) else (hypercubelaw05_FaceOrder.j1 k x0 x1 x2 bt196.1 bt198.1 bt200.1 bt202.1 false)) else (hypercubelaw05_FaceOrder.j1 k x0 x1 x2 bt196.1 bt198.1 bt200.1 bt202.1 true)))))))))
def hypercubelaw05_FaceOrder.j1 : Nat → List (S32) → List (S32) → List (S32) → Bool → Bool → Bool → Bool → Bool → Option (Bool)
  | 0, _, _, _, _, _, _, _, _ => none
  | k + 1, x0, x1, x2, x13, x15, x17, x19, x125 => if x125 = true then (some false) else ((face_Join.f x0 x1).bind fun bt205 => (if bt205.2 = 0 then ((face_Entails.f x0 bt205.1).bind fun bt209 => ((face_Entails.f x1 bt205.1).bind fun bt211 => ((face_Entails.f bt205.1 x2).bind fun bt213 => (if bt209.1 = true then (if bt211.1 = true then (if x15 = true then (if (bt213.1 != x13) = true then (some false) else (hypercubelaw05_FaceOrder.j2 k x0 x1 x2 x17 x19)) else (if (bt213.1 != false) = true then (some false) else (hypercubelaw05_FaceOrder.j2 k x0 x1 x2 x17 x19))) else (some false)) else (some false))))) else (hypercubelaw05_FaceOrder.j2 k x0 x1 x2 x17 x19)))
def hypercubelaw05_FaceOrder.j2 : Nat → List (S32) → List (S32) → List (S32) → Bool → Bool → Option (Bool)
  | 0, _, _, _, _, _ => none
  | k + 1, x0, x1, x2, x17, x19 => (face_Meet.f x0 x1).bind fun bt215 => (if bt215.2 = 0 then ((face_Entails.f bt215.1 x0).bind fun bt219 => ((face_Entails.f bt215.1 x1).bind fun bt221 => ((face_Entails.f x2 bt215.1).bind fun bt223 => (if bt219.1 = true then (if bt221.1 = true then (if x17 = true then (if (bt223.1 != x19) = true then (some false) else (some true)) else (if (bt223.1 != false) = true then (some false) else (some true))) else (some false)) else (some false))))) else (some true))
end
def hypercubelaw05_FaceOrder.f (k : Nat) (l0 : List (S32)) (l1 : List (S32)) (l2 : List (S32)) : Option (Bool) := (hypercubelaw05_works.f k).bind fun t185 => (if t185 = true then ((hypercubelaw05_great.f l0 l1).bind fun t186 => (if t186 = true then (hypercubelaw05_FaceOrder.j0 k l0 l1 l2 true) else (if (l2.length : Int) > 24 then (hypercubelaw05_FaceOrder.j0 k l0 l1 l2 true) else ((face_Right.f l0).bind fun t187 => (if t187 = true then ((face_Right.f l1).bind fun t188 => (if t188 = true then ((face_Right.f l2).bind fun t189 => (hypercubelaw05_FaceOrder.j0 k l0 l1 l2 (!t189))) else (hypercubelaw05_FaceOrder.j0 k l0 l1 l2 true))) else (hypercubelaw05_FaceOrder.j0 k l0 l1 l2 true)))))) else (some false))
theorem hypercubelaw05_FaceOrder.mono_l : ∀ k, (∀ y0 y1 y2 y3, LeO (hypercubelaw05_FaceOrder.j0 k y0 y1 y2 y3) (hypercubelaw05_FaceOrder.j0 (k + 1) y0 y1 y2 y3)) ∧ (∀ y0 y1 y2 y3 y4 y5 y6 y7, LeO (hypercubelaw05_FaceOrder.j1 k y0 y1 y2 y3 y4 y5 y6 y7) (hypercubelaw05_FaceOrder.j1 (k + 1) y0 y1 y2 y3 y4 y5 y6 y7)) ∧ (∀ y0 y1 y2 y3 y4, LeO (hypercubelaw05_FaceOrder.j2 k y0 y1 y2 y3 y4) (hypercubelaw05_FaceOrder.j2 (k + 1) y0 y1 y2 y3 y4))
  | 0 => ⟨fun _ _ _ _ r h => by simp [hypercubelaw05_FaceOrder.j0] at h, fun _ _ _ _ _ _ _ _ r h => by simp [hypercubelaw05_FaceOrder.j1] at h, fun _ _ _ _ _ r h => by simp [hypercubelaw05_FaceOrder.j2] at h⟩
  | k + 1 => by
    obtain ⟨ih0, ih1, ih2⟩ := hypercubelaw05_FaceOrder.mono_l k
    refine ⟨?_, ?_, ?_⟩
    · intro y0 y1 y2 y3
      unfold hypercubelaw05_FaceOrder.j0
      repeat' first
      | (with_reducible exact ih0 _ _ _ _)
      | (with_reducible exact ih1 _ _ _ _ _ _ _ _)
      | (with_reducible exact ih2 _ _ _ _ _)
      | (with_reducible exact hypercubelaw05_works.mono _)
      | (with_reducible exact hypercuberef02_Same.mono _ _ _)
      | (with_reducible exact LeO.refl _)
      | (with_reducible exact LeO.none _)
      | (with_reducible refine LeO.ite ?_ ?_)
      | (with_reducible refine LeO.bind ?_ (fun _ => ?_))
      | exact ih0 _ _ _ _
      | exact ih1 _ _ _ _ _ _ _ _
      | exact ih2 _ _ _ _ _
      | exact hypercubelaw05_works.mono _
      | exact hypercuberef02_Same.mono _ _ _
      | exact LeO.none _
      | refine LeO.ite ?_ ?_
      | refine LeO.bind ?_ (fun _ => ?_)
    · intro y0 y1 y2 y3 y4 y5 y6 y7
      unfold hypercubelaw05_FaceOrder.j1
      repeat' first
      | (with_reducible exact ih0 _ _ _ _)
      | (with_reducible exact ih1 _ _ _ _ _ _ _ _)
      | (with_reducible exact ih2 _ _ _ _ _)
      | (with_reducible exact hypercubelaw05_works.mono _)
      | (with_reducible exact hypercuberef02_Same.mono _ _ _)
      | (with_reducible exact LeO.refl _)
      | (with_reducible exact LeO.none _)
      | (with_reducible refine LeO.ite ?_ ?_)
      | (with_reducible refine LeO.bind ?_ (fun _ => ?_))
      | exact ih0 _ _ _ _
      | exact ih1 _ _ _ _ _ _ _ _
      | exact ih2 _ _ _ _ _
      | exact hypercubelaw05_works.mono _
      | exact hypercuberef02_Same.mono _ _ _
      | exact LeO.none _
      | refine LeO.ite ?_ ?_
      | refine LeO.bind ?_ (fun _ => ?_)
    · intro y0 y1 y2 y3 y4
      unfold hypercubelaw05_FaceOrder.j2
      repeat' first
      | (with_reducible exact ih0 _ _ _ _)
      | (with_reducible exact ih1 _ _ _ _ _ _ _ _)
      | (with_reducible exact ih2 _ _ _ _ _)
      | (with_reducible exact hypercubelaw05_works.mono _)
      | (with_reducible exact hypercuberef02_Same.mono _ _ _)
      | (with_reducible exact LeO.refl _)
      | (with_reducible exact LeO.none _)
      | (with_reducible refine LeO.ite ?_ ?_)
      | (with_reducible refine LeO.bind ?_ (fun _ => ?_))
      | exact ih0 _ _ _ _
      | exact ih1 _ _ _ _ _ _ _ _
      | exact ih2 _ _ _ _ _
      | exact hypercubelaw05_works.mono _
      | exact hypercuberef02_Same.mono _ _ _
      | exact LeO.none _
      | refine LeO.ite ?_ ?_
      | refine LeO.bind ?_ (fun _ => ?_)
theorem hypercubelaw05_FaceOrder.mono : ∀ a0 a1 a2 k, LeO (hypercubelaw05_FaceOrder.f k a0 a1 a2) (hypercubelaw05_FaceOrder.f (k + 1) a0 a1 a2) := by
  intro a0 a1 a2 k
  obtain ⟨ih0, ih1, ih2⟩ := hypercubelaw05_FaceOrder.mono_l k
  unfold hypercubelaw05_FaceOrder.f
  repeat' first
      | (with_reducible exact ih0 _ _ _ _)
      | (with_reducible exact ih1 _ _ _ _ _ _ _ _)
      | (with_reducible exact ih2 _ _ _ _ _)
      | (with_reducible exact hypercubelaw05_works.mono _)
      | (with_reducible exact hypercuberef02_Same.mono _ _ _)
      | (with_reducible exact LeO.refl _)
      | (with_reducible exact LeO.none _)
      | (with_reducible refine LeO.ite ?_ ?_)
      | (with_reducible refine LeO.bind ?_ (fun _ => ?_))
      | exact ih0 _ _ _ _
      | exact ih1 _ _ _ _ _ _ _ _
      | exact ih2 _ _ _ _ _
      | exact hypercubelaw05_works.mono _
      | exact hypercuberef02_Same.mono _ _ _
      | exact LeO.none _
      | refine LeO.ite ?_ ?_
      | refine LeO.bind ?_ (fun _ => ?_)
set_option maxHeartbeats 8000000 in
set_option maxRecDepth 100000 in
theorem hypercubelaw05_FaceOrder.calls (k : Nat) (A0 : Option Addr) (c0 : Nat) (l0 : List (S32)) (A1 : Option Addr) (c1 : Nat) (l1 : List (S32)) (A2 : Option Addr) (c2 : Nat) (l2 : List (S32)) (r : Bool) (w : World) (hr_ : Aside0 (r = true)) (hr0 : Kd.C k32 w A0 l0.length l0) (hc0 : l0.length ≤ c0) (hr1 : Kd.C k32 w A1 l1.length l1) (hc1 : l1.length ≤ c1) (hr2 : Kd.C k32 w A2 l2.length l2) (hc2 : l2.length ≤ c2) (h : hypercubelaw05_FaceOrder.f k l0 l1 l2 = some r) :
    Calls Try.prog 6 #[.slice A0 l0.length c0, .slice A1 l1.length c1, .slice A2 l2.length c2] w fun e w' => e = .returned (.bool r) ∧ Below w.heap.size w w' := by
  have HR0 := Aside0.mk hr0
  have HC0 := Aside0.mk hc0
  clear hr0 hc0
  have HR1 := Aside0.mk hr1
  have HC1 := Aside0.mk hc1
  clear hr1 hc1
  have HR2 := Aside0.mk hr2
  have HC2 := Aside0.mk hc2
  clear hr2 hc2
  have HB := Aside0.mk (Below.refl w.heap.size w)
  have H : ((hypercubelaw05_works.f k).bind fun t185 => (if t185 = true then ((hypercubelaw05_great.f l0 l1).bind fun t186 => (if t186 = true then (hypercubelaw05_FaceOrder.j0 k l0 l1 l2 true) else (if (l2.length : Int) > 24 then (hypercubelaw05_FaceOrder.j0 k l0 l1 l2 true) else ((face_Right.f l0).bind fun t187 => (if t187 = true then ((face_Right.f l1).bind fun t188 => (if t188 = true then ((face_Right.f l2).bind fun t189 => (hypercubelaw05_FaceOrder.j0 k l0 l1 l2 (!t189))) else (hypercubelaw05_FaceOrder.j0 k l0 l1 l2 true))) else (hypercubelaw05_FaceOrder.j0 k l0 l1 l2 true)))))) else (some false))) = some r := h
  clear h
  replace H := Option.bind_eq_some_iff.mp H
  obtain ⟨t185, A40, H⟩ := H
  replace H : (if t185 = true then ((hypercubelaw05_great.f l0 l1).bind fun t186 => (if t186 = true then (hypercubelaw05_FaceOrder.j0 k l0 l1 l2 true) else (if (l2.length : Int) > 24 then (hypercubelaw05_FaceOrder.j0 k l0 l1 l2 true) else ((face_Right.f l0).bind fun t187 => (if t187 = true then ((face_Right.f l1).bind fun t188 => (if t188 = true then ((face_Right.f l2).bind fun t189 => (hypercubelaw05_FaceOrder.j0 k l0 l1 l2 (!t189))) else (hypercubelaw05_FaceOrder.j0 k l0 l1 l2 true))) else (hypercubelaw05_FaceOrder.j0 k l0 l1 l2 true)))))) else (some false)) = some r := H
  have A4 := Aside0.mk A40
  clear A40
  by_cases c5 : t185 = true
  · subst c5
    have H1 : ((hypercubelaw05_great.f l0 l1).bind fun t186 => (if t186 = true then (hypercubelaw05_FaceOrder.j0 k l0 l1 l2 true) else (if (l2.length : Int) > 24 then (hypercubelaw05_FaceOrder.j0 k l0 l1 l2 true) else ((face_Right.f l0).bind fun t187 => (if t187 = true then ((face_Right.f l1).bind fun t188 => (if t188 = true then ((face_Right.f l2).bind fun t189 => (hypercubelaw05_FaceOrder.j0 k l0 l1 l2 (!t189))) else (hypercubelaw05_FaceOrder.j0 k l0 l1 l2 true))) else (hypercubelaw05_FaceOrder.j0 k l0 l1 l2 true)))))) = some r := by rw [if_pos rfl] at H; exact H
    clear H
    have H := H1
    clear H1
    have HC6 := Aside0.mk H
    clear H
    go_enter Try.func6, Try.ntmps6
    go_upto_region 3 with (first | ((with_reducible refine gate_callee (f := 11) rfl ?_); refine goesL_ (some 37) rfl rfl Try.func11 (by kernel_rfl) rfl #[] rfl (by (try simp only [List.map_toArray, List.map_cons, List.map_nil]); first | done | rfl | (simp only [List.length_drop, List.length_take]; rfl)) ?_; (with_reducible refine (hypercubelaw05_works.calls k  true _ A4.out).mono ?_); rintro e w7 ⟨rfl, hb⟩; refine ⟨_, rfl, ?_⟩; have n0_ := Aside0.mk (below_step (by repeat (first | (with_reducible first | exact HB.out | apply below_alloc | apply pw_below_drewN | apply below_drew1) | exact HB.out)) hb); clear HB; have HB := n0_; clear n0_; (try clear hb); (try clear hb2); (try clear hk); (try clear hi)))
    (try simp only [Act.put, List.setIfInBounds_toArray, List.set_cons_zero, List.set_cons_succ])
    go_cut [61] (fun v61 wc => ∃ (kq : Nat) (x61_5 : Bool), v61 = .bool x61_5 ∧ Aside0 (hypercubelaw05_FaceOrder.j0 kq l0 l1 l2 x61_5 = some r) ∧ Aside0 (kq ≤ k) ∧ Aside0 (Below w.heap.size w wc))
    case first =>
      have H := HC6.out
      clear HC6
      replace H := Option.bind_eq_some_iff.mp H
      obtain ⟨t186, A80, H⟩ := H
      replace H : (if t186 = true then (hypercubelaw05_FaceOrder.j0 k l0 l1 l2 true) else (if (l2.length : Int) > 24 then (hypercubelaw05_FaceOrder.j0 k l0 l1 l2 true) else ((face_Right.f l0).bind fun t187 => (if t187 = true then ((face_Right.f l1).bind fun t188 => (if t188 = true then ((face_Right.f l2).bind fun t189 => (hypercubelaw05_FaceOrder.j0 k l0 l1 l2 (!t189))) else (hypercubelaw05_FaceOrder.j0 k l0 l1 l2 true))) else (hypercubelaw05_FaceOrder.j0 k l0 l1 l2 true))))) = some r := H
      have A8 := Aside0.mk A80
      clear A80
      by_cases c9 : t186 = true
      · subst c9
        have H1 : (hypercubelaw05_FaceOrder.j0 k l0 l1 l2 true) = some r := by rw [if_pos rfl] at H; exact H
        clear H
        have H := H1
        clear H1
        have H' := Aside0.mk H
        clear H
        go_wp2_with (first | ((with_reducible refine gate_callee (f := 12) rfl ?_); refine goesL_ (some 41) rfl rfl Try.func12 (by kernel_rfl) rfl #[.slice A0 l0.length c0, .slice A1 l1.length c1] rfl (by (try simp only [List.map_toArray, List.map_cons, List.map_nil]); first | done | rfl | (simp only [List.length_drop, List.length_take]; rfl)) ?_; (with_reducible refine (hypercubelaw05_great.calls _ _ l0 _ _ l1 true _ ?side1 ?side2 ?side3 ?side4 A8.out).mono ?_); (case side1 => repeat (first | exact (Kd.C_below HR0.out HB.out) | (with_reducible refine Kd.C_alloc ?_ _) | (with_reducible refine Kd.C_drewN ?_ _) | (with_reducible refine Kd.C_drew ?_))); (case side2 => exact HC0.out); (case side3 => repeat (first | exact (Kd.C_below HR1.out HB.out) | (with_reducible refine Kd.C_alloc ?_ _) | (with_reducible refine Kd.C_drewN ?_ _) | (with_reducible refine Kd.C_drew ?_))); (case side4 => exact HC1.out); rintro e w' ⟨rfl, ⟨nd, rfl⟩⟩; refine ⟨_, rfl, ?_⟩))
        go_meet
        case rel => exact ⟨_, (true), (by first | rfl | (simp; done) | (simp [*]; done)), H', ⟨by first | omega | exact Nat.le_refl _⟩, ⟨by repeat (first | (with_reducible first | exact HB.out | apply below_alloc | apply pw_below_drewN | apply below_drew1) | exact HB.out)⟩⟩
      · replace c9 := Bool.eq_false_iff.mpr c9
        subst c9
        have H1 : (if (l2.length : Int) > 24 then (hypercubelaw05_FaceOrder.j0 k l0 l1 l2 true) else ((face_Right.f l0).bind fun t187 => (if t187 = true then ((face_Right.f l1).bind fun t188 => (if t188 = true then ((face_Right.f l2).bind fun t189 => (hypercubelaw05_FaceOrder.j0 k l0 l1 l2 (!t189))) else (hypercubelaw05_FaceOrder.j0 k l0 l1 l2 true))) else (hypercubelaw05_FaceOrder.j0 k l0 l1 l2 true)))) = some r := by rw [if_neg (show ¬ (false = true) by decide)] at H; exact H
        clear H
        have H := H1
        clear H1
        by_cases c10 : (l2.length : Int) > 24
        · rw [if_pos c10] at H
          have c10b0 : decide (24 < (l2.length : Int)) = true := decide_eq_true c10
          have c10b1 : decide (24 < l2.length) = true := decide_eq_true (by omega)
          clear c10
          (first | rw [c10b0] | (simp only [i64_w, i32_w]; rw [c10b0]) | skip)
          have H' := Aside0.mk H
          clear H
          go_wp2_with (first | ((with_reducible refine gate_callee (f := 12) rfl ?_); refine goesL_ (some 41) rfl rfl Try.func12 (by kernel_rfl) rfl #[.slice A0 l0.length c0, .slice A1 l1.length c1] rfl (by (try simp only [List.map_toArray, List.map_cons, List.map_nil]); first | done | rfl | (simp only [List.length_drop, List.length_take]; rfl)) ?_; (with_reducible refine (hypercubelaw05_great.calls _ _ l0 _ _ l1 false _ ?side1 ?side2 ?side3 ?side4 A8.out).mono ?_); (case side1 => repeat (first | exact (Kd.C_below HR0.out HB.out) | (with_reducible refine Kd.C_alloc ?_ _) | (with_reducible refine Kd.C_drewN ?_ _) | (with_reducible refine Kd.C_drew ?_))); (case side2 => exact HC0.out); (case side3 => repeat (first | exact (Kd.C_below HR1.out HB.out) | (with_reducible refine Kd.C_alloc ?_ _) | (with_reducible refine Kd.C_drewN ?_ _) | (with_reducible refine Kd.C_drew ?_))); (case side4 => exact HC1.out); rintro e w' ⟨rfl, ⟨nd, rfl⟩⟩; refine ⟨_, rfl, ?_⟩))
          go_meet
          case rel => exact ⟨_, (true), (by first | rfl | (simp; done) | (simp [*]; done)), H', ⟨by first | omega | exact Nat.le_refl _⟩, ⟨by repeat (first | (with_reducible first | exact HB.out | apply below_alloc | apply pw_below_drewN | apply below_drew1) | exact HB.out)⟩⟩
        · rw [if_neg c10] at H
          have c10b0 : decide (24 < (l2.length : Int)) = false := decide_eq_false c10
          have c10b1 : decide (24 < l2.length) = false := decide_eq_false (by omega)
          clear c10
          (first | rw [c10b0] | (simp only [i64_w, i32_w]; rw [c10b0]) | skip)
          replace H := Option.bind_eq_some_iff.mp H
          obtain ⟨t187, A110, H⟩ := H
          replace H : (if t187 = true then ((face_Right.f l1).bind fun t188 => (if t188 = true then ((face_Right.f l2).bind fun t189 => (hypercubelaw05_FaceOrder.j0 k l0 l1 l2 (!t189))) else (hypercubelaw05_FaceOrder.j0 k l0 l1 l2 true))) else (hypercubelaw05_FaceOrder.j0 k l0 l1 l2 true)) = some r := H
          have A11 := Aside0.mk A110
          clear A110
          by_cases c12 : t187 = true
          · subst c12
            have H1 : ((face_Right.f l1).bind fun t188 => (if t188 = true then ((face_Right.f l2).bind fun t189 => (hypercubelaw05_FaceOrder.j0 k l0 l1 l2 (!t189))) else (hypercubelaw05_FaceOrder.j0 k l0 l1 l2 true))) = some r := by rw [if_pos rfl] at H; exact H
            clear H
            have H := H1
            clear H1
            replace H := Option.bind_eq_some_iff.mp H
            obtain ⟨t188, A130, H⟩ := H
            replace H : (if t188 = true then ((face_Right.f l2).bind fun t189 => (hypercubelaw05_FaceOrder.j0 k l0 l1 l2 (!t189))) else (hypercubelaw05_FaceOrder.j0 k l0 l1 l2 true)) = some r := H
            have A13 := Aside0.mk A130
            clear A130
            by_cases c14 : t188 = true
            · subst c14
              have H1 : ((face_Right.f l2).bind fun t189 => (hypercubelaw05_FaceOrder.j0 k l0 l1 l2 (!t189))) = some r := by rw [if_pos rfl] at H; exact H
              clear H
              have H := H1
              clear H1
              replace H := Option.bind_eq_some_iff.mp H
              obtain ⟨t189, A150, H⟩ := H
              replace H : (hypercubelaw05_FaceOrder.j0 k l0 l1 l2 (!t189)) = some r := H
              have A15 := Aside0.mk A150
              clear A150
              have H' := Aside0.mk H
              clear H
              go_wp2_with (first | ((with_reducible refine gate_callee (f := 12) rfl ?_); refine goesL_ (some 41) rfl rfl Try.func12 (by kernel_rfl) rfl #[.slice A0 l0.length c0, .slice A1 l1.length c1] rfl (by (try simp only [List.map_toArray, List.map_cons, List.map_nil]); first | done | rfl | (simp only [List.length_drop, List.length_take]; rfl)) ?_; (with_reducible refine (hypercubelaw05_great.calls _ _ l0 _ _ l1 false _ ?side1 ?side2 ?side3 ?side4 A8.out).mono ?_); (case side1 => repeat (first | exact (Kd.C_below HR0.out HB.out) | (with_reducible refine Kd.C_alloc ?_ _) | (with_reducible refine Kd.C_drewN ?_ _) | (with_reducible refine Kd.C_drew ?_))); (case side2 => exact HC0.out); (case side3 => repeat (first | exact (Kd.C_below HR1.out HB.out) | (with_reducible refine Kd.C_alloc ?_ _) | (with_reducible refine Kd.C_drewN ?_ _) | (with_reducible refine Kd.C_drew ?_))); (case side4 => exact HC1.out); rintro e w' ⟨rfl, ⟨nd, rfl⟩⟩; refine ⟨_, rfl, ?_⟩) | (go_at_call 13; (with_reducible refine (face_Right.calls _ _ l0 true _ ?side1 ?side2 A11.out).mono ?_); (case side1 => repeat (first | exact (Kd.C_below HR0.out (by repeat (first | (with_reducible first | exact HB.out | apply below_alloc | apply pw_below_drewN | apply below_drew1) | exact HB.out))) | (with_reducible refine Kd.C_alloc ?_ _) | (with_reducible refine Kd.C_drewN ?_ _) | (with_reducible refine Kd.C_drew ?_))); (case side2 => exact HC0.out); rintro e w16 ⟨rfl, hb⟩; have n0_ := Aside0.mk (below_step (by repeat (first | (with_reducible first | exact HB.out | apply below_alloc | apply pw_below_drewN | apply below_drew1) | exact HB.out)) hb); clear HB; have HB := n0_; clear n0_; (try clear hb); (try clear hb2); (try clear hk); (try clear hi)) | (go_at_call 13; (with_reducible refine (face_Right.calls _ _ l1 true _ ?side1 ?side2 A13.out).mono ?_); (case side1 => repeat (first | exact (Kd.C_below HR1.out HB.out) | (with_reducible refine Kd.C_alloc ?_ _) | (with_reducible refine Kd.C_drewN ?_ _) | (with_reducible refine Kd.C_drew ?_))); (case side2 => exact HC1.out); rintro e w17 ⟨rfl, hb⟩; have n0_ := Aside0.mk (below_step (by repeat (first | (with_reducible first | exact HB.out | apply below_alloc | apply pw_below_drewN | apply below_drew1) | exact HB.out)) hb); clear HB; have HB := n0_; clear n0_; (try clear hb); (try clear hb2); (try clear hk); (try clear hi)) | (go_at_call 13; (with_reducible refine (face_Right.calls _ _ l2 t189 _ ?side1 ?side2 A15.out).mono ?_); (case side1 => repeat (first | exact (Kd.C_below HR2.out HB.out) | (with_reducible refine Kd.C_alloc ?_ _) | (with_reducible refine Kd.C_drewN ?_ _) | (with_reducible refine Kd.C_drew ?_))); (case side2 => exact HC2.out); rintro e w18 ⟨rfl, hb⟩; have n0_ := Aside0.mk (below_step (by repeat (first | (with_reducible first | exact HB.out | apply below_alloc | apply pw_below_drewN | apply below_drew1) | exact HB.out)) hb); clear HB; have HB := n0_; clear n0_; (try clear hb); (try clear hb2); (try clear hk); (try clear hi)))
              go_meet
              case rel => exact ⟨_, (!t189), (by first | rfl | (simp; done) | (simp [*]; done)), H', ⟨by first | omega | exact Nat.le_refl _⟩, ⟨by repeat (first | (with_reducible first | exact HB.out | apply below_alloc | apply pw_below_drewN | apply below_drew1) | exact HB.out)⟩⟩
            · replace c14 := Bool.eq_false_iff.mpr c14
              subst c14
              have H1 : (hypercubelaw05_FaceOrder.j0 k l0 l1 l2 true) = some r := by rw [if_neg (show ¬ (false = true) by decide)] at H; exact H
              clear H
              have H := H1
              clear H1
              have H' := Aside0.mk H
              clear H
              go_wp2_with (first | ((with_reducible refine gate_callee (f := 12) rfl ?_); refine goesL_ (some 41) rfl rfl Try.func12 (by kernel_rfl) rfl #[.slice A0 l0.length c0, .slice A1 l1.length c1] rfl (by (try simp only [List.map_toArray, List.map_cons, List.map_nil]); first | done | rfl | (simp only [List.length_drop, List.length_take]; rfl)) ?_; (with_reducible refine (hypercubelaw05_great.calls _ _ l0 _ _ l1 false _ ?side1 ?side2 ?side3 ?side4 A8.out).mono ?_); (case side1 => repeat (first | exact (Kd.C_below HR0.out HB.out) | (with_reducible refine Kd.C_alloc ?_ _) | (with_reducible refine Kd.C_drewN ?_ _) | (with_reducible refine Kd.C_drew ?_))); (case side2 => exact HC0.out); (case side3 => repeat (first | exact (Kd.C_below HR1.out HB.out) | (with_reducible refine Kd.C_alloc ?_ _) | (with_reducible refine Kd.C_drewN ?_ _) | (with_reducible refine Kd.C_drew ?_))); (case side4 => exact HC1.out); rintro e w' ⟨rfl, ⟨nd, rfl⟩⟩; refine ⟨_, rfl, ?_⟩) | (go_at_call 13; (with_reducible refine (face_Right.calls _ _ l0 true _ ?side1 ?side2 A11.out).mono ?_); (case side1 => repeat (first | exact (Kd.C_below HR0.out (by repeat (first | (with_reducible first | exact HB.out | apply below_alloc | apply pw_below_drewN | apply below_drew1) | exact HB.out))) | (with_reducible refine Kd.C_alloc ?_ _) | (with_reducible refine Kd.C_drewN ?_ _) | (with_reducible refine Kd.C_drew ?_))); (case side2 => exact HC0.out); rintro e w19 ⟨rfl, hb⟩; have n0_ := Aside0.mk (below_step (by repeat (first | (with_reducible first | exact HB.out | apply below_alloc | apply pw_below_drewN | apply below_drew1) | exact HB.out)) hb); clear HB; have HB := n0_; clear n0_; (try clear hb); (try clear hb2); (try clear hk); (try clear hi)) | (go_at_call 13; (with_reducible refine (face_Right.calls _ _ l1 false _ ?side1 ?side2 A13.out).mono ?_); (case side1 => repeat (first | exact (Kd.C_below HR1.out HB.out) | (with_reducible refine Kd.C_alloc ?_ _) | (with_reducible refine Kd.C_drewN ?_ _) | (with_reducible refine Kd.C_drew ?_))); (case side2 => exact HC1.out); rintro e w20 ⟨rfl, hb⟩; have n0_ := Aside0.mk (below_step (by repeat (first | (with_reducible first | exact HB.out | apply below_alloc | apply pw_below_drewN | apply below_drew1) | exact HB.out)) hb); clear HB; have HB := n0_; clear n0_; (try clear hb); (try clear hb2); (try clear hk); (try clear hi)))
              go_meet
              case rel => exact ⟨_, (true), (by first | rfl | (simp; done) | (simp [*]; done)), H', ⟨by first | omega | exact Nat.le_refl _⟩, ⟨by repeat (first | (with_reducible first | exact HB.out | apply below_alloc | apply pw_below_drewN | apply below_drew1) | exact HB.out)⟩⟩
          · replace c12 := Bool.eq_false_iff.mpr c12
            subst c12
            have H1 : (hypercubelaw05_FaceOrder.j0 k l0 l1 l2 true) = some r := by rw [if_neg (show ¬ (false = true) by decide)] at H; exact H
            clear H
            have H := H1
            clear H1
            have H' := Aside0.mk H
            clear H
            go_wp2_with (first | ((with_reducible refine gate_callee (f := 12) rfl ?_); refine goesL_ (some 41) rfl rfl Try.func12 (by kernel_rfl) rfl #[.slice A0 l0.length c0, .slice A1 l1.length c1] rfl (by (try simp only [List.map_toArray, List.map_cons, List.map_nil]); first | done | rfl | (simp only [List.length_drop, List.length_take]; rfl)) ?_; (with_reducible refine (hypercubelaw05_great.calls _ _ l0 _ _ l1 false _ ?side1 ?side2 ?side3 ?side4 A8.out).mono ?_); (case side1 => repeat (first | exact (Kd.C_below HR0.out HB.out) | (with_reducible refine Kd.C_alloc ?_ _) | (with_reducible refine Kd.C_drewN ?_ _) | (with_reducible refine Kd.C_drew ?_))); (case side2 => exact HC0.out); (case side3 => repeat (first | exact (Kd.C_below HR1.out HB.out) | (with_reducible refine Kd.C_alloc ?_ _) | (with_reducible refine Kd.C_drewN ?_ _) | (with_reducible refine Kd.C_drew ?_))); (case side4 => exact HC1.out); rintro e w' ⟨rfl, ⟨nd, rfl⟩⟩; refine ⟨_, rfl, ?_⟩) | (go_at_call 13; (with_reducible refine (face_Right.calls _ _ l0 false _ ?side1 ?side2 A11.out).mono ?_); (case side1 => repeat (first | exact (Kd.C_below HR0.out (by repeat (first | (with_reducible first | exact HB.out | apply below_alloc | apply pw_below_drewN | apply below_drew1) | exact HB.out))) | (with_reducible refine Kd.C_alloc ?_ _) | (with_reducible refine Kd.C_drewN ?_ _) | (with_reducible refine Kd.C_drew ?_))); (case side2 => exact HC0.out); rintro e w21 ⟨rfl, hb⟩; have n0_ := Aside0.mk (below_step (by repeat (first | (with_reducible first | exact HB.out | apply below_alloc | apply pw_below_drewN | apply below_drew1) | exact HB.out)) hb); clear HB; have HB := n0_; clear n0_; (try clear hb); (try clear hb2); (try clear hk); (try clear hi)))
            go_meet
            case rel => exact ⟨_, (true), (by first | rfl | (simp; done) | (simp [*]; done)), H', ⟨by first | omega | exact Nat.le_refl _⟩, ⟨by repeat (first | (with_reducible first | exact HB.out | apply below_alloc | apply pw_below_drewN | apply below_drew1) | exact HB.out)⟩⟩
    case rest =>
      clear HC6
      try clear c1
      try clear c2
      try clear p2
      try clear c5
      try clear c6
      try clear c9
      try clear c10
      try clear c10b0
      try clear c10b1
      try clear c11
      try clear c12
      try clear c14
      obtain ⟨kq, x61_5, rfl, HA, HJ5, HB⟩ := hcut
      cases kq with
      | zero => exact absurd HA.out (by simp [hypercubelaw05_FaceOrder.j0])
      | succ kj5 =>
        have H := HA.out
        clear HA
        simp only [hypercubelaw05_FaceOrder.j0] at H
        by_cases c22 : x61_5 = true
        · subst c22
          have H1 : (some true) = some r := by rw [if_pos rfl] at H; exact H
          clear H
          have H := H1
          clear H1
          obtain rfl := Option.some.inj H
          go_wp2
          go_ret
          exact ⟨by first | rfl | (simp [errW_none, errW_some] <;> rfl) | (simp [*, errW_none, errW_some] <;> rfl), by repeat (first | (with_reducible first | exact HB.out | apply below_alloc | apply pw_below_drewN | apply below_drew1) | exact HB.out)⟩
        · replace c22 := Bool.eq_false_iff.mpr c22
          subst c22
          have H1 : ((face_Entails.f l0 l0).bind fun bt190 => ((face_Entails.f l0 l1).bind fun bt192 => ((face_Entails.f l1 l0).bind fun bt194 => ((face_Entails.f l1 l2).bind fun bt196 => ((face_Entails.f l0 l2).bind fun bt198 => ((face_Entails.f l2 l0).bind fun bt200 => ((face_Entails.f l2 l1).bind fun bt202 => (if bt190.1 = true then (if bt192.1 = true then ((hypercuberef02_Same.f kj5 l0 l1).bind fun t204 => (if (bt194.1 != t204) = true then (hypercubelaw05_FaceOrder.j1 kj5 l0 l1 l2 bt196.1 bt198.1 bt200.1 bt202.1 true) else (if bt196.1 = true then (hypercubelaw05_FaceOrder.j1 kj5 l0 l1 l2 bt196.1 bt198.1 bt200.1 bt202.1 (!bt198.1)) else (hypercubelaw05_FaceOrder.j1 kj5 l0 l1 l2 bt196.1 bt198.1 bt200.1 bt202.1 false)))) else (hypercubelaw05_FaceOrder.j1 kj5 l0 l1 l2 bt196.1 bt198.1 bt200.1 bt202.1 false)) else (hypercubelaw05_FaceOrder.j1 kj5 l0 l1 l2 bt196.1 bt198.1 bt200.1 bt202.1 true))))))))) = some r := by rw [if_neg (show ¬ (false = true) by decide)] at H; exact H
          clear H
          have H := H1
          clear H1
          replace H := Option.bind_eq_some_iff.mp H
          obtain ⟨⟨t190, t191⟩, A230, H⟩ := H
          replace H : ((face_Entails.f l0 l1).bind fun bt192 => ((face_Entails.f l1 l0).bind fun bt194 => ((face_Entails.f l1 l2).bind fun bt196 => ((face_Entails.f l0 l2).bind fun bt198 => ((face_Entails.f l2 l0).bind fun bt200 => ((face_Entails.f l2 l1).bind fun bt202 => (if t190 = true then (if bt192.1 = true then ((hypercuberef02_Same.f kj5 l0 l1).bind fun t204 => (if (bt194.1 != t204) = true then (hypercubelaw05_FaceOrder.j1 kj5 l0 l1 l2 bt196.1 bt198.1 bt200.1 bt202.1 true) else (if bt196.1 = true then (hypercubelaw05_FaceOrder.j1 kj5 l0 l1 l2 bt196.1 bt198.1 bt200.1 bt202.1 (!bt198.1)) else (hypercubelaw05_FaceOrder.j1 kj5 l0 l1 l2 bt196.1 bt198.1 bt200.1 bt202.1 false)))) else (hypercubelaw05_FaceOrder.j1 kj5 l0 l1 l2 bt196.1 bt198.1 bt200.1 bt202.1 false)) else (hypercubelaw05_FaceOrder.j1 kj5 l0 l1 l2 bt196.1 bt198.1 bt200.1 bt202.1 true)))))))) = some r := H
          have A23 := Aside0.mk A230
          clear A230
          replace H := Option.bind_eq_some_iff.mp H
          obtain ⟨⟨t192, t193⟩, A240, H⟩ := H
          replace H : ((face_Entails.f l1 l0).bind fun bt194 => ((face_Entails.f l1 l2).bind fun bt196 => ((face_Entails.f l0 l2).bind fun bt198 => ((face_Entails.f l2 l0).bind fun bt200 => ((face_Entails.f l2 l1).bind fun bt202 => (if t190 = true then (if t192 = true then ((hypercuberef02_Same.f kj5 l0 l1).bind fun t204 => (if (bt194.1 != t204) = true then (hypercubelaw05_FaceOrder.j1 kj5 l0 l1 l2 bt196.1 bt198.1 bt200.1 bt202.1 true) else (if bt196.1 = true then (hypercubelaw05_FaceOrder.j1 kj5 l0 l1 l2 bt196.1 bt198.1 bt200.1 bt202.1 (!bt198.1)) else (hypercubelaw05_FaceOrder.j1 kj5 l0 l1 l2 bt196.1 bt198.1 bt200.1 bt202.1 false)))) else (hypercubelaw05_FaceOrder.j1 kj5 l0 l1 l2 bt196.1 bt198.1 bt200.1 bt202.1 false)) else (hypercubelaw05_FaceOrder.j1 kj5 l0 l1 l2 bt196.1 bt198.1 bt200.1 bt202.1 true))))))) = some r := H
          have A24 := Aside0.mk A240
          clear A240
          replace H := Option.bind_eq_some_iff.mp H
          obtain ⟨⟨t194, t195⟩, A250, H⟩ := H
          replace H : ((face_Entails.f l1 l2).bind fun bt196 => ((face_Entails.f l0 l2).bind fun bt198 => ((face_Entails.f l2 l0).bind fun bt200 => ((face_Entails.f l2 l1).bind fun bt202 => (if t190 = true then (if t192 = true then ((hypercuberef02_Same.f kj5 l0 l1).bind fun t204 => (if (t194 != t204) = true then (hypercubelaw05_FaceOrder.j1 kj5 l0 l1 l2 bt196.1 bt198.1 bt200.1 bt202.1 true) else (if bt196.1 = true then (hypercubelaw05_FaceOrder.j1 kj5 l0 l1 l2 bt196.1 bt198.1 bt200.1 bt202.1 (!bt198.1)) else (hypercubelaw05_FaceOrder.j1 kj5 l0 l1 l2 bt196.1 bt198.1 bt200.1 bt202.1 false)))) else (hypercubelaw05_FaceOrder.j1 kj5 l0 l1 l2 bt196.1 bt198.1 bt200.1 bt202.1 false)) else (hypercubelaw05_FaceOrder.j1 kj5 l0 l1 l2 bt196.1 bt198.1 bt200.1 bt202.1 true)))))) = some r := H
          have A25 := Aside0.mk A250
          clear A250
          replace H := Option.bind_eq_some_iff.mp H
          obtain ⟨⟨t196, t197⟩, A260, H⟩ := H
          replace H : ((face_Entails.f l0 l2).bind fun bt198 => ((face_Entails.f l2 l0).bind fun bt200 => ((face_Entails.f l2 l1).bind fun bt202 => (if t190 = true then (if t192 = true then ((hypercuberef02_Same.f kj5 l0 l1).bind fun t204 => (if (t194 != t204) = true then (hypercubelaw05_FaceOrder.j1 kj5 l0 l1 l2 t196 bt198.1 bt200.1 bt202.1 true) else (if t196 = true then (hypercubelaw05_FaceOrder.j1 kj5 l0 l1 l2 t196 bt198.1 bt200.1 bt202.1 (!bt198.1)) else (hypercubelaw05_FaceOrder.j1 kj5 l0 l1 l2 t196 bt198.1 bt200.1 bt202.1 false)))) else (hypercubelaw05_FaceOrder.j1 kj5 l0 l1 l2 t196 bt198.1 bt200.1 bt202.1 false)) else (hypercubelaw05_FaceOrder.j1 kj5 l0 l1 l2 t196 bt198.1 bt200.1 bt202.1 true))))) = some r := H
          have A26 := Aside0.mk A260
          clear A260
          replace H := Option.bind_eq_some_iff.mp H
          obtain ⟨⟨t198, t199⟩, A270, H⟩ := H
          replace H : ((face_Entails.f l2 l0).bind fun bt200 => ((face_Entails.f l2 l1).bind fun bt202 => (if t190 = true then (if t192 = true then ((hypercuberef02_Same.f kj5 l0 l1).bind fun t204 => (if (t194 != t204) = true then (hypercubelaw05_FaceOrder.j1 kj5 l0 l1 l2 t196 t198 bt200.1 bt202.1 true) else (if t196 = true then (hypercubelaw05_FaceOrder.j1 kj5 l0 l1 l2 t196 t198 bt200.1 bt202.1 (!t198)) else (hypercubelaw05_FaceOrder.j1 kj5 l0 l1 l2 t196 t198 bt200.1 bt202.1 false)))) else (hypercubelaw05_FaceOrder.j1 kj5 l0 l1 l2 t196 t198 bt200.1 bt202.1 false)) else (hypercubelaw05_FaceOrder.j1 kj5 l0 l1 l2 t196 t198 bt200.1 bt202.1 true)))) = some r := H
          have A27 := Aside0.mk A270
          clear A270
          replace H := Option.bind_eq_some_iff.mp H
          obtain ⟨⟨t200, t201⟩, A280, H⟩ := H
          replace H : ((face_Entails.f l2 l1).bind fun bt202 => (if t190 = true then (if t192 = true then ((hypercuberef02_Same.f kj5 l0 l1).bind fun t204 => (if (t194 != t204) = true then (hypercubelaw05_FaceOrder.j1 kj5 l0 l1 l2 t196 t198 t200 bt202.1 true) else (if t196 = true then (hypercubelaw05_FaceOrder.j1 kj5 l0 l1 l2 t196 t198 t200 bt202.1 (!t198)) else (hypercubelaw05_FaceOrder.j1 kj5 l0 l1 l2 t196 t198 t200 bt202.1 false)))) else (hypercubelaw05_FaceOrder.j1 kj5 l0 l1 l2 t196 t198 t200 bt202.1 false)) else (hypercubelaw05_FaceOrder.j1 kj5 l0 l1 l2 t196 t198 t200 bt202.1 true))) = some r := H
          have A28 := Aside0.mk A280
          clear A280
          replace H := Option.bind_eq_some_iff.mp H
          obtain ⟨⟨t202, t203⟩, A290, H⟩ := H
          replace H : (if t190 = true then (if t192 = true then ((hypercuberef02_Same.f kj5 l0 l1).bind fun t204 => (if (t194 != t204) = true then (hypercubelaw05_FaceOrder.j1 kj5 l0 l1 l2 t196 t198 t200 t202 true) else (if t196 = true then (hypercubelaw05_FaceOrder.j1 kj5 l0 l1 l2 t196 t198 t200 t202 (!t198)) else (hypercubelaw05_FaceOrder.j1 kj5 l0 l1 l2 t196 t198 t200 t202 false)))) else (hypercubelaw05_FaceOrder.j1 kj5 l0 l1 l2 t196 t198 t200 t202 false)) else (hypercubelaw05_FaceOrder.j1 kj5 l0 l1 l2 t196 t198 t200 t202 true)) = some r := H
          have A29 := Aside0.mk A290
          clear A290
          have HC30 := Aside0.mk H
          clear H
          go_upto_region 12 with (first | ((with_reducible refine gate_callee (f := 15) rfl ?_); refine goesL_ (some 65) rfl rfl Try.func15 (by kernel_rfl) rfl #[.slice A0 l0.length c0, .slice A0 l0.length c0] rfl (by (try simp only [List.map_toArray, List.map_cons, List.map_nil]); first | done | rfl | (simp only [List.length_drop, List.length_take]; rfl)) ?_; (with_reducible refine (face_Entails.calls _ _ l0 _ _ l0 t190 t191 _ ?side1 ?side2 ?side3 ?side4 A23.out).mono ?_); (case side1 => repeat (first | exact (Kd.C_below HR0.out HB.out) | (with_reducible refine Kd.C_alloc ?_ _) | (with_reducible refine Kd.C_drewN ?_ _) | (with_reducible refine Kd.C_drew ?_))); (case side2 => exact HC0.out); (case side3 => repeat (first | exact (Kd.C_below HR0.out HB.out) | (with_reducible refine Kd.C_alloc ?_ _) | (with_reducible refine Kd.C_drewN ?_ _) | (with_reducible refine Kd.C_drew ?_))); (case side4 => exact HC0.out); rintro e w31 ⟨rfl, hb⟩; refine ⟨_, rfl, ?_⟩; have n0_ := Aside0.mk (below_step (by repeat (first | (with_reducible first | exact HB.out | apply below_alloc | apply pw_below_drewN | apply below_drew1) | exact HB.out)) hb); clear HB; have HB := n0_; clear n0_; (try clear hb); (try clear hb2); (try clear hk); (try clear hi)) | ((with_reducible refine gate_callee (f := 15) rfl ?_); refine goesL_ (some 71) rfl rfl Try.func15 (by kernel_rfl) rfl #[.slice A0 l0.length c0, .slice A1 l1.length c1] rfl (by (try simp only [List.map_toArray, List.map_cons, List.map_nil]); first | done | rfl | (simp only [List.length_drop, List.length_take]; rfl)) ?_; (with_reducible refine (face_Entails.calls _ _ l0 _ _ l1 t192 t193 _ ?side1 ?side2 ?side3 ?side4 A24.out).mono ?_); (case side1 => repeat (first | exact (Kd.C_below HR0.out HB.out) | (with_reducible refine Kd.C_alloc ?_ _) | (with_reducible refine Kd.C_drewN ?_ _) | (with_reducible refine Kd.C_drew ?_))); (case side2 => exact HC0.out); (case side3 => repeat (first | exact (Kd.C_below HR1.out HB.out) | (with_reducible refine Kd.C_alloc ?_ _) | (with_reducible refine Kd.C_drewN ?_ _) | (with_reducible refine Kd.C_drew ?_))); (case side4 => exact HC1.out); rintro e w32 ⟨rfl, hb⟩; refine ⟨_, rfl, ?_⟩; have n0_ := Aside0.mk (below_step (by repeat (first | (with_reducible first | exact HB.out | apply below_alloc | apply pw_below_drewN | apply below_drew1) | exact HB.out)) hb); clear HB; have HB := n0_; clear n0_; (try clear hb); (try clear hb2); (try clear hk); (try clear hi)) | ((with_reducible refine gate_callee (f := 15) rfl ?_); refine goesL_ (some 77) rfl rfl Try.func15 (by kernel_rfl) rfl #[.slice A1 l1.length c1, .slice A0 l0.length c0] rfl (by (try simp only [List.map_toArray, List.map_cons, List.map_nil]); first | done | rfl | (simp only [List.length_drop, List.length_take]; rfl)) ?_; (with_reducible refine (face_Entails.calls _ _ l1 _ _ l0 t194 t195 _ ?side1 ?side2 ?side3 ?side4 A25.out).mono ?_); (case side1 => repeat (first | exact (Kd.C_below HR1.out HB.out) | (with_reducible refine Kd.C_alloc ?_ _) | (with_reducible refine Kd.C_drewN ?_ _) | (with_reducible refine Kd.C_drew ?_))); (case side2 => exact HC1.out); (case side3 => repeat (first | exact (Kd.C_below HR0.out HB.out) | (with_reducible refine Kd.C_alloc ?_ _) | (with_reducible refine Kd.C_drewN ?_ _) | (with_reducible refine Kd.C_drew ?_))); (case side4 => exact HC0.out); rintro e w33 ⟨rfl, hb⟩; refine ⟨_, rfl, ?_⟩; have n0_ := Aside0.mk (below_step (by repeat (first | (with_reducible first | exact HB.out | apply below_alloc | apply pw_below_drewN | apply below_drew1) | exact HB.out)) hb); clear HB; have HB := n0_; clear n0_; (try clear hb); (try clear hb2); (try clear hk); (try clear hi)) | ((with_reducible refine gate_callee (f := 15) rfl ?_); refine goesL_ (some 83) rfl rfl Try.func15 (by kernel_rfl) rfl #[.slice A1 l1.length c1, .slice A2 l2.length c2] rfl (by (try simp only [List.map_toArray, List.map_cons, List.map_nil]); first | done | rfl | (simp only [List.length_drop, List.length_take]; rfl)) ?_; (with_reducible refine (face_Entails.calls _ _ l1 _ _ l2 t196 t197 _ ?side1 ?side2 ?side3 ?side4 A26.out).mono ?_); (case side1 => repeat (first | exact (Kd.C_below HR1.out HB.out) | (with_reducible refine Kd.C_alloc ?_ _) | (with_reducible refine Kd.C_drewN ?_ _) | (with_reducible refine Kd.C_drew ?_))); (case side2 => exact HC1.out); (case side3 => repeat (first | exact (Kd.C_below HR2.out HB.out) | (with_reducible refine Kd.C_alloc ?_ _) | (with_reducible refine Kd.C_drewN ?_ _) | (with_reducible refine Kd.C_drew ?_))); (case side4 => exact HC2.out); rintro e w34 ⟨rfl, hb⟩; refine ⟨_, rfl, ?_⟩; have n0_ := Aside0.mk (below_step (by repeat (first | (with_reducible first | exact HB.out | apply below_alloc | apply pw_below_drewN | apply below_drew1) | exact HB.out)) hb); clear HB; have HB := n0_; clear n0_; (try clear hb); (try clear hb2); (try clear hk); (try clear hi)) | ((with_reducible refine gate_callee (f := 15) rfl ?_); refine goesL_ (some 89) rfl rfl Try.func15 (by kernel_rfl) rfl #[.slice A0 l0.length c0, .slice A2 l2.length c2] rfl (by (try simp only [List.map_toArray, List.map_cons, List.map_nil]); first | done | rfl | (simp only [List.length_drop, List.length_take]; rfl)) ?_; (with_reducible refine (face_Entails.calls _ _ l0 _ _ l2 t198 t199 _ ?side1 ?side2 ?side3 ?side4 A27.out).mono ?_); (case side1 => repeat (first | exact (Kd.C_below HR0.out HB.out) | (with_reducible refine Kd.C_alloc ?_ _) | (with_reducible refine Kd.C_drewN ?_ _) | (with_reducible refine Kd.C_drew ?_))); (case side2 => exact HC0.out); (case side3 => repeat (first | exact (Kd.C_below HR2.out HB.out) | (with_reducible refine Kd.C_alloc ?_ _) | (with_reducible refine Kd.C_drewN ?_ _) | (with_reducible refine Kd.C_drew ?_))); (case side4 => exact HC2.out); rintro e w35 ⟨rfl, hb⟩; refine ⟨_, rfl, ?_⟩; have n0_ := Aside0.mk (below_step (by repeat (first | (with_reducible first | exact HB.out | apply below_alloc | apply pw_below_drewN | apply below_drew1) | exact HB.out)) hb); clear HB; have HB := n0_; clear n0_; (try clear hb); (try clear hb2); (try clear hk); (try clear hi)) | ((with_reducible refine gate_callee (f := 15) rfl ?_); refine goesL_ (some 95) rfl rfl Try.func15 (by kernel_rfl) rfl #[.slice A2 l2.length c2, .slice A0 l0.length c0] rfl (by (try simp only [List.map_toArray, List.map_cons, List.map_nil]); first | done | rfl | (simp only [List.length_drop, List.length_take]; rfl)) ?_; (with_reducible refine (face_Entails.calls _ _ l2 _ _ l0 t200 t201 _ ?side1 ?side2 ?side3 ?side4 A28.out).mono ?_); (case side1 => repeat (first | exact (Kd.C_below HR2.out HB.out) | (with_reducible refine Kd.C_alloc ?_ _) | (with_reducible refine Kd.C_drewN ?_ _) | (with_reducible refine Kd.C_drew ?_))); (case side2 => exact HC2.out); (case side3 => repeat (first | exact (Kd.C_below HR0.out HB.out) | (with_reducible refine Kd.C_alloc ?_ _) | (with_reducible refine Kd.C_drewN ?_ _) | (with_reducible refine Kd.C_drew ?_))); (case side4 => exact HC0.out); rintro e w36 ⟨rfl, hb⟩; refine ⟨_, rfl, ?_⟩; have n0_ := Aside0.mk (below_step (by repeat (first | (with_reducible first | exact HB.out | apply below_alloc | apply pw_below_drewN | apply below_drew1) | exact HB.out)) hb); clear HB; have HB := n0_; clear n0_; (try clear hb); (try clear hb2); (try clear hk); (try clear hi)) | ((with_reducible refine gate_callee (f := 15) rfl ?_); refine goesL_ (some 101) rfl rfl Try.func15 (by kernel_rfl) rfl #[.slice A2 l2.length c2, .slice A1 l1.length c1] rfl (by (try simp only [List.map_toArray, List.map_cons, List.map_nil]); first | done | rfl | (simp only [List.length_drop, List.length_take]; rfl)) ?_; (with_reducible refine (face_Entails.calls _ _ l2 _ _ l1 t202 t203 _ ?side1 ?side2 ?side3 ?side4 A29.out).mono ?_); (case side1 => repeat (first | exact (Kd.C_below HR2.out HB.out) | (with_reducible refine Kd.C_alloc ?_ _) | (with_reducible refine Kd.C_drewN ?_ _) | (with_reducible refine Kd.C_drew ?_))); (case side2 => exact HC2.out); (case side3 => repeat (first | exact (Kd.C_below HR1.out HB.out) | (with_reducible refine Kd.C_alloc ?_ _) | (with_reducible refine Kd.C_drewN ?_ _) | (with_reducible refine Kd.C_drew ?_))); (case side4 => exact HC1.out); rintro e w37 ⟨rfl, hb⟩; refine ⟨_, rfl, ?_⟩; have n0_ := Aside0.mk (below_step (by repeat (first | (with_reducible first | exact HB.out | apply below_alloc | apply pw_below_drewN | apply below_drew1) | exact HB.out)) hb); clear HB; have HB := n0_; clear n0_; (try clear hb); (try clear hb2); (try clear hk); (try clear hi)))
          (try simp only [Act.put, List.setIfInBounds_toArray, List.set_cons_zero, List.set_cons_succ])
          go_cut [125] (fun v125 wc => ∃ (kq : Nat) (x125_29 : Bool), v125 = .bool x125_29 ∧ Aside0 (hypercubelaw05_FaceOrder.j1 kq l0 l1 l2 t196 t198 t200 t202 x125_29 = some r) ∧ Aside0 (kq ≤ kj5) ∧ Aside0 (Below w.heap.size w wc))
          case first =>
            have H := HC30.out
            clear HC30
            by_cases c38 : t190 = true
            · subst c38
              have H1 : (if t192 = true then ((hypercuberef02_Same.f kj5 l0 l1).bind fun t204 => (if (t194 != t204) = true then (hypercubelaw05_FaceOrder.j1 kj5 l0 l1 l2 t196 t198 t200 t202 true) else (if t196 = true then (hypercubelaw05_FaceOrder.j1 kj5 l0 l1 l2 t196 t198 t200 t202 (!t198)) else (hypercubelaw05_FaceOrder.j1 kj5 l0 l1 l2 t196 t198 t200 t202 false)))) else (hypercubelaw05_FaceOrder.j1 kj5 l0 l1 l2 t196 t198 t200 t202 false)) = some r := by rw [if_pos rfl] at H; exact H
              clear H
              have H := H1
              clear H1
              by_cases c39 : t192 = true
              · subst c39
                have H1 : ((hypercuberef02_Same.f kj5 l0 l1).bind fun t204 => (if (t194 != t204) = true then (hypercubelaw05_FaceOrder.j1 kj5 l0 l1 l2 t196 t198 t200 t202 true) else (if t196 = true then (hypercubelaw05_FaceOrder.j1 kj5 l0 l1 l2 t196 t198 t200 t202 (!t198)) else (hypercubelaw05_FaceOrder.j1 kj5 l0 l1 l2 t196 t198 t200 t202 false)))) = some r := by rw [if_pos rfl] at H; exact H
                clear H
                have H := H1
                clear H1
                replace H := Option.bind_eq_some_iff.mp H
                obtain ⟨t204, A400, H⟩ := H
                replace H : (if (t194 != t204) = true then (hypercubelaw05_FaceOrder.j1 kj5 l0 l1 l2 t196 t198 t200 t202 true) else (if t196 = true then (hypercubelaw05_FaceOrder.j1 kj5 l0 l1 l2 t196 t198 t200 t202 (!t198)) else (hypercubelaw05_FaceOrder.j1 kj5 l0 l1 l2 t196 t198 t200 t202 false))) = some r := H
                have A40 := Aside0.mk A400
                clear A400
                by_cases c41 : (t194 != t204) = true
                · rw [if_pos c41] at H
                  have c41b0 : (t194 != t204) = true := c41
                  (try (have c41b1 : decide (t194 = t204) = false := by simpa using c41))
                  (try (have c41b2 : (t194 == t204) = false := by simpa using c41))
                  (try (have c41b3 : ¬ (t194 = t204) := by simpa using c41))
                  clear c41
                  (first | rw [c41b0] | (simp only [i64_w, i32_w]; rw [c41b0]) | skip)
                  have H' := Aside0.mk H
                  clear H
                  go_wp2_with (first | (go_at_call 10; (with_reducible refine (hypercuberef02_Same.calls kj5 _ _ l0 _ _ l1 t204 _ ?side1 ?side2 ?side3 ?side4 A40.out).mono ?_); (case side1 => repeat (first | exact (Kd.C_below HR0.out HB.out) | (with_reducible refine Kd.C_alloc ?_ _) | (with_reducible refine Kd.C_drewN ?_ _) | (with_reducible refine Kd.C_drew ?_))); (case side2 => exact HC0.out); (case side3 => repeat (first | exact (Kd.C_below HR1.out HB.out) | (with_reducible refine Kd.C_alloc ?_ _) | (with_reducible refine Kd.C_drewN ?_ _) | (with_reducible refine Kd.C_drew ?_))); (case side4 => exact HC1.out); rintro e w' ⟨rfl, ⟨nd, rfl⟩⟩))
                  go_meet
                  case rel => exact ⟨_, (true), (by first | rfl | (simp; done) | (simp [*]; done)), H', ⟨by have := HJ5.out; first | omega | exact Nat.le_refl _⟩, ⟨by repeat (first | (with_reducible first | exact HB.out | apply below_alloc | apply pw_below_drewN | apply below_drew1) | exact HB.out)⟩⟩
                · rw [if_neg c41] at H
                  have c41b0 : (t194 != t204) = false := by simpa using c41
                  (try (have c41b1 : decide (t194 = t204) = true := by simpa using c41))
                  (try (have c41b2 : (t194 == t204) = true := by simpa using c41))
                  clear c41
                  (first | rw [c41b0] | (simp only [i64_w, i32_w]; rw [c41b0]) | skip)
                  by_cases c42 : t196 = true
                  · subst c42
                    have H1 : (hypercubelaw05_FaceOrder.j1 kj5 l0 l1 l2 true t198 t200 t202 (!t198)) = some r := by rw [if_pos rfl] at H; exact H
                    clear H
                    have H := H1
                    clear H1
                    have H' := Aside0.mk H
                    clear H
                    go_wp2_with (first | (go_at_call 10; (with_reducible refine (hypercuberef02_Same.calls kj5 _ _ l0 _ _ l1 t204 _ ?side1 ?side2 ?side3 ?side4 A40.out).mono ?_); (case side1 => repeat (first | exact (Kd.C_below HR0.out HB.out) | (with_reducible refine Kd.C_alloc ?_ _) | (with_reducible refine Kd.C_drewN ?_ _) | (with_reducible refine Kd.C_drew ?_))); (case side2 => exact HC0.out); (case side3 => repeat (first | exact (Kd.C_below HR1.out HB.out) | (with_reducible refine Kd.C_alloc ?_ _) | (with_reducible refine Kd.C_drewN ?_ _) | (with_reducible refine Kd.C_drew ?_))); (case side4 => exact HC1.out); rintro e w' ⟨rfl, ⟨nd, rfl⟩⟩))
                    go_meet
                    case rel => exact ⟨_, (!t198), (by first | rfl | (simp; done) | (simp [*]; done)), H', ⟨by have := HJ5.out; first | omega | exact Nat.le_refl _⟩, ⟨by repeat (first | (with_reducible first | exact HB.out | apply below_alloc | apply pw_below_drewN | apply below_drew1) | exact HB.out)⟩⟩
                  · replace c42 := Bool.eq_false_iff.mpr c42
                    subst c42
                    have H1 : (hypercubelaw05_FaceOrder.j1 kj5 l0 l1 l2 false t198 t200 t202 false) = some r := by rw [if_neg (show ¬ (false = true) by decide)] at H; exact H
                    clear H
                    have H := H1
                    clear H1
                    have H' := Aside0.mk H
                    clear H
                    go_wp2_with (first | (go_at_call 10; (with_reducible refine (hypercuberef02_Same.calls kj5 _ _ l0 _ _ l1 t204 _ ?side1 ?side2 ?side3 ?side4 A40.out).mono ?_); (case side1 => repeat (first | exact (Kd.C_below HR0.out HB.out) | (with_reducible refine Kd.C_alloc ?_ _) | (with_reducible refine Kd.C_drewN ?_ _) | (with_reducible refine Kd.C_drew ?_))); (case side2 => exact HC0.out); (case side3 => repeat (first | exact (Kd.C_below HR1.out HB.out) | (with_reducible refine Kd.C_alloc ?_ _) | (with_reducible refine Kd.C_drewN ?_ _) | (with_reducible refine Kd.C_drew ?_))); (case side4 => exact HC1.out); rintro e w' ⟨rfl, ⟨nd, rfl⟩⟩))
                    go_meet
                    case rel => exact ⟨_, (false), (by first | rfl | (simp; done) | (simp [*]; done)), H', ⟨by have := HJ5.out; first | omega | exact Nat.le_refl _⟩, ⟨by repeat (first | (with_reducible first | exact HB.out | apply below_alloc | apply pw_below_drewN | apply below_drew1) | exact HB.out)⟩⟩
              · replace c39 := Bool.eq_false_iff.mpr c39
                subst c39
                have H1 : (hypercubelaw05_FaceOrder.j1 kj5 l0 l1 l2 t196 t198 t200 t202 false) = some r := by rw [if_neg (show ¬ (false = true) by decide)] at H; exact H
                clear H
                have H := H1
                clear H1
                have H' := Aside0.mk H
                clear H
                go_wp2
                go_meet
                case rel => exact ⟨_, (false), (by first | rfl | (simp; done) | (simp [*]; done)), H', ⟨by have := HJ5.out; first | omega | exact Nat.le_refl _⟩, ⟨by repeat (first | (with_reducible first | exact HB.out | apply below_alloc | apply pw_below_drewN | apply below_drew1) | exact HB.out)⟩⟩
            · replace c38 := Bool.eq_false_iff.mpr c38
              subst c38
              have H1 : (hypercubelaw05_FaceOrder.j1 kj5 l0 l1 l2 t196 t198 t200 t202 true) = some r := by rw [if_neg (show ¬ (false = true) by decide)] at H; exact H
              clear H
              have H := H1
              clear H1
              have H' := Aside0.mk H
              clear H
              go_wp2
              go_meet
              case rel => exact ⟨_, (true), (by first | rfl | (simp; done) | (simp [*]; done)), H', ⟨by have := HJ5.out; first | omega | exact Nat.le_refl _⟩, ⟨by repeat (first | (with_reducible first | exact HB.out | apply below_alloc | apply pw_below_drewN | apply below_drew1) | exact HB.out)⟩⟩
          case rest =>
            clear HC30
            try clear c1
            try clear c2
            try clear p2
            try clear c3
            try clear c4
            try clear c5
            try clear c6
            try clear c9
            try clear c10
            try clear c10b0
            try clear c10b1
            try clear c11
            try clear c12
            try clear c14
            try clear c15
            try clear c22
            try clear c38
            try clear c39
            try clear c41
            try clear c41b0
            try clear c41b1
            try clear c41b2
            try clear c42
            try clear p2
            obtain ⟨kq, x125_29, rfl, HA, HJ29, HB⟩ := hcut
            cases kq with
            | zero => exact absurd HA.out (by simp [hypercubelaw05_FaceOrder.j1])
            | succ kj29 =>
              have H := HA.out
              clear HA
              simp only [hypercubelaw05_FaceOrder.j1] at H
              by_cases c43 : x125_29 = true
              · subst c43
                have H1 : (some false) = some r := by rw [if_pos rfl] at H; exact H
                clear H
                have H := H1
                clear H1
                exact absurd ((Option.some.inj H).trans hr_.out) Bool.false_ne_true
              · replace c43 := Bool.eq_false_iff.mpr c43
                subst c43
                have H1 : ((face_Join.f l0 l1).bind fun bt205 => (if bt205.2 = 0 then ((face_Entails.f l0 bt205.1).bind fun bt209 => ((face_Entails.f l1 bt205.1).bind fun bt211 => ((face_Entails.f bt205.1 l2).bind fun bt213 => (if bt209.1 = true then (if bt211.1 = true then (if t198 = true then (if (bt213.1 != t196) = true then (some false) else (hypercubelaw05_FaceOrder.j2 kj29 l0 l1 l2 t200 t202)) else (if (bt213.1 != false) = true then (some false) else (hypercubelaw05_FaceOrder.j2 kj29 l0 l1 l2 t200 t202))) else (some false)) else (some false))))) else (hypercubelaw05_FaceOrder.j2 kj29 l0 l1 l2 t200 t202))) = some r := by rw [if_neg (show ¬ (false = true) by decide)] at H; exact H
                clear H
                have H := H1
                clear H1
                replace H := Option.bind_eq_some_iff.mp H
                obtain ⟨⟨t205, t206⟩, A440, H⟩ := H
                replace H : (if t206 = 0 then ((face_Entails.f l0 t205).bind fun bt209 => ((face_Entails.f l1 t205).bind fun bt211 => ((face_Entails.f t205 l2).bind fun bt213 => (if bt209.1 = true then (if bt211.1 = true then (if t198 = true then (if (bt213.1 != t196) = true then (some false) else (hypercubelaw05_FaceOrder.j2 kj29 l0 l1 l2 t200 t202)) else (if (bt213.1 != false) = true then (some false) else (hypercubelaw05_FaceOrder.j2 kj29 l0 l1 l2 t200 t202))) else (some false)) else (some false))))) else (hypercubelaw05_FaceOrder.j2 kj29 l0 l1 l2 t200 t202)) = some r := H
                have A44 := Aside0.mk A440
                clear A440
                have HC45 := Aside0.mk H
                clear H
                go_upto_if 133 with (first | ((with_reducible refine gate_callee (f := 20) rfl ?_); refine goesL_ (some 129) rfl rfl Try.func20 (by kernel_rfl) rfl #[.slice A0 l0.length c0, .slice A1 l1.length c1] rfl (by (try simp only [List.map_toArray, List.map_cons, List.map_nil]); first | done | rfl | (simp only [List.length_drop, List.length_take]; rfl)) ?_; (with_reducible refine (face_Join.calls _ _ l0 _ _ l1 t205 t206 _ ?side1 ?side2 ?side3 ?side4 A44.out).mono ?_); (case side1 => repeat (first | exact (Kd.C_below HR0.out HB.out) | (with_reducible refine Kd.C_alloc ?_ _) | (with_reducible refine Kd.C_drewN ?_ _) | (with_reducible refine Kd.C_drew ?_))); (case side2 => exact HC0.out); (case side3 => repeat (first | exact (Kd.C_below HR1.out HB.out) | (with_reducible refine Kd.C_alloc ?_ _) | (with_reducible refine Kd.C_drewN ?_ _) | (with_reducible refine Kd.C_drew ?_))); (case side4 => exact HC1.out); rintro e w46 ⟨v207, rfl, ho0, hb⟩; refine ⟨_, rfl, ?_⟩; have n0_ := Aside0.mk (Kd.R_lower ho0 (below_size (by repeat (first | (with_reducible first | exact HB.out | apply below_alloc | apply pw_below_drewN | apply below_drew1) | exact HB.out)))); have n1_ := Aside0.mk (below_step (by repeat (first | (with_reducible first | exact HB.out | apply below_alloc | apply pw_below_drewN | apply below_drew1) | exact HB.out)) hb); clear HB; have HO208 := n0_; have HB := n1_; clear n0_ n1_; (try clear hb); (try clear hb2); (try clear hk); (try clear hi); (try clear ho0)))
                (try simp only [Act.put, List.setIfInBounds_toArray, List.set_cons_zero, List.set_cons_succ])
                go_cut [] (fun wc => ∃ (kq : Nat), Aside0 (hypercubelaw05_FaceOrder.j2 kq l0 l1 l2 t200 t202 = some r) ∧ Aside0 (kq ≤ kj29) ∧ Aside0 (Below w.heap.size w wc))
                case first =>
                  have H := HC45.out
                  clear HC45
                  by_cases c47 : t206 = 0
                  · rw [if_pos c47] at H
                    have c47b0 : (t206 == 0) = true := beq_iff_eq.mpr c47
                    have c47b1 : (t206 != 0) = false := bne_eq_false_iff_eq.mpr c47
                    clear c47
                    (first | rw [c47b0] | (simp only [i64_w, i32_w]; rw [c47b0]) | skip)
                    replace H := Option.bind_eq_some_iff.mp H
                    obtain ⟨⟨t209, t210⟩, A480, H⟩ := H
                    replace H : ((face_Entails.f l1 t205).bind fun bt211 => ((face_Entails.f t205 l2).bind fun bt213 => (if t209 = true then (if bt211.1 = true then (if t198 = true then (if (bt213.1 != t196) = true then (some false) else (hypercubelaw05_FaceOrder.j2 kj29 l0 l1 l2 t200 t202)) else (if (bt213.1 != false) = true then (some false) else (hypercubelaw05_FaceOrder.j2 kj29 l0 l1 l2 t200 t202))) else (some false)) else (some false)))) = some r := H
                    have A48 := Aside0.mk A480
                    clear A480
                    replace H := Option.bind_eq_some_iff.mp H
                    obtain ⟨⟨t211, t212⟩, A490, H⟩ := H
                    replace H : ((face_Entails.f t205 l2).bind fun bt213 => (if t209 = true then (if t211 = true then (if t198 = true then (if (bt213.1 != t196) = true then (some false) else (hypercubelaw05_FaceOrder.j2 kj29 l0 l1 l2 t200 t202)) else (if (bt213.1 != false) = true then (some false) else (hypercubelaw05_FaceOrder.j2 kj29 l0 l1 l2 t200 t202))) else (some false)) else (some false))) = some r := H
                    have A49 := Aside0.mk A490
                    clear A490
                    replace H := Option.bind_eq_some_iff.mp H
                    obtain ⟨⟨t213, t214⟩, A500, H⟩ := H
                    replace H : (if t209 = true then (if t211 = true then (if t198 = true then (if (t213 != t196) = true then (some false) else (hypercubelaw05_FaceOrder.j2 kj29 l0 l1 l2 t200 t202)) else (if (t213 != false) = true then (some false) else (hypercubelaw05_FaceOrder.j2 kj29 l0 l1 l2 t200 t202))) else (some false)) else (some false)) = some r := H
                    have A50 := Aside0.mk A500
                    clear A500
                    by_cases c51 : t209 = true
                    · subst c51
                      have H1 : (if t211 = true then (if t198 = true then (if (t213 != t196) = true then (some false) else (hypercubelaw05_FaceOrder.j2 kj29 l0 l1 l2 t200 t202)) else (if (t213 != false) = true then (some false) else (hypercubelaw05_FaceOrder.j2 kj29 l0 l1 l2 t200 t202))) else (some false)) = some r := by rw [if_pos rfl] at H; exact H
                      clear H
                      have H := H1
                      clear H1
                      by_cases c52 : t211 = true
                      · subst c52
                        have H1 : (if t198 = true then (if (t213 != t196) = true then (some false) else (hypercubelaw05_FaceOrder.j2 kj29 l0 l1 l2 t200 t202)) else (if (t213 != false) = true then (some false) else (hypercubelaw05_FaceOrder.j2 kj29 l0 l1 l2 t200 t202))) = some r := by rw [if_pos rfl] at H; exact H
                        clear H
                        have H := H1
                        clear H1
                        by_cases c53 : t198 = true
                        · subst c53
                          have H1 : (if (t213 != t196) = true then (some false) else (hypercubelaw05_FaceOrder.j2 kj29 l0 l1 l2 t200 t202)) = some r := by rw [if_pos rfl] at H; exact H
                          clear H
                          have H := H1
                          clear H1
                          by_cases c54 : (t213 != t196) = true
                          · rw [if_pos c54] at H
                            have c54b0 : (t213 != t196) = true := c54
                            (try (have c54b1 : decide (t213 = t196) = false := by simpa using c54))
                            (try (have c54b2 : (t213 == t196) = false := by simpa using c54))
                            (try (have c54b3 : ¬ (t213 = t196) := by simpa using c54))
                            clear c54
                            exact absurd ((Option.some.inj H).trans hr_.out) Bool.false_ne_true
                          · rw [if_neg c54] at H
                            have c54b0 : (t213 != t196) = false := by simpa using c54
                            (try (have c54b1 : decide (t213 = t196) = true := by simpa using c54))
                            (try (have c54b2 : (t213 == t196) = true := by simpa using c54))
                            clear c54
                            have H' := Aside0.mk H
                            clear H
                            obtain ⟨Ao55, co55, eo55⟩ := Kd.R_slice HO208.out
                            subst eo55
                            go_wp2_with (first | ((with_reducible refine gate_callee (f := 15) rfl ?_); refine goesL_ (some 137) rfl rfl Try.func15 (by kernel_rfl) rfl #[.slice A0 l0.length c0, .slice Ao55 t205.length co55] rfl (by (try simp only [List.map_toArray, List.map_cons, List.map_nil]); first | done | rfl | (simp only [List.length_drop, List.length_take]; rfl)) ?_; (with_reducible refine (face_Entails.calls _ _ l0 _ _ t205 true t210 _ ?side1 ?side2 ?side3 ?side4 A48.out).mono ?_); (case side1 => repeat (first | exact (Kd.C_below HR0.out HB.out) | (with_reducible refine Kd.C_alloc ?_ _) | (with_reducible refine Kd.C_drewN ?_ _) | (with_reducible refine Kd.C_drew ?_))); (case side2 => exact HC0.out); (case side3 => repeat (first | exact (Kd.R_reads' HO208.out).2.2 | (with_reducible refine Kd.C_alloc ?_ _) | (with_reducible refine Kd.C_drewN ?_ _) | (with_reducible refine Kd.C_drew ?_))); (case side4 => exact (Kd.R_reads' HO208.out).2.1); rintro e w56 ⟨rfl, hb⟩; refine ⟨_, rfl, ?_⟩; have n0_ := Aside0.mk (Kd.R_below (by (with_reducible repeat (first | apply Kd.R_alloc | apply Kd.R_drewN | apply Kd.R_drew)); exact HO208.out) hb); have n1_ := Aside0.mk (below_step (by repeat (first | (with_reducible first | exact HB.out | apply below_alloc | apply pw_below_drewN | apply below_drew1) | exact HB.out)) hb); clear HO208; clear HB; have HO208 := n0_; have HB := n1_; clear n0_ n1_; (try clear hb); (try clear hb2); (try clear hk); (try clear hi)) | ((with_reducible refine gate_callee (f := 15) rfl ?_); refine goesL_ (some 143) rfl rfl Try.func15 (by kernel_rfl) rfl #[.slice A1 l1.length c1, .slice Ao55 t205.length co55] rfl (by (try simp only [List.map_toArray, List.map_cons, List.map_nil]); first | done | rfl | (simp only [List.length_drop, List.length_take]; rfl)) ?_; (with_reducible refine (face_Entails.calls _ _ l1 _ _ t205 true t212 _ ?side1 ?side2 ?side3 ?side4 A49.out).mono ?_); (case side1 => repeat (first | exact (Kd.C_below HR1.out HB.out) | (with_reducible refine Kd.C_alloc ?_ _) | (with_reducible refine Kd.C_drewN ?_ _) | (with_reducible refine Kd.C_drew ?_))); (case side2 => exact HC1.out); (case side3 => repeat (first | exact (Kd.R_reads' HO208.out).2.2 | (with_reducible refine Kd.C_alloc ?_ _) | (with_reducible refine Kd.C_drewN ?_ _) | (with_reducible refine Kd.C_drew ?_))); (case side4 => exact (Kd.R_reads' HO208.out).2.1); rintro e w57 ⟨rfl, hb⟩; refine ⟨_, rfl, ?_⟩; have n0_ := Aside0.mk (Kd.R_below (by (with_reducible repeat (first | apply Kd.R_alloc | apply Kd.R_drewN | apply Kd.R_drew)); exact HO208.out) hb); have n1_ := Aside0.mk (below_step (by repeat (first | (with_reducible first | exact HB.out | apply below_alloc | apply pw_below_drewN | apply below_drew1) | exact HB.out)) hb); clear HO208; clear HB; have HO208 := n0_; have HB := n1_; clear n0_ n1_; (try clear hb); (try clear hb2); (try clear hk); (try clear hi)) | ((with_reducible refine gate_callee (f := 15) rfl ?_); refine goesL_ (some 149) rfl rfl Try.func15 (by kernel_rfl) rfl #[.slice Ao55 t205.length co55, .slice A2 l2.length c2] rfl (by (try simp only [List.map_toArray, List.map_cons, List.map_nil]); first | done | rfl | (simp only [List.length_drop, List.length_take]; rfl)) ?_; (with_reducible refine (face_Entails.calls _ _ t205 _ _ l2 t213 t214 _ ?side1 ?side2 ?side3 ?side4 A50.out).mono ?_); (case side1 => repeat (first | exact (Kd.R_reads' HO208.out).2.2 | (with_reducible refine Kd.C_alloc ?_ _) | (with_reducible refine Kd.C_drewN ?_ _) | (with_reducible refine Kd.C_drew ?_))); (case side2 => exact (Kd.R_reads' HO208.out).2.1); (case side3 => repeat (first | exact (Kd.C_below HR2.out HB.out) | (with_reducible refine Kd.C_alloc ?_ _) | (with_reducible refine Kd.C_drewN ?_ _) | (with_reducible refine Kd.C_drew ?_))); (case side4 => exact HC2.out); rintro e w58 ⟨rfl, hb⟩; refine ⟨_, rfl, ?_⟩; have n0_ := Aside0.mk (Kd.R_below (by (with_reducible repeat (first | apply Kd.R_alloc | apply Kd.R_drewN | apply Kd.R_drew)); exact HO208.out) hb); have n1_ := Aside0.mk (below_step (by repeat (first | (with_reducible first | exact HB.out | apply below_alloc | apply pw_below_drewN | apply below_drew1) | exact HB.out)) hb); clear HO208; clear HB; have HO208 := n0_; have HB := n1_; clear n0_ n1_; (try clear hb); (try clear hb2); (try clear hk); (try clear hi)))
                            go_meet
                            case rel => exact ⟨_, H', ⟨by have := HJ5.out; have := HJ29.out; first | omega | exact Nat.le_refl _⟩, ⟨by repeat (first | (with_reducible first | exact HB.out | apply below_alloc | apply pw_below_drewN | apply below_drew1) | exact HB.out)⟩⟩
                        · replace c53 := Bool.eq_false_iff.mpr c53
                          subst c53
                          have H1 : (if (t213 != false) = true then (some false) else (hypercubelaw05_FaceOrder.j2 kj29 l0 l1 l2 t200 t202)) = some r := by rw [if_neg (show ¬ (false = true) by decide)] at H; exact H
                          clear H
                          have H := H1
                          clear H1
                          by_cases c59 : (t213 != false) = true
                          · rw [if_pos c59] at H
                            have c59b0 : (t213 != false) = true := c59
                            (try (have c59b1 : decide (t213 = false) = false := by simpa using c59))
                            (try (have c59b2 : (t213 == false) = false := by simpa using c59))
                            (try (have c59b3 : ¬ (t213 = false) := by simpa using c59))
                            clear c59
                            exact absurd ((Option.some.inj H).trans hr_.out) Bool.false_ne_true
                          · rw [if_neg c59] at H
                            have c59b0 : (t213 != false) = false := by simpa using c59
                            (try (have c59b1 : decide (t213 = false) = true := by simpa using c59))
                            (try (have c59b2 : (t213 == false) = true := by simpa using c59))
                            clear c59
                            have H' := Aside0.mk H
                            clear H
                            obtain ⟨Ao60, co60, eo60⟩ := Kd.R_slice HO208.out
                            subst eo60
                            go_wp2_with (first | ((with_reducible refine gate_callee (f := 15) rfl ?_); refine goesL_ (some 137) rfl rfl Try.func15 (by kernel_rfl) rfl #[.slice A0 l0.length c0, .slice Ao60 t205.length co60] rfl (by (try simp only [List.map_toArray, List.map_cons, List.map_nil]); first | done | rfl | (simp only [List.length_drop, List.length_take]; rfl)) ?_; (with_reducible refine (face_Entails.calls _ _ l0 _ _ t205 true t210 _ ?side1 ?side2 ?side3 ?side4 A48.out).mono ?_); (case side1 => repeat (first | exact (Kd.C_below HR0.out HB.out) | (with_reducible refine Kd.C_alloc ?_ _) | (with_reducible refine Kd.C_drewN ?_ _) | (with_reducible refine Kd.C_drew ?_))); (case side2 => exact HC0.out); (case side3 => repeat (first | exact (Kd.R_reads' HO208.out).2.2 | (with_reducible refine Kd.C_alloc ?_ _) | (with_reducible refine Kd.C_drewN ?_ _) | (with_reducible refine Kd.C_drew ?_))); (case side4 => exact (Kd.R_reads' HO208.out).2.1); rintro e w61 ⟨rfl, hb⟩; refine ⟨_, rfl, ?_⟩; have n0_ := Aside0.mk (Kd.R_below (by (with_reducible repeat (first | apply Kd.R_alloc | apply Kd.R_drewN | apply Kd.R_drew)); exact HO208.out) hb); have n1_ := Aside0.mk (below_step (by repeat (first | (with_reducible first | exact HB.out | apply below_alloc | apply pw_below_drewN | apply below_drew1) | exact HB.out)) hb); clear HO208; clear HB; have HO208 := n0_; have HB := n1_; clear n0_ n1_; (try clear hb); (try clear hb2); (try clear hk); (try clear hi)) | ((with_reducible refine gate_callee (f := 15) rfl ?_); refine goesL_ (some 143) rfl rfl Try.func15 (by kernel_rfl) rfl #[.slice A1 l1.length c1, .slice Ao60 t205.length co60] rfl (by (try simp only [List.map_toArray, List.map_cons, List.map_nil]); first | done | rfl | (simp only [List.length_drop, List.length_take]; rfl)) ?_; (with_reducible refine (face_Entails.calls _ _ l1 _ _ t205 true t212 _ ?side1 ?side2 ?side3 ?side4 A49.out).mono ?_); (case side1 => repeat (first | exact (Kd.C_below HR1.out HB.out) | (with_reducible refine Kd.C_alloc ?_ _) | (with_reducible refine Kd.C_drewN ?_ _) | (with_reducible refine Kd.C_drew ?_))); (case side2 => exact HC1.out); (case side3 => repeat (first | exact (Kd.R_reads' HO208.out).2.2 | (with_reducible refine Kd.C_alloc ?_ _) | (with_reducible refine Kd.C_drewN ?_ _) | (with_reducible refine Kd.C_drew ?_))); (case side4 => exact (Kd.R_reads' HO208.out).2.1); rintro e w62 ⟨rfl, hb⟩; refine ⟨_, rfl, ?_⟩; have n0_ := Aside0.mk (Kd.R_below (by (with_reducible repeat (first | apply Kd.R_alloc | apply Kd.R_drewN | apply Kd.R_drew)); exact HO208.out) hb); have n1_ := Aside0.mk (below_step (by repeat (first | (with_reducible first | exact HB.out | apply below_alloc | apply pw_below_drewN | apply below_drew1) | exact HB.out)) hb); clear HO208; clear HB; have HO208 := n0_; have HB := n1_; clear n0_ n1_; (try clear hb); (try clear hb2); (try clear hk); (try clear hi)) | ((with_reducible refine gate_callee (f := 15) rfl ?_); refine goesL_ (some 149) rfl rfl Try.func15 (by kernel_rfl) rfl #[.slice Ao60 t205.length co60, .slice A2 l2.length c2] rfl (by (try simp only [List.map_toArray, List.map_cons, List.map_nil]); first | done | rfl | (simp only [List.length_drop, List.length_take]; rfl)) ?_; (with_reducible refine (face_Entails.calls _ _ t205 _ _ l2 t213 t214 _ ?side1 ?side2 ?side3 ?side4 A50.out).mono ?_); (case side1 => repeat (first | exact (Kd.R_reads' HO208.out).2.2 | (with_reducible refine Kd.C_alloc ?_ _) | (with_reducible refine Kd.C_drewN ?_ _) | (with_reducible refine Kd.C_drew ?_))); (case side2 => exact (Kd.R_reads' HO208.out).2.1); (case side3 => repeat (first | exact (Kd.C_below HR2.out HB.out) | (with_reducible refine Kd.C_alloc ?_ _) | (with_reducible refine Kd.C_drewN ?_ _) | (with_reducible refine Kd.C_drew ?_))); (case side4 => exact HC2.out); rintro e w63 ⟨rfl, hb⟩; refine ⟨_, rfl, ?_⟩; have n0_ := Aside0.mk (Kd.R_below (by (with_reducible repeat (first | apply Kd.R_alloc | apply Kd.R_drewN | apply Kd.R_drew)); exact HO208.out) hb); have n1_ := Aside0.mk (below_step (by repeat (first | (with_reducible first | exact HB.out | apply below_alloc | apply pw_below_drewN | apply below_drew1) | exact HB.out)) hb); clear HO208; clear HB; have HO208 := n0_; have HB := n1_; clear n0_ n1_; (try clear hb); (try clear hb2); (try clear hk); (try clear hi)))
                            go_meet
                            case rel => exact ⟨_, H', ⟨by have := HJ5.out; have := HJ29.out; first | omega | exact Nat.le_refl _⟩, ⟨by repeat (first | (with_reducible first | exact HB.out | apply below_alloc | apply pw_below_drewN | apply below_drew1) | exact HB.out)⟩⟩
                      · replace c52 := Bool.eq_false_iff.mpr c52
                        subst c52
                        have H1 : (some false) = some r := by rw [if_neg (show ¬ (false = true) by decide)] at H; exact H
                        clear H
                        have H := H1
                        clear H1
                        exact absurd ((Option.some.inj H).trans hr_.out) Bool.false_ne_true
                    · replace c51 := Bool.eq_false_iff.mpr c51
                      subst c51
                      have H1 : (some false) = some r := by rw [if_neg (show ¬ (false = true) by decide)] at H; exact H
                      clear H
                      have H := H1
                      clear H1
                      exact absurd ((Option.some.inj H).trans hr_.out) Bool.false_ne_true
                  · rw [if_neg c47] at H
                    have c47b0 : (t206 == 0) = false := beq_eq_false_iff_ne.mpr c47
                    have c47b1 : (t206 != 0) = true := bne_iff_ne.mpr c47
                    (first | rw [c47b0] | (simp only [i64_w, i32_w]; rw [c47b0]) | skip)
                    have H' := Aside0.mk H
                    clear H
                    go_wp2
                    go_meet
                    case rel => exact ⟨_, H', ⟨by have := HJ5.out; have := HJ29.out; first | omega | exact Nat.le_refl _⟩, ⟨by repeat (first | (with_reducible first | exact HB.out | apply below_alloc | apply pw_below_drewN | apply below_drew1) | exact HB.out)⟩⟩
                case rest =>
                  clear HC45
                  try clear c1
                  try clear c2
                  try clear p2
                  try clear c3
                  try clear c4
                  try clear c5
                  try clear c6
                  try clear c9
                  try clear c10
                  try clear c10b0
                  try clear c10b1
                  try clear c11
                  try clear c12
                  try clear c14
                  try clear c15
                  try clear c20
                  try clear c22
                  try clear c38
                  try clear c39
                  try clear c41
                  try clear c41b0
                  try clear c41b1
                  try clear c41b2
                  try clear c42
                  try clear c43
                  try clear c47
                  try clear c47b0
                  try clear c47b1
                  try clear c51
                  try clear c52
                  try clear c53
                  try clear c54
                  try clear c54b0
                  try clear c54b1
                  try clear c54b2
                  try clear c59
                  try clear c59b0
                  try clear c59b1
                  try clear c59b2
                  try clear p2
                  obtain ⟨kq, HA, HJ44, HB⟩ := hcut
                  cases kq with
                  | zero => exact absurd HA.out (by simp [hypercubelaw05_FaceOrder.j2])
                  | succ kj44 =>
                    have H := HA.out
                    clear HA
                    simp only [hypercubelaw05_FaceOrder.j2] at H
                    replace H := Option.bind_eq_some_iff.mp H
                    obtain ⟨⟨t215, t216⟩, A640, H⟩ := H
                    replace H : (if t216 = 0 then ((face_Entails.f t215 l0).bind fun bt219 => ((face_Entails.f t215 l1).bind fun bt221 => ((face_Entails.f l2 t215).bind fun bt223 => (if bt219.1 = true then (if bt221.1 = true then (if t200 = true then (if (bt223.1 != t202) = true then (some false) else (some true)) else (if (bt223.1 != false) = true then (some false) else (some true))) else (some false)) else (some false))))) else (some true)) = some r := H
                    have A64 := Aside0.mk A640
                    clear A640
                    by_cases c65 : t216 = 0
                    · rw [if_pos c65] at H
                      have c65b0 : (t216 == 0) = true := beq_iff_eq.mpr c65
                      have c65b1 : (t216 != 0) = false := bne_eq_false_iff_eq.mpr c65
                      clear c65
                      replace H := Option.bind_eq_some_iff.mp H
                      obtain ⟨⟨t219, t220⟩, A660, H⟩ := H
                      replace H : ((face_Entails.f t215 l1).bind fun bt221 => ((face_Entails.f l2 t215).bind fun bt223 => (if t219 = true then (if bt221.1 = true then (if t200 = true then (if (bt223.1 != t202) = true then (some false) else (some true)) else (if (bt223.1 != false) = true then (some false) else (some true))) else (some false)) else (some false)))) = some r := H
                      have A66 := Aside0.mk A660
                      clear A660
                      replace H := Option.bind_eq_some_iff.mp H
                      obtain ⟨⟨t221, t222⟩, A670, H⟩ := H
                      replace H : ((face_Entails.f l2 t215).bind fun bt223 => (if t219 = true then (if t221 = true then (if t200 = true then (if (bt223.1 != t202) = true then (some false) else (some true)) else (if (bt223.1 != false) = true then (some false) else (some true))) else (some false)) else (some false))) = some r := H
                      have A67 := Aside0.mk A670
                      clear A670
                      replace H := Option.bind_eq_some_iff.mp H
                      obtain ⟨⟨t223, t224⟩, A680, H⟩ := H
                      replace H : (if t219 = true then (if t221 = true then (if t200 = true then (if (t223 != t202) = true then (some false) else (some true)) else (if (t223 != false) = true then (some false) else (some true))) else (some false)) else (some false)) = some r := H
                      have A68 := Aside0.mk A680
                      clear A680
                      by_cases c69 : t219 = true
                      · subst c69
                        have H1 : (if t221 = true then (if t200 = true then (if (t223 != t202) = true then (some false) else (some true)) else (if (t223 != false) = true then (some false) else (some true))) else (some false)) = some r := by rw [if_pos rfl] at H; exact H
                        clear H
                        have H := H1
                        clear H1
                        by_cases c70 : t221 = true
                        · subst c70
                          have H1 : (if t200 = true then (if (t223 != t202) = true then (some false) else (some true)) else (if (t223 != false) = true then (some false) else (some true))) = some r := by rw [if_pos rfl] at H; exact H
                          clear H
                          have H := H1
                          clear H1
                          by_cases c71 : t200 = true
                          · subst c71
                            have H1 : (if (t223 != t202) = true then (some false) else (some true)) = some r := by rw [if_pos rfl] at H; exact H
                            clear H
                            have H := H1
                            clear H1
                            by_cases c72 : (t223 != t202) = true
                            · rw [if_pos c72] at H
                              have c72b0 : (t223 != t202) = true := c72
                              (try (have c72b1 : decide (t223 = t202) = false := by simpa using c72))
                              (try (have c72b2 : (t223 == t202) = false := by simpa using c72))
                              (try (have c72b3 : ¬ (t223 = t202) := by simpa using c72))
                              clear c72
                              exact absurd ((Option.some.inj H).trans hr_.out) Bool.false_ne_true
                            · rw [if_neg c72] at H
                              have c72b0 : (t223 != t202) = false := by simpa using c72
                              (try (have c72b1 : decide (t223 = t202) = true := by simpa using c72))
                              (try (have c72b2 : (t223 == t202) = true := by simpa using c72))
                              clear c72
                              obtain rfl := Option.some.inj H
                              go_wp2_with (first | ((with_reducible refine gate_callee (f := 21) rfl ?_); refine goesL_ (some 169) rfl rfl Try.func21 (by kernel_rfl) rfl #[.slice A0 l0.length c0, .slice A1 l1.length c1] rfl (by (try simp only [List.map_toArray, List.map_cons, List.map_nil]); first | done | rfl | (simp only [List.length_drop, List.length_take]; rfl)) ?_; (with_reducible refine (face_Meet.calls _ _ l0 _ _ l1 t215 t216 _ ?side1 ?side2 ?side3 ?side4 A64.out).mono ?_); (case side1 => repeat (first | exact (Kd.C_below HR0.out HB.out) | (with_reducible refine Kd.C_alloc ?_ _) | (with_reducible refine Kd.C_drewN ?_ _) | (with_reducible refine Kd.C_drew ?_))); (case side2 => exact HC0.out); (case side3 => repeat (first | exact (Kd.C_below HR1.out HB.out) | (with_reducible refine Kd.C_alloc ?_ _) | (with_reducible refine Kd.C_drewN ?_ _) | (with_reducible refine Kd.C_drew ?_))); (case side4 => exact HC1.out); rintro e w73 ⟨v217, rfl, ho0, hb⟩; refine ⟨_, rfl, ?_⟩; have n0_ := Aside0.mk (Kd.R_lower ho0 (below_size (by repeat (first | (with_reducible first | exact HB.out | apply below_alloc | apply pw_below_drewN | apply below_drew1) | exact HB.out)))); have n1_ := Aside0.mk (below_step (by repeat (first | (with_reducible first | exact HB.out | apply below_alloc | apply pw_below_drewN | apply below_drew1) | exact HB.out)) hb); clear HB; have HO218 := n0_; have HB := n1_; clear n0_ n1_; (try clear hb); (try clear hb2); (try clear hk); (try clear hi); (try clear ho0); obtain ⟨Ao74, co74, eo74⟩ := Kd.R_slice HO218.out; subst eo74) | ((with_reducible refine gate_callee (f := 15) rfl ?_); refine goesL_ (some 177) rfl rfl Try.func15 (by kernel_rfl) rfl #[.slice Ao74 t215.length co74, .slice A0 l0.length c0] rfl (by (try simp only [List.map_toArray, List.map_cons, List.map_nil]); first | done | rfl | (simp only [List.length_drop, List.length_take]; rfl)) ?_; (with_reducible refine (face_Entails.calls _ _ t215 _ _ l0 true t220 _ ?side1 ?side2 ?side3 ?side4 A66.out).mono ?_); (case side1 => repeat (first | exact (Kd.R_reads' HO218.out).2.2 | (with_reducible refine Kd.C_alloc ?_ _) | (with_reducible refine Kd.C_drewN ?_ _) | (with_reducible refine Kd.C_drew ?_))); (case side2 => exact (Kd.R_reads' HO218.out).2.1); (case side3 => repeat (first | exact (Kd.C_below HR0.out HB.out) | (with_reducible refine Kd.C_alloc ?_ _) | (with_reducible refine Kd.C_drewN ?_ _) | (with_reducible refine Kd.C_drew ?_))); (case side4 => exact HC0.out); rintro e w75 ⟨rfl, hb⟩; refine ⟨_, rfl, ?_⟩; have n0_ := Aside0.mk (Kd.R_below (by (with_reducible repeat (first | apply Kd.R_alloc | apply Kd.R_drewN | apply Kd.R_drew)); exact HO218.out) hb); have n1_ := Aside0.mk (below_step (by repeat (first | (with_reducible first | exact HB.out | apply below_alloc | apply pw_below_drewN | apply below_drew1) | exact HB.out)) hb); clear HO218; clear HB; have HO218 := n0_; have HB := n1_; clear n0_ n1_; (try clear hb); (try clear hb2); (try clear hk); (try clear hi)) | ((with_reducible refine gate_callee (f := 15) rfl ?_); refine goesL_ (some 183) rfl rfl Try.func15 (by kernel_rfl) rfl #[.slice Ao74 t215.length co74, .slice A1 l1.length c1] rfl (by (try simp only [List.map_toArray, List.map_cons, List.map_nil]); first | done | rfl | (simp only [List.length_drop, List.length_take]; rfl)) ?_; (with_reducible refine (face_Entails.calls _ _ t215 _ _ l1 true t222 _ ?side1 ?side2 ?side3 ?side4 A67.out).mono ?_); (case side1 => repeat (first | exact (Kd.R_reads' HO218.out).2.2 | (with_reducible refine Kd.C_alloc ?_ _) | (with_reducible refine Kd.C_drewN ?_ _) | (with_reducible refine Kd.C_drew ?_))); (case side2 => exact (Kd.R_reads' HO218.out).2.1); (case side3 => repeat (first | exact (Kd.C_below HR1.out HB.out) | (with_reducible refine Kd.C_alloc ?_ _) | (with_reducible refine Kd.C_drewN ?_ _) | (with_reducible refine Kd.C_drew ?_))); (case side4 => exact HC1.out); rintro e w76 ⟨rfl, hb⟩; refine ⟨_, rfl, ?_⟩; have n0_ := Aside0.mk (Kd.R_below (by (with_reducible repeat (first | apply Kd.R_alloc | apply Kd.R_drewN | apply Kd.R_drew)); exact HO218.out) hb); have n1_ := Aside0.mk (below_step (by repeat (first | (with_reducible first | exact HB.out | apply below_alloc | apply pw_below_drewN | apply below_drew1) | exact HB.out)) hb); clear HO218; clear HB; have HO218 := n0_; have HB := n1_; clear n0_ n1_; (try clear hb); (try clear hb2); (try clear hk); (try clear hi)) | ((with_reducible refine gate_callee (f := 15) rfl ?_); refine goesL_ (some 189) rfl rfl Try.func15 (by kernel_rfl) rfl #[.slice A2 l2.length c2, .slice Ao74 t215.length co74] rfl (by (try simp only [List.map_toArray, List.map_cons, List.map_nil]); first | done | rfl | (simp only [List.length_drop, List.length_take]; rfl)) ?_; (with_reducible refine (face_Entails.calls _ _ l2 _ _ t215 t223 t224 _ ?side1 ?side2 ?side3 ?side4 A68.out).mono ?_); (case side1 => repeat (first | exact (Kd.C_below HR2.out HB.out) | (with_reducible refine Kd.C_alloc ?_ _) | (with_reducible refine Kd.C_drewN ?_ _) | (with_reducible refine Kd.C_drew ?_))); (case side2 => exact HC2.out); (case side3 => repeat (first | exact (Kd.R_reads' HO218.out).2.2 | (with_reducible refine Kd.C_alloc ?_ _) | (with_reducible refine Kd.C_drewN ?_ _) | (with_reducible refine Kd.C_drew ?_))); (case side4 => exact (Kd.R_reads' HO218.out).2.1); rintro e w77 ⟨rfl, hb⟩; refine ⟨_, rfl, ?_⟩; have n0_ := Aside0.mk (Kd.R_below (by (with_reducible repeat (first | apply Kd.R_alloc | apply Kd.R_drewN | apply Kd.R_drew)); exact HO218.out) hb); have n1_ := Aside0.mk (below_step (by repeat (first | (with_reducible first | exact HB.out | apply below_alloc | apply pw_below_drewN | apply below_drew1) | exact HB.out)) hb); clear HO218; clear HB; have HO218 := n0_; have HB := n1_; clear n0_ n1_; (try clear hb); (try clear hb2); (try clear hk); (try clear hi)))
                              go_ret
                              exact ⟨by first | rfl | (simp [errW_none, errW_some] <;> rfl) | (simp [*, errW_none, errW_some] <;> rfl), by repeat (first | (with_reducible first | exact HB.out | apply below_alloc | apply pw_below_drewN | apply below_drew1) | exact HB.out)⟩
                          · replace c71 := Bool.eq_false_iff.mpr c71
                            subst c71
                            have H1 : (if (t223 != false) = true then (some false) else (some true)) = some r := by rw [if_neg (show ¬ (false = true) by decide)] at H; exact H
                            clear H
                            have H := H1
                            clear H1
                            by_cases c78 : (t223 != false) = true
                            · rw [if_pos c78] at H
                              have c78b0 : (t223 != false) = true := c78
                              (try (have c78b1 : decide (t223 = false) = false := by simpa using c78))
                              (try (have c78b2 : (t223 == false) = false := by simpa using c78))
                              (try (have c78b3 : ¬ (t223 = false) := by simpa using c78))
                              clear c78
                              exact absurd ((Option.some.inj H).trans hr_.out) Bool.false_ne_true
                            · rw [if_neg c78] at H
                              have c78b0 : (t223 != false) = false := by simpa using c78
                              (try (have c78b1 : decide (t223 = false) = true := by simpa using c78))
                              (try (have c78b2 : (t223 == false) = true := by simpa using c78))
                              clear c78
                              obtain rfl := Option.some.inj H
                              go_wp2_with (first | ((with_reducible refine gate_callee (f := 21) rfl ?_); refine goesL_ (some 169) rfl rfl Try.func21 (by kernel_rfl) rfl #[.slice A0 l0.length c0, .slice A1 l1.length c1] rfl (by (try simp only [List.map_toArray, List.map_cons, List.map_nil]); first | done | rfl | (simp only [List.length_drop, List.length_take]; rfl)) ?_; (with_reducible refine (face_Meet.calls _ _ l0 _ _ l1 t215 t216 _ ?side1 ?side2 ?side3 ?side4 A64.out).mono ?_); (case side1 => repeat (first | exact (Kd.C_below HR0.out HB.out) | (with_reducible refine Kd.C_alloc ?_ _) | (with_reducible refine Kd.C_drewN ?_ _) | (with_reducible refine Kd.C_drew ?_))); (case side2 => exact HC0.out); (case side3 => repeat (first | exact (Kd.C_below HR1.out HB.out) | (with_reducible refine Kd.C_alloc ?_ _) | (with_reducible refine Kd.C_drewN ?_ _) | (with_reducible refine Kd.C_drew ?_))); (case side4 => exact HC1.out); rintro e w79 ⟨v217, rfl, ho0, hb⟩; refine ⟨_, rfl, ?_⟩; have n0_ := Aside0.mk (Kd.R_lower ho0 (below_size (by repeat (first | (with_reducible first | exact HB.out | apply below_alloc | apply pw_below_drewN | apply below_drew1) | exact HB.out)))); have n1_ := Aside0.mk (below_step (by repeat (first | (with_reducible first | exact HB.out | apply below_alloc | apply pw_below_drewN | apply below_drew1) | exact HB.out)) hb); clear HB; have HO218 := n0_; have HB := n1_; clear n0_ n1_; (try clear hb); (try clear hb2); (try clear hk); (try clear hi); (try clear ho0); obtain ⟨Ao80, co80, eo80⟩ := Kd.R_slice HO218.out; subst eo80) | ((with_reducible refine gate_callee (f := 15) rfl ?_); refine goesL_ (some 177) rfl rfl Try.func15 (by kernel_rfl) rfl #[.slice Ao80 t215.length co80, .slice A0 l0.length c0] rfl (by (try simp only [List.map_toArray, List.map_cons, List.map_nil]); first | done | rfl | (simp only [List.length_drop, List.length_take]; rfl)) ?_; (with_reducible refine (face_Entails.calls _ _ t215 _ _ l0 true t220 _ ?side1 ?side2 ?side3 ?side4 A66.out).mono ?_); (case side1 => repeat (first | exact (Kd.R_reads' HO218.out).2.2 | (with_reducible refine Kd.C_alloc ?_ _) | (with_reducible refine Kd.C_drewN ?_ _) | (with_reducible refine Kd.C_drew ?_))); (case side2 => exact (Kd.R_reads' HO218.out).2.1); (case side3 => repeat (first | exact (Kd.C_below HR0.out HB.out) | (with_reducible refine Kd.C_alloc ?_ _) | (with_reducible refine Kd.C_drewN ?_ _) | (with_reducible refine Kd.C_drew ?_))); (case side4 => exact HC0.out); rintro e w81 ⟨rfl, hb⟩; refine ⟨_, rfl, ?_⟩; have n0_ := Aside0.mk (Kd.R_below (by (with_reducible repeat (first | apply Kd.R_alloc | apply Kd.R_drewN | apply Kd.R_drew)); exact HO218.out) hb); have n1_ := Aside0.mk (below_step (by repeat (first | (with_reducible first | exact HB.out | apply below_alloc | apply pw_below_drewN | apply below_drew1) | exact HB.out)) hb); clear HO218; clear HB; have HO218 := n0_; have HB := n1_; clear n0_ n1_; (try clear hb); (try clear hb2); (try clear hk); (try clear hi)) | ((with_reducible refine gate_callee (f := 15) rfl ?_); refine goesL_ (some 183) rfl rfl Try.func15 (by kernel_rfl) rfl #[.slice Ao80 t215.length co80, .slice A1 l1.length c1] rfl (by (try simp only [List.map_toArray, List.map_cons, List.map_nil]); first | done | rfl | (simp only [List.length_drop, List.length_take]; rfl)) ?_; (with_reducible refine (face_Entails.calls _ _ t215 _ _ l1 true t222 _ ?side1 ?side2 ?side3 ?side4 A67.out).mono ?_); (case side1 => repeat (first | exact (Kd.R_reads' HO218.out).2.2 | (with_reducible refine Kd.C_alloc ?_ _) | (with_reducible refine Kd.C_drewN ?_ _) | (with_reducible refine Kd.C_drew ?_))); (case side2 => exact (Kd.R_reads' HO218.out).2.1); (case side3 => repeat (first | exact (Kd.C_below HR1.out HB.out) | (with_reducible refine Kd.C_alloc ?_ _) | (with_reducible refine Kd.C_drewN ?_ _) | (with_reducible refine Kd.C_drew ?_))); (case side4 => exact HC1.out); rintro e w82 ⟨rfl, hb⟩; refine ⟨_, rfl, ?_⟩; have n0_ := Aside0.mk (Kd.R_below (by (with_reducible repeat (first | apply Kd.R_alloc | apply Kd.R_drewN | apply Kd.R_drew)); exact HO218.out) hb); have n1_ := Aside0.mk (below_step (by repeat (first | (with_reducible first | exact HB.out | apply below_alloc | apply pw_below_drewN | apply below_drew1) | exact HB.out)) hb); clear HO218; clear HB; have HO218 := n0_; have HB := n1_; clear n0_ n1_; (try clear hb); (try clear hb2); (try clear hk); (try clear hi)) | ((with_reducible refine gate_callee (f := 15) rfl ?_); refine goesL_ (some 189) rfl rfl Try.func15 (by kernel_rfl) rfl #[.slice A2 l2.length c2, .slice Ao80 t215.length co80] rfl (by (try simp only [List.map_toArray, List.map_cons, List.map_nil]); first | done | rfl | (simp only [List.length_drop, List.length_take]; rfl)) ?_; (with_reducible refine (face_Entails.calls _ _ l2 _ _ t215 t223 t224 _ ?side1 ?side2 ?side3 ?side4 A68.out).mono ?_); (case side1 => repeat (first | exact (Kd.C_below HR2.out HB.out) | (with_reducible refine Kd.C_alloc ?_ _) | (with_reducible refine Kd.C_drewN ?_ _) | (with_reducible refine Kd.C_drew ?_))); (case side2 => exact HC2.out); (case side3 => repeat (first | exact (Kd.R_reads' HO218.out).2.2 | (with_reducible refine Kd.C_alloc ?_ _) | (with_reducible refine Kd.C_drewN ?_ _) | (with_reducible refine Kd.C_drew ?_))); (case side4 => exact (Kd.R_reads' HO218.out).2.1); rintro e w83 ⟨rfl, hb⟩; refine ⟨_, rfl, ?_⟩; have n0_ := Aside0.mk (Kd.R_below (by (with_reducible repeat (first | apply Kd.R_alloc | apply Kd.R_drewN | apply Kd.R_drew)); exact HO218.out) hb); have n1_ := Aside0.mk (below_step (by repeat (first | (with_reducible first | exact HB.out | apply below_alloc | apply pw_below_drewN | apply below_drew1) | exact HB.out)) hb); clear HO218; clear HB; have HO218 := n0_; have HB := n1_; clear n0_ n1_; (try clear hb); (try clear hb2); (try clear hk); (try clear hi)))
                              go_ret
                              exact ⟨by first | rfl | (simp [errW_none, errW_some] <;> rfl) | (simp [*, errW_none, errW_some] <;> rfl), by repeat (first | (with_reducible first | exact HB.out | apply below_alloc | apply pw_below_drewN | apply below_drew1) | exact HB.out)⟩
                        · replace c70 := Bool.eq_false_iff.mpr c70
                          subst c70
                          have H1 : (some false) = some r := by rw [if_neg (show ¬ (false = true) by decide)] at H; exact H
                          clear H
                          have H := H1
                          clear H1
                          exact absurd ((Option.some.inj H).trans hr_.out) Bool.false_ne_true
                      · replace c69 := Bool.eq_false_iff.mpr c69
                        subst c69
                        have H1 : (some false) = some r := by rw [if_neg (show ¬ (false = true) by decide)] at H; exact H
                        clear H
                        have H := H1
                        clear H1
                        exact absurd ((Option.some.inj H).trans hr_.out) Bool.false_ne_true
                    · rw [if_neg c65] at H
                      have c65b0 : (t216 == 0) = false := beq_eq_false_iff_ne.mpr c65
                      have c65b1 : (t216 != 0) = true := bne_iff_ne.mpr c65
                      obtain rfl := Option.some.inj H
                      go_wp2_with (first | ((with_reducible refine gate_callee (f := 21) rfl ?_); refine goesL_ (some 169) rfl rfl Try.func21 (by kernel_rfl) rfl #[.slice A0 l0.length c0, .slice A1 l1.length c1] rfl (by (try simp only [List.map_toArray, List.map_cons, List.map_nil]); first | done | rfl | (simp only [List.length_drop, List.length_take]; rfl)) ?_; (with_reducible refine (face_Meet.calls _ _ l0 _ _ l1 t215 t216 _ ?side1 ?side2 ?side3 ?side4 A64.out).mono ?_); (case side1 => repeat (first | exact (Kd.C_below HR0.out HB.out) | (with_reducible refine Kd.C_alloc ?_ _) | (with_reducible refine Kd.C_drewN ?_ _) | (with_reducible refine Kd.C_drew ?_))); (case side2 => exact HC0.out); (case side3 => repeat (first | exact (Kd.C_below HR1.out HB.out) | (with_reducible refine Kd.C_alloc ?_ _) | (with_reducible refine Kd.C_drewN ?_ _) | (with_reducible refine Kd.C_drew ?_))); (case side4 => exact HC1.out); rintro e w84 ⟨v217, rfl, ho0, hb⟩; refine ⟨_, rfl, ?_⟩; have n0_ := Aside0.mk (Kd.R_lower ho0 (below_size (by repeat (first | (with_reducible first | exact HB.out | apply below_alloc | apply pw_below_drewN | apply below_drew1) | exact HB.out)))); have n1_ := Aside0.mk (below_step (by repeat (first | (with_reducible first | exact HB.out | apply below_alloc | apply pw_below_drewN | apply below_drew1) | exact HB.out)) hb); clear HB; have HO218 := n0_; have HB := n1_; clear n0_ n1_; (try clear hb); (try clear hb2); (try clear hk); (try clear hi); (try clear ho0)))
                      go_ret
                      exact ⟨by first | rfl | (simp [errW_none, errW_some] <;> rfl) | (simp [*, errW_none, errW_some] <;> rfl), by repeat (first | (with_reducible first | exact HB.out | apply below_alloc | apply pw_below_drewN | apply below_drew1) | exact HB.out)⟩
  · replace c5 := Bool.eq_false_iff.mpr c5
    subst c5
    have H1 : (some false) = some r := by rw [if_neg (show ¬ (false = true) by decide)] at H; exact H
    clear H
    have H := H1
    clear H1
    exact absurd ((Option.some.inj H).trans hr_.out) Bool.false_ne_true

end Go.Proofs.Ytcniiabaloicoaa.XFq
