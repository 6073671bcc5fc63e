-- Written for this claim by a program of ours (wip/xp.py), out of the translation and of hand-written contracts.
import Derived.Test.YtfbcgjkagdbckaaDoorXTrx0
import Derived.Test.YtfbcgjkagdbckaaDoorXTrx7
import Derived.Test.YtfbcgjkagdbckaaDoorXTrx9
namespace Go.Proofs.YtfbcgjkagdbckaaDoor.XTr
open Go.RowKit Go.Proofs.YtfbcgjkagdbckaaDoorW.PrintWords Go.Proofs.YtfbcgjkagdbckaaDoorW.PrintLast Go.Proofs.YtfbcgjkagdbckaaDoorW.PrintMore
attribute [local go_sem] max2_int min2_int max_two min_two max_three min_three max_four min_four   -- for this text's walks alone
set_option linter.unusedVariables false
set_option linter.unusedSimpArgs false

/-! ### hypercuberef04_Tell: function 24 -/
mutual
def hypercuberef04_Tell.j0 : Nat → List (S60) → List (S60) → Bool → Option (List Int × Int)
  | 0, _, _, _ => none
  | k + 1, x0, x1, x17 => if x17 = true then (some (([] : List Int), 2)) else ((some (([] : List (S60)) : List (S60))).bind fun y322 => (if y322.length + x0.length < 17592186044416 then ((some (y322 ++ x0 : List (S60))).bind fun y325 => (if y325.length + x1.length < 17592186044416 then ((hypercuberef03_Dims.f k (y325 ++ x1)).bind fun t331 => ((hypercuberef01_List.f k t331).bind fun t332 => (if (t332.length : Int) > 5 then (some (([] : List Int), 3)) else (if (t332.length : Int) > 0 then (if 0 ≤ (wrap64 ((t332.length : Int) - 1)) then (if (wrap64 ((t332.length : Int) - 1)) < (t332.length : Int) then (hypercuberef04_Tell.j1 k x0 x1 t332 (wrap64 ((rd t332 (wrap64 ((t332.length : Int) - 1))) + 1))) else (none)) else (none)) else (hypercuberef04_Tell.j1 k x0 x1 t332 1))))) else (none))) else (none)))
def hypercuberef04_Tell.j1 : Nat → List (S60) → List (S60) → List Int → Int → Option (List Int × Int)
  | 0, _, _, _, _ => none
  | k + 1, x0, x1, x6, x7 => if 0 ≤ x7 then (if (x7 : Int).toNat ≤ 35184372088832 then (hypercuberef04_Tell.l0 k x0 x1 x6 (List.replicate (x7 : Int).toNat 0)) else (none)) else (none)
def hypercuberef04_Tell.l0 : Nat → List (S60) → List (S60) → List Int → List Int → Option (List Int × Int)
  | 0, _, _, _, _ => none
  | k + 1, x0, x1, x6, x8 => (hypercuberef04_eval.f k x0 x8).bind fun t339 => ((hypercuberef04_eval.f k x1 x8).bind fun t340 => (if t339 = t340 then (hypercuberef04_Tell.l1 k x0 x1 x6 x8 0) else (some (x8, 0))))
def hypercuberef04_Tell.l1 : Nat → List (S60) → List (S60) → List Int → List Int → Int → Option (List Int × Int)
  | 0, _, _, _, _, _ => none
  | k + 1, x0, x1, x6, x8, x9 => if x9 < (x6.length : Int) then (if 0 ≤ x9 then (if 0 ≤ (rd x6 x9) then (if (rd x6 x9) < (x8.length : Int) then (if (rd x8 (rd x6 x9)) = 3 then (hypercuberef04_Tell.l1 k x0 x1 x6 (x8.set ((rd x6 x9) : Int).toNat 0) (wrap64 (x9 + 1))) else (if x9 = (x6.length : Int) then (some (([] : List Int), 0)) else (hypercuberef04_Tell.l0 k x0 x1 x6 (x8.set ((rd x6 x9) : Int).toNat (wrap64 ((rd x8 (rd x6 x9)) + 1)))))) else (none)) else (none)) else (none)) else (if x9 = (x6.length : Int) then (some (([] : List Int), 0)) else (if 0 ≤ x9 then (none) else (none)))
end
def hypercuberef04_Tell.f (k : Nat) (l0 : List (S60)) (l1 : List (S60)) : Option (List Int × Int) := (hypercuberef03_Right.f k l0).bind fun t320 => (if t320 = true then ((hypercuberef03_Right.f k l1).bind fun t321 => (hypercuberef04_Tell.j0 k l0 l1 (!t321))) else (hypercuberef04_Tell.j0 k l0 l1 true))
theorem hypercuberef04_Tell.mono_l : ∀ k, (∀ y0 y1 y2, LeO (hypercuberef04_Tell.j0 k y0 y1 y2) (hypercuberef04_Tell.j0 (k + 1) y0 y1 y2)) ∧ (∀ y0 y1 y2 y3, LeO (hypercuberef04_Tell.j1 k y0 y1 y2 y3) (hypercuberef04_Tell.j1 (k + 1) y0 y1 y2 y3)) ∧ (∀ y0 y1 y2 y3, LeO (hypercuberef04_Tell.l0 k y0 y1 y2 y3) (hypercuberef04_Tell.l0 (k + 1) y0 y1 y2 y3)) ∧ (∀ y0 y1 y2 y3 y4, LeO (hypercuberef04_Tell.l1 k y0 y1 y2 y3 y4) (hypercuberef04_Tell.l1 (k + 1) y0 y1 y2 y3 y4))
  | 0 => ⟨fun _ _ _ r h => by simp [hypercuberef04_Tell.j0] at h, fun _ _ _ _ r h => by simp [hypercuberef04_Tell.j1] at h, fun _ _ _ _ r h => by simp [hypercuberef04_Tell.l0] at h, fun _ _ _ _ _ r h => by simp [hypercuberef04_Tell.l1] at h⟩
  | k + 1 => by
    obtain ⟨ih0, ih1, ih2, ih3⟩ := hypercuberef04_Tell.mono_l k
    refine ⟨?_, ?_, ?_, ?_⟩
    · intro y0 y1 y2
      unfold hypercuberef04_Tell.j0
      repeat' first
      | (with_reducible exact ih0 _ _ _)
      | (with_reducible exact ih1 _ _ _ _)
      | (with_reducible exact ih2 _ _ _ _)
      | (with_reducible exact ih3 _ _ _ _ _)
      | (with_reducible exact hypercuberef01_List.mono _ _)
      | (with_reducible exact hypercuberef03_Dims.mono _ _)
      | (with_reducible exact hypercuberef03_Right.mono _ _)
      | (with_reducible exact hypercuberef04_eval.mono _ _ _)
      | (with_reducible exact LeO.refl _)
      | (with_reducible exact LeO.none _)
      | (with_reducible refine LeO.ite ?_ ?_)
      | (with_reducible refine LeO.bind ?_ (fun _ => ?_))
      | exact ih0 _ _ _
      | exact ih1 _ _ _ _
      | exact ih2 _ _ _ _
      | exact ih3 _ _ _ _ _
      | exact hypercuberef01_List.mono _ _
      | exact hypercuberef03_Dims.mono _ _
      | exact hypercuberef03_Right.mono _ _
      | exact hypercuberef04_eval.mono _ _ _
      | exact LeO.none _
      | refine LeO.ite ?_ ?_
      | refine LeO.bind ?_ (fun _ => ?_)
    · intro y0 y1 y2 y3
      unfold hypercuberef04_Tell.j1
      repeat' first
      | (with_reducible exact ih0 _ _ _)
      | (with_reducible exact ih1 _ _ _ _)
      | (with_reducible exact ih2 _ _ _ _)
      | (with_reducible exact ih3 _ _ _ _ _)
      | (with_reducible exact hypercuberef01_List.mono _ _)
      | (with_reducible exact hypercuberef03_Dims.mono _ _)
      | (with_reducible exact hypercuberef03_Right.mono _ _)
      | (with_reducible exact hypercuberef04_eval.mono _ _ _)
      | (with_reducible exact LeO.refl _)
      | (with_reducible exact LeO.none _)
      | (with_reducible refine LeO.ite ?_ ?_)
      | (with_reducible refine LeO.bind ?_ (fun _ => ?_))
      | exact ih0 _ _ _
      | exact ih1 _ _ _ _
      | exact ih2 _ _ _ _
      | exact ih3 _ _ _ _ _
      | exact hypercuberef01_List.mono _ _
      | exact hypercuberef03_Dims.mono _ _
      | exact hypercuberef03_Right.mono _ _
      | exact hypercuberef04_eval.mono _ _ _
      | exact LeO.none _
      | refine LeO.ite ?_ ?_
      | refine LeO.bind ?_ (fun _ => ?_)
    · intro y0 y1 y2 y3
      unfold hypercuberef04_Tell.l0
      repeat' first
      | (with_reducible exact ih0 _ _ _)
      | (with_reducible exact ih1 _ _ _ _)
      | (with_reducible exact ih2 _ _ _ _)
      | (with_reducible exact ih3 _ _ _ _ _)
      | (with_reducible exact hypercuberef01_List.mono _ _)
      | (with_reducible exact hypercuberef03_Dims.mono _ _)
      | (with_reducible exact hypercuberef03_Right.mono _ _)
      | (with_reducible exact hypercuberef04_eval.mono _ _ _)
      | (with_reducible exact LeO.refl _)
      | (with_reducible exact LeO.none _)
      | (with_reducible refine LeO.ite ?_ ?_)
      | (with_reducible refine LeO.bind ?_ (fun _ => ?_))
      | exact ih0 _ _ _
      | exact ih1 _ _ _ _
      | exact ih2 _ _ _ _
      | exact ih3 _ _ _ _ _
      | exact hypercuberef01_List.mono _ _
      | exact hypercuberef03_Dims.mono _ _
      | exact hypercuberef03_Right.mono _ _
      | exact hypercuberef04_eval.mono _ _ _
      | exact LeO.none _
      | refine LeO.ite ?_ ?_
      | refine LeO.bind ?_ (fun _ => ?_)
    · intro y0 y1 y2 y3 y4
      unfold hypercuberef04_Tell.l1
      repeat' first
      | (with_reducible exact ih0 _ _ _)
      | (with_reducible exact ih1 _ _ _ _)
      | (with_reducible exact ih2 _ _ _ _)
      | (with_reducible exact ih3 _ _ _ _ _)
      | (with_reducible exact hypercuberef01_List.mono _ _)
      | (with_reducible exact hypercuberef03_Dims.mono _ _)
      | (with_reducible exact hypercuberef03_Right.mono _ _)
      | (with_reducible exact hypercuberef04_eval.mono _ _ _)
      | (with_reducible exact LeO.refl _)
      | (with_reducible exact LeO.none _)
      | (with_reducible refine LeO.ite ?_ ?_)
      | (with_reducible refine LeO.bind ?_ (fun _ => ?_))
      | exact ih0 _ _ _
      | exact ih1 _ _ _ _
      | exact ih2 _ _ _ _
      | exact ih3 _ _ _ _ _
      | exact hypercuberef01_List.mono _ _
      | exact hypercuberef03_Dims.mono _ _
      | exact hypercuberef03_Right.mono _ _
      | exact hypercuberef04_eval.mono _ _ _
      | exact LeO.none _
      | refine LeO.ite ?_ ?_
      | refine LeO.bind ?_ (fun _ => ?_)
theorem hypercuberef04_Tell.mono : ∀ a0 a1 k, LeO (hypercuberef04_Tell.f k a0 a1) (hypercuberef04_Tell.f (k + 1) a0 a1) := by
  intro a0 a1 k
  obtain ⟨ih0, ih1, ih2, ih3⟩ := hypercuberef04_Tell.mono_l k
  unfold hypercuberef04_Tell.f
  repeat' first
      | (with_reducible exact ih0 _ _ _)
      | (with_reducible exact ih1 _ _ _ _)
      | (with_reducible exact ih2 _ _ _ _)
      | (with_reducible exact ih3 _ _ _ _ _)
      | (with_reducible exact hypercuberef01_List.mono _ _)
      | (with_reducible exact hypercuberef03_Dims.mono _ _)
      | (with_reducible exact hypercuberef03_Right.mono _ _)
      | (with_reducible exact hypercuberef04_eval.mono _ _ _)
      | (with_reducible exact LeO.refl _)
      | (with_reducible exact LeO.none _)
      | (with_reducible refine LeO.ite ?_ ?_)
      | (with_reducible refine LeO.bind ?_ (fun _ => ?_))
      | exact ih0 _ _ _
      | exact ih1 _ _ _ _
      | exact ih2 _ _ _ _
      | exact ih3 _ _ _ _ _
      | exact hypercuberef01_List.mono _ _
      | exact hypercuberef03_Dims.mono _ _
      | exact hypercuberef03_Right.mono _ _
      | exact hypercuberef04_eval.mono _ _ _
      | exact LeO.none _
      | refine LeO.ite ?_ ?_
      | refine LeO.bind ?_ (fun _ => ?_)
set_option maxHeartbeats 8000000 in
set_option maxRecDepth 100000 in
theorem hypercuberef04_Tell.calls (k : Nat) (A0 : Option Addr) (c0 : Nat) (l0 : List (S60)) (A1 : Option Addr) (c1 : Nat) (l1 : List (S60)) (r1 : List Int) (r2 : Int) (w : World) (hr0 : Kd.C k60 w A0 l0.length l0) (hc0 : l0.length ≤ c0) (hr1 : Kd.C k60 w A1 l1.length l1) (hc1 : l1.length ≤ c1) (h : hypercuberef04_Tell.f k l0 l1 = some (r1, r2)) :
  Calls Tryd.prog 24 #[.slice A0 l0.length c0, .slice A1 l1.length c1] w fun e w' => ∃ v0_ : Value, e = .returned (.tuple #[v0_, .int .i64 r2]) ∧ Kd.R (Kd.int .i64) 3 w' w.heap.size (fun _ => True) v0_ r1 ∧ Below w.heap.size w w' := by
 have HR0 := Aside0.mk hr0
 have HC0 := Aside0.mk hc0
 clear hr0 hc0
 have HR1 := Aside0.mk hr1
 have HC1 := Aside0.mk hc1
 clear hr1 hc1
 have HB := Aside0.mk (Below.refl w.heap.size w)
 have H : ((hypercuberef03_Right.f k l0).bind fun t320 => (if t320 = true then ((hypercuberef03_Right.f k l1).bind fun t321 => (hypercuberef04_Tell.j0 k l0 l1 (!t321))) else (hypercuberef04_Tell.j0 k l0 l1 true))) = some (r1, r2) := h
 clear h
 have HC3 := Aside0.mk H
 clear H
 go_enter Tryd.func24, Tryd.ntmps24
 go_upto_region 1 with (fail)
 go_cut [17] (fun v17 wc => ∃ (kq : Nat) (x17_2 : Bool), v17 = .bool x17_2 ∧ Aside0 (hypercuberef04_Tell.j0 kq l0 l1 x17_2 = some (r1, r2)) ∧ Aside0 (kq ≤ k) ∧ Aside0 (Below w.heap.size w wc))
 case first =>
  have H := HC3.out
  clear HC3
  replace H := Option.bind_eq_some_iff.mp H
  obtain ⟨t320, A40, H⟩ := H
  replace H : (if t320 = true then ((hypercuberef03_Right.f k l1).bind fun t321 => (hypercuberef04_Tell.j0 k l0 l1 (!t321))) else (hypercuberef04_Tell.j0 k l0 l1 true)) = some (r1, r2) := H
  have A4 := Aside0.mk A40
  clear A40
  by_cases c5 : t320 = true
  ·subst c5
   have H1 : ((hypercuberef03_Right.f k l1).bind fun t321 => (hypercuberef04_Tell.j0 k l0 l1 (!t321))) = some (r1, r2) := by rw [if_pos rfl] at H; exact H
   clear H
   have H := H1
   clear H1
   replace H := Option.bind_eq_some_iff.mp H
   obtain ⟨t321, A60, H⟩ := H
   replace H : (hypercuberef04_Tell.j0 k l0 l1 (!t321)) = some (r1, r2) := H
   have A6 := Aside0.mk A60
   clear A60
   have H' := Aside0.mk H
   clear H
   go_wp2_with (first | ((with_reducible refine gate_callee (f := 38) rfl ?_); refine goesL_ (some 11) rfl rfl Tryd.func38 (by kernel_rfl) rfl #[.slice A0 l0.length c0] rfl (by (try simp only [List.map_toArray, List.map_cons, List.map_nil]); first | done | rfl | (simp only [List.length_drop, List.length_take]; rfl)) ?_; (with_reducible refine (hypercuberef03_Right.calls k _ _ l0 true _ ?side1 ?side2 A4.out).mono ?_); (case side1 => repeat (first | exact (Kd.C_below HR0.out HB.out) | (with_reducible refine Kd.C_alloc ?_ _) | (with_reducible refine Kd.C_drewN ?_ _) | (with_reducible refine Kd.C_drew ?_))); (case side2 => exact HC0.out); rintro e w7 ⟨rfl, hb⟩; refine ⟨_, rfl, ?_⟩; have n0_ := Aside0.mk (below_step (by repeat (first | (with_reducible first | exact HB.out | apply below_alloc | apply pw_below_drewN | apply below_drew1) | exact HB.out)) hb); clear HB; have HB := n0_; clear n0_; (try clear hb); (try clear hb2); (try clear hk); (try clear hi)) | (go_at_call 38; (with_reducible refine (hypercuberef03_Right.calls k _ _ l1 t321 _ ?side1 ?side2 A6.out).mono ?_); (case side1 => repeat (first | exact (Kd.C_below HR1.out HB.out) | (with_reducible refine Kd.C_alloc ?_ _) | (with_reducible refine Kd.C_drewN ?_ _) | (with_reducible refine Kd.C_drew ?_))); (case side2 => exact HC1.out); rintro e w8 ⟨rfl, hb⟩; have n0_ := Aside0.mk (below_step (by repeat (first | (with_reducible first | exact HB.out | apply below_alloc | apply pw_below_drewN | apply below_drew1) | exact HB.out)) hb); clear HB; have HB := n0_; clear n0_; (try clear hb); (try clear hb2); (try clear hk); (try clear hi)))
   go_meet
   case rel => exact ⟨_, (!t321), (by first | rfl | (simp; done) | (simp [*]; done)), H', ⟨by first | omega | exact Nat.le_refl _⟩, ⟨by repeat (first | (with_reducible first | exact HB.out | apply below_alloc | apply pw_below_drewN | apply below_drew1) | exact HB.out)⟩⟩
  ·replace c5 := Bool.eq_false_iff.mpr c5
   subst c5
   have H1 : (hypercuberef04_Tell.j0 k l0 l1 true) = some (r1, r2) := by rw [if_neg (show ¬ (false = true) by decide)] at H; exact H
   clear H
   have H := H1
   clear H1
   have H' := Aside0.mk H
   clear H
   go_wp2_with (first | ((with_reducible refine gate_callee (f := 38) rfl ?_); refine goesL_ (some 11) rfl rfl Tryd.func38 (by kernel_rfl) rfl #[.slice A0 l0.length c0] rfl (by (try simp only [List.map_toArray, List.map_cons, List.map_nil]); first | done | rfl | (simp only [List.length_drop, List.length_take]; rfl)) ?_; (with_reducible refine (hypercuberef03_Right.calls k _ _ l0 false _ ?side1 ?side2 A4.out).mono ?_); (case side1 => repeat (first | exact (Kd.C_below HR0.out HB.out) | (with_reducible refine Kd.C_alloc ?_ _) | (with_reducible refine Kd.C_drewN ?_ _) | (with_reducible refine Kd.C_drew ?_))); (case side2 => exact HC0.out); rintro e w9 ⟨rfl, hb⟩; refine ⟨_, rfl, ?_⟩; have n0_ := Aside0.mk (below_step (by repeat (first | (with_reducible first | exact HB.out | apply below_alloc | apply pw_below_drewN | apply below_drew1) | exact HB.out)) hb); clear HB; have HB := n0_; clear n0_; (try clear hb); (try clear hb2); (try clear hk); (try clear hi)))
   go_meet
   case rel => exact ⟨_, (true), (by first | rfl | (simp; done) | (simp [*]; done)), H', ⟨by first | omega | exact Nat.le_refl _⟩, ⟨by repeat (first | (with_reducible first | exact HB.out | apply below_alloc | apply pw_below_drewN | apply below_drew1) | exact HB.out)⟩⟩
 case rest =>
  clear HC3
  try clear c1
  try clear c2
  try clear p2
  try clear c3
  try clear c5
  obtain ⟨kq, x17_2, rfl, HA, HJ2, HB⟩ := hcut
  cases kq with
  | zero => exact absurd HA.out (by simp [hypercuberef04_Tell.j0])
  | succ kj2 =>
   have H := HA.out
   clear HA
   simp only [hypercuberef04_Tell.j0] at H
   by_cases c10 : x17_2 = true
   ·subst c10
    have H1 : (some (([] : List Int), 2)) = some (r1, r2) := by rw [if_pos rfl] at H; exact H
    clear H
    have H := H1
    clear H1
    simp only [Option.some.injEq, Prod.mk.injEq] at H
    obtain ⟨rfl, rfl⟩ := H
    go_wp2
    go_ret2
    exact ⟨_, by first | rfl | (simp [errW_none, errW_some] <;> rfl) | (simp [*, errW_none, errW_some] <;> rfl), by first | exact Kd.R_nil _ _ _ _ _ | exact Kd.N_nil _ _ _ _ _ | exact Kd.V_nil _ _ _ _ _ | exact Kd.Q_nil _ _ _ _ _ | exact Kd.S_nil _ _ _ _ _, by repeat (first | (with_reducible first | exact HB.out | apply below_alloc | apply pw_below_drewN | apply below_drew1) | exact HB.out)⟩
   ·replace c10 := Bool.eq_false_iff.mpr c10
    subst c10
    have H1 : ((some (([] : List (S60)) : List (S60))).bind fun y322 => (if y322.length + l0.length < 17592186044416 then ((some (y322 ++ l0 : List (S60))).bind fun y325 => (if y325.length + l1.length < 17592186044416 then ((hypercuberef03_Dims.f kj2 (y325 ++ l1)).bind fun t331 => ((hypercuberef01_List.f kj2 t331).bind fun t332 => (if (t332.length : Int) > 5 then (some (([] : List Int), 3)) else (if (t332.length : Int) > 0 then (if 0 ≤ (wrap64 ((t332.length : Int) - 1)) then (if (wrap64 ((t332.length : Int) - 1)) < (t332.length : Int) then (hypercuberef04_Tell.j1 kj2 l0 l1 t332 (wrap64 ((rd t332 (wrap64 ((t332.length : Int) - 1))) + 1))) else (none)) else (none)) else (hypercuberef04_Tell.j1 kj2 l0 l1 t332 1))))) else (none))) else (none))) = some (r1, r2) := by rw [if_neg (show ¬ (false = true) by decide)] at H; exact H
    clear H
    have H := H1
    clear H1
    obtain ⟨y322, hy322⟩ : ∃ y_ : List (S60), y_ = (([] : List (S60))) := ⟨_, rfl⟩
    replace H : (if y322.length + l0.length < 17592186044416 then ((some (y322 ++ l0 : List (S60))).bind fun y325 => (if y325.length + l1.length < 17592186044416 then ((hypercuberef03_Dims.f kj2 (y325 ++ l1)).bind fun t331 => ((hypercuberef01_List.f kj2 t331).bind fun t332 => (if (t332.length : Int) > 5 then (some (([] : List Int), 3)) else (if (t332.length : Int) > 0 then (if 0 ≤ (wrap64 ((t332.length : Int) - 1)) then (if (wrap64 ((t332.length : Int) - 1)) < (t332.length : Int) then (hypercuberef04_Tell.j1 kj2 l0 l1 t332 (wrap64 ((rd t332 (wrap64 ((t332.length : Int) - 1))) + 1))) else (none)) else (none)) else (hypercuberef04_Tell.j1 kj2 l0 l1 t332 1))))) else (none))) else (none)) = some (r1, r2) := by first | (rw [hy322]; with_reducible exact H) | (have H2_ := (Option.bind_some _ _).symm.trans H; rw [hy322]; with_reducible exact H2_) | (have H2_ := (Option.bind_some _ _).symm.trans H; with_reducible exact H2_) | with_reducible exact H | (rw [hy322]; exact H) | exact H
    have Ny322 := Aside0.mk hy322
    clear hy322
    by_cases c11 : y322.length + l0.length < 17592186044416
    ·rw [if_pos c11] at H
     have LMc11 := Aside0.mk c11
     clear c11
     obtain ⟨y325, hy325⟩ : ∃ y_ : List (S60), y_ = (y322 ++ l0) := ⟨_, rfl⟩
     replace H : (if y325.length + l1.length < 17592186044416 then ((hypercuberef03_Dims.f kj2 (y325 ++ l1)).bind fun t331 => ((hypercuberef01_List.f kj2 t331).bind fun t332 => (if (t332.length : Int) > 5 then (some (([] : List Int), 3)) else (if (t332.length : Int) > 0 then (if 0 ≤ (wrap64 ((t332.length : Int) - 1)) then (if (wrap64 ((t332.length : Int) - 1)) < (t332.length : Int) then (hypercuberef04_Tell.j1 kj2 l0 l1 t332 (wrap64 ((rd t332 (wrap64 ((t332.length : Int) - 1))) + 1))) else (none)) else (none)) else (hypercuberef04_Tell.j1 kj2 l0 l1 t332 1))))) else (none)) = some (r1, r2) := by first | (rw [hy325]; with_reducible exact H) | (have H2_ := (Option.bind_some _ _).symm.trans H; rw [hy325]; with_reducible exact H2_) | (have H2_ := (Option.bind_some _ _).symm.trans H; with_reducible exact H2_) | with_reducible exact H | (rw [hy325]; exact H) | exact H
     have Ny325 := Aside0.mk hy325
     clear hy325
     by_cases c12 : y325.length + l1.length < 17592186044416
     ·rw [if_pos c12] at H
      have LMc12 := Aside0.mk c12
      clear c12
      obtain ⟨y328, hy328⟩ : ∃ y_ : List (S60), y_ = (y325 ++ l1) := ⟨_, rfl⟩
      replace H : ((hypercuberef03_Dims.f kj2 y328).bind fun t331 => ((hypercuberef01_List.f kj2 t331).bind fun t332 => (if (t332.length : Int) > 5 then (some (([] : List Int), 3)) else (if (t332.length : Int) > 0 then (if 0 ≤ (wrap64 ((t332.length : Int) - 1)) then (if (wrap64 ((t332.length : Int) - 1)) < (t332.length : Int) then (hypercuberef04_Tell.j1 kj2 l0 l1 t332 (wrap64 ((rd t332 (wrap64 ((t332.length : Int) - 1))) + 1))) else (none)) else (none)) else (hypercuberef04_Tell.j1 kj2 l0 l1 t332 1))))) = some (r1, r2) := by first | (rw [hy328]; with_reducible exact H) | (have H2_ := (Option.bind_some _ _).symm.trans H; rw [hy328]; with_reducible exact H2_) | (have H2_ := (Option.bind_some _ _).symm.trans H; with_reducible exact H2_) | with_reducible exact H | (rw [hy328]; exact H) | exact H
      have Ny328 := Aside0.mk hy328
      clear hy328
      replace H := Option.bind_eq_some_iff.mp H
      obtain ⟨t331, A130, H⟩ := H
      replace H : ((hypercuberef01_List.f kj2 t331).bind fun t332 => (if (t332.length : Int) > 5 then (some (([] : List Int), 3)) else (if (t332.length : Int) > 0 then (if 0 ≤ (wrap64 ((t332.length : Int) - 1)) then (if (wrap64 ((t332.length : Int) - 1)) < (t332.length : Int) then (hypercuberef04_Tell.j1 kj2 l0 l1 t332 (wrap64 ((rd t332 (wrap64 ((t332.length : Int) - 1))) + 1))) else (none)) else (none)) else (hypercuberef04_Tell.j1 kj2 l0 l1 t332 1)))) = some (r1, r2) := H
      have A13 := Aside0.mk A130
      clear A130
      replace H := Option.bind_eq_some_iff.mp H
      obtain ⟨t332, A140, H⟩ := H
      replace H : (if (t332.length : Int) > 5 then (some (([] : List Int), 3)) else (if (t332.length : Int) > 0 then (if 0 ≤ (wrap64 ((t332.length : Int) - 1)) then (if (wrap64 ((t332.length : Int) - 1)) < (t332.length : Int) then (hypercuberef04_Tell.j1 kj2 l0 l1 t332 (wrap64 ((rd t332 (wrap64 ((t332.length : Int) - 1))) + 1))) else (none)) else (none)) else (hypercuberef04_Tell.j1 kj2 l0 l1 t332 1))) = some (r1, r2) := H
      have A14 := Aside0.mk A140
      clear A140
      by_cases c15 : (t332.length : Int) > 5
      ·rw [if_pos c15] at H
       have c15b0 : decide (5 < (t332.length : Int)) = true := decide_eq_true c15
       have c15b1 : decide (5 < t332.length) = true := decide_eq_true (by omega)
       clear c15
       simp only [Option.some.injEq, Prod.mk.injEq] at H
       obtain ⟨rfl, rfl⟩ := H
       go_wp2_with (first | ((with_reducible refine gate_dst (N := 18) rfl ?_); refine Kd.R_lit k60 _ 60 ?hg (N := 18) ?hd (xs := ([] : List (S60))) (inner := []) (ok := fun _ => True) (okp := fun _ => True) ?hr ?hp (fun _ hk => hk) trivial (Below.refl _ _) (Nat.le_refl _) (by simp) ?_; (case hd => rfl); (case hg => rfl); (case hr => first | (go_simp; done) | (go_simp; rfl)); (case hp => exact (Reps.none _ _)); intro v323 w16 ho17 hb hg_ hnew_; clear hg_ hnew_; (first | rw [← Ny322.out] at ho17 | (simp only [Int.reduceToNat] at ho17; rw [← Ny322.out] at ho17)); have n0_ := Aside0.mk (Kd.R_lower ho17 (below_size (by repeat (first | (with_reducible first | exact HB.out | apply below_alloc | apply pw_below_drewN | apply below_drew1) | exact HB.out)))); have n1_ := Aside0.mk (below_step (by repeat (first | (with_reducible first | exact HB.out | apply below_alloc | apply pw_below_drewN | apply below_drew1) | exact HB.out)) hb); clear HB; have HO324 := n0_; have HB := n1_; clear n0_ n1_; clear hb ho17) | ((with_reducible refine gate_builtin (b := .append) (xs := #[.tmp 18, .tmp 19]) rfl ?_); at_builtin; refine Kd.R_append_rows k60 (w0 := w) w.heap.size rfl (.tmp 18) (.tmp 19) 26 60 (.agg #[(.int .u32 0), (.int .u32 0)]) 8 rfl Tryd.underlying26 info60 rfl (by decide) (by omega) v323 y322 l0 _ _ _ (fun _ => True) (fun _ => False) rfl rfl ?aO ?aR (fun _ _ h => h) (fun _ h => h.elim) ?aF ?aB ?aS ?aL ?_; (case aR => repeat (first | exact (Kd.C_below HR0.out HB.out) | (with_reducible refine Kd.C_alloc ?_ _) | (with_reducible refine Kd.C_drewN ?_ _) | (with_reducible refine Kd.C_drew ?_))); (case aB => exact (by repeat (first | (with_reducible first | exact HB.out | apply below_alloc | apply pw_below_drewN | apply below_drew1) | exact HB.out))); (case aF => exact (fun _ _ => trivial)); (case aO => exact (by (with_reducible repeat (first | apply Kd.R_alloc | apply Kd.R_drewN | apply Kd.R_drew)); exact HO324.out)); (case aS => exact (below_size (by repeat (first | (with_reducible first | exact HB.out | apply below_alloc | apply pw_below_drewN | apply below_drew1) | exact HB.out)))); (case aL => have := LMc11.out; omega); intro v326 w18 ho hb hg hat; rw [← Ny325.out] at ho; have n0_ := Aside0.mk (hb); have n1_ := Aside0.mk (ho); clear HB; clear HO324; have HB := n0_; have HO327 := n1_; clear n0_ n1_; clear ho hb hg hat) | ((with_reducible refine gate_builtin (b := .append) (xs := #[.tmp 20, .tmp 21]) rfl ?_); at_builtin; refine Kd.R_append_rows k60 (w0 := w) w.heap.size rfl (.tmp 20) (.tmp 21) 26 60 (.agg #[(.int .u32 0), (.int .u32 0)]) 8 rfl Tryd.underlying26 info60 rfl (by decide) (by omega) v326 y325 l1 _ _ _ (fun _ => True) (fun _ => False) rfl rfl ?aO ?aR (fun _ _ h => h) (fun _ h => h.elim) ?aF ?aB ?aS ?aL ?_; (case aR => repeat (first | exact (Kd.C_below HR1.out HB.out) | (with_reducible refine Kd.C_alloc ?_ _) | (with_reducible refine Kd.C_drewN ?_ _) | (with_reducible refine Kd.C_drew ?_))); (case aB => exact (by repeat (first | (with_reducible first | exact HB.out | apply below_alloc | apply pw_below_drewN | apply below_drew1) | exact HB.out))); (case aF => exact (fun _ _ => trivial)); (case aO => exact (by (with_reducible repeat (first | apply Kd.R_alloc | apply Kd.R_drewN | apply Kd.R_drew)); exact HO327.out)); (case aS => exact (below_size (by repeat (first | (with_reducible first | exact HB.out | apply below_alloc | apply pw_below_drewN | apply below_drew1) | exact HB.out)))); (case aL => have := LMc12.out; omega); intro v329 w19 ho hb hg hat; rw [← Ny328.out] at ho; have n0_ := Aside0.mk (hb); have n1_ := Aside0.mk (ho); clear HB; clear HO327; have HB := n0_; have HO330 := n1_; clear n0_ n1_; clear ho hb hg hat; obtain ⟨Ao20, co20, eo20⟩ := Kd.R_slice HO330.out; subst eo20) | ((with_reducible refine gate_callee (f := 53) rfl ?_); refine goesL_ (some 23) rfl rfl Tryd.func53 (by kernel_rfl) rfl #[.slice Ao20 y328.length co20] rfl (by (try simp only [List.map_toArray, List.map_cons, List.map_nil]); first | done | rfl | (simp only [List.length_drop, List.length_take]; rfl)) ?_; (with_reducible refine (hypercuberef03_Dims.calls kj2 _ _ y328 t331 _ ?side1 ?side2 A13.out).mono ?_); (case side1 => repeat (first | exact (Kd.R_reads' HO330.out).2.2 | (with_reducible refine Kd.C_alloc ?_ _) | (with_reducible refine Kd.C_drewN ?_ _) | (with_reducible refine Kd.C_drew ?_))); (case side2 => exact (Kd.R_reads' HO330.out).2.1); rintro e w21 ⟨rfl, hb⟩; refine ⟨_, rfl, ?_⟩; have n0_ := Aside0.mk (Kd.R_below (by (with_reducible repeat (first | apply Kd.R_alloc | apply Kd.R_drewN | apply Kd.R_drew)); exact HO330.out) hb); have n1_ := Aside0.mk (below_step (by repeat (first | (with_reducible first | exact HB.out | apply below_alloc | apply pw_below_drewN | apply below_drew1) | exact HB.out)) hb); clear HO330; clear HB; have HO330 := n0_; have HB := n1_; clear n0_ n1_; (try clear hb); (try clear hb2); (try clear hk); (try clear hi)) | ((with_reducible refine gate_callee (f := 60) rfl ?_); refine goesL_ (some 24) rfl rfl Tryd.func60 (by kernel_rfl) rfl #[.int .u32 t331] rfl (by (try simp only [List.map_toArray, List.map_cons, List.map_nil]); first | done | rfl | (simp only [List.length_drop, List.length_take]; rfl)) ?_; (with_reducible refine (hypercuberef01_List.calls kj2 t331 t332 _ A14.out).mono ?_); rintro e w22 ⟨v333, rfl, ho0, hb⟩; refine ⟨_, rfl, ?_⟩; have n0_ := Aside0.mk (Kd.R_below (by (with_reducible repeat (first | apply Kd.R_alloc | apply Kd.R_drewN | apply Kd.R_drew)); exact HO330.out) hb); have n1_ := Aside0.mk (Kd.R_lower ho0 (below_size (by repeat (first | (with_reducible first | exact HB.out | apply below_alloc | apply pw_below_drewN | apply below_drew1) | exact HB.out)))); have n2_ := Aside0.mk (below_step (by repeat (first | (with_reducible first | exact HB.out | apply below_alloc | apply pw_below_drewN | apply below_drew1) | exact HB.out)) hb); clear HO330; clear HB; have HO330 := n0_; have HO334 := n1_; have HB := n2_; clear n0_ n1_ n2_; (try clear hb); (try clear hb2); (try clear hk); (try clear hi); (try clear ho0); obtain ⟨Ao23, co23, eo23⟩ := Kd.R_slice HO334.out; subst eo23))
       go_ret2
       exact ⟨_, by first | rfl | (simp [errW_none, errW_some] <;> rfl) | (simp [*, errW_none, errW_some] <;> rfl), by first | exact Kd.R_nil _ _ _ _ _ | exact Kd.N_nil _ _ _ _ _ | exact Kd.V_nil _ _ _ _ _ | exact Kd.Q_nil _ _ _ _ _ | exact Kd.S_nil _ _ _ _ _, by repeat (first | (with_reducible first | exact HB.out | apply below_alloc | apply pw_below_drewN | apply below_drew1) | exact HB.out)⟩
      ·rw [if_neg c15] at H
       have c15b0 : decide (5 < (t332.length : Int)) = false := decide_eq_false c15
       have c15b1 : decide (5 < t332.length) = false := decide_eq_false (by omega)
       clear c15
       have HC24 := Aside0.mk H
       clear H
       go_upto_if 30 with (first | ((with_reducible refine gate_dst (N := 18) rfl ?_); refine Kd.R_lit k60 _ 60 ?hg (N := 18) ?hd (xs := ([] : List (S60))) (inner := []) (ok := fun _ => True) (okp := fun _ => True) ?hr ?hp (fun _ hk => hk) trivial (Below.refl _ _) (Nat.le_refl _) (by simp) ?_; (case hd => rfl); (case hg => rfl); (case hr => first | (go_simp; done) | (go_simp; rfl)); (case hp => exact (Reps.none _ _)); intro v323 w25 ho26 hb hg_ hnew_; clear hg_ hnew_; (first | rw [← Ny322.out] at ho26 | (simp only [Int.reduceToNat] at ho26; rw [← Ny322.out] at ho26)); have n0_ := Aside0.mk (Kd.R_lower ho26 (below_size (by repeat (first | (with_reducible first | exact HB.out | apply below_alloc | apply pw_below_drewN | apply below_drew1) | exact HB.out)))); have n1_ := Aside0.mk (below_step (by repeat (first | (with_reducible first | exact HB.out | apply below_alloc | apply pw_below_drewN | apply below_drew1) | exact HB.out)) hb); clear HB; have HO324 := n0_; have HB := n1_; clear n0_ n1_; clear hb ho26) | ((with_reducible refine gate_builtin (b := .append) (xs := #[.tmp 18, .tmp 19]) rfl ?_); at_builtin; refine Kd.R_append_rows k60 (w0 := w) w.heap.size rfl (.tmp 18) (.tmp 19) 26 60 (.agg #[(.int .u32 0), (.int .u32 0)]) 8 rfl Tryd.underlying26 info60 rfl (by decide) (by omega) v323 y322 l0 _ _ _ (fun _ => True) (fun _ => False) rfl rfl ?aO ?aR (fun _ _ h => h) (fun _ h => h.elim) ?aF ?aB ?aS ?aL ?_; (case aR => repeat (first | exact (Kd.C_below HR0.out HB.out) | (with_reducible refine Kd.C_alloc ?_ _) | (with_reducible refine Kd.C_drewN ?_ _) | (with_reducible refine Kd.C_drew ?_))); (case aB => exact (by repeat (first | (with_reducible first | exact HB.out | apply below_alloc | apply pw_below_drewN | apply below_drew1) | exact HB.out))); (case aF => exact (fun _ _ => trivial)); (case aO => exact (by (with_reducible repeat (first | apply Kd.R_alloc | apply Kd.R_drewN | apply Kd.R_drew)); exact HO324.out)); (case aS => exact (below_size (by repeat (first | (with_reducible first | exact HB.out | apply below_alloc | apply pw_below_drewN | apply below_drew1) | exact HB.out)))); (case aL => have := LMc11.out; omega); intro v326 w27 ho hb hg hat; rw [← Ny325.out] at ho; have n0_ := Aside0.mk (hb); have n1_ := Aside0.mk (ho); clear HB; clear HO324; have HB := n0_; have HO327 := n1_; clear n0_ n1_; clear ho hb hg hat) | ((with_reducible refine gate_builtin (b := .append) (xs := #[.tmp 20, .tmp 21]) rfl ?_); at_builtin; refine Kd.R_append_rows k60 (w0 := w) w.heap.size rfl (.tmp 20) (.tmp 21) 26 60 (.agg #[(.int .u32 0), (.int .u32 0)]) 8 rfl Tryd.underlying26 info60 rfl (by decide) (by omega) v326 y325 l1 _ _ _ (fun _ => True) (fun _ => False) rfl rfl ?aO ?aR (fun _ _ h => h) (fun _ h => h.elim) ?aF ?aB ?aS ?aL ?_; (case aR => repeat (first | exact (Kd.C_below HR1.out HB.out) | (with_reducible refine Kd.C_alloc ?_ _) | (with_reducible refine Kd.C_drewN ?_ _) | (with_reducible refine Kd.C_drew ?_))); (case aB => exact (by repeat (first | (with_reducible first | exact HB.out | apply below_alloc | apply pw_below_drewN | apply below_drew1) | exact HB.out))); (case aF => exact (fun _ _ => trivial)); (case aO => exact (by (with_reducible repeat (first | apply Kd.R_alloc | apply Kd.R_drewN | apply Kd.R_drew)); exact HO327.out)); (case aS => exact (below_size (by repeat (first | (with_reducible first | exact HB.out | apply below_alloc | apply pw_below_drewN | apply below_drew1) | exact HB.out)))); (case aL => have := LMc12.out; omega); intro v329 w28 ho hb hg hat; rw [← Ny328.out] at ho; have n0_ := Aside0.mk (hb); have n1_ := Aside0.mk (ho); clear HB; clear HO327; have HB := n0_; have HO330 := n1_; clear n0_ n1_; clear ho hb hg hat; obtain ⟨Ao29, co29, eo29⟩ := Kd.R_slice HO330.out; subst eo29) | ((with_reducible refine gate_callee (f := 53) rfl ?_); refine goesL_ (some 23) rfl rfl Tryd.func53 (by kernel_rfl) rfl #[.slice Ao29 y328.length co29] rfl (by (try simp only [List.map_toArray, List.map_cons, List.map_nil]); first | done | rfl | (simp only [List.length_drop, List.length_take]; rfl)) ?_; (with_reducible refine (hypercuberef03_Dims.calls kj2 _ _ y328 t331 _ ?side1 ?side2 A13.out).mono ?_); (case side1 => repeat (first | exact (Kd.R_reads' HO330.out).2.2 | (with_reducible refine Kd.C_alloc ?_ _) | (with_reducible refine Kd.C_drewN ?_ _) | (with_reducible refine Kd.C_drew ?_))); (case side2 => exact (Kd.R_reads' HO330.out).2.1); rintro e w30 ⟨rfl, hb⟩; refine ⟨_, rfl, ?_⟩; have n0_ := Aside0.mk (Kd.R_below (by (with_reducible repeat (first | apply Kd.R_alloc | apply Kd.R_drewN | apply Kd.R_drew)); exact HO330.out) hb); have n1_ := Aside0.mk (below_step (by repeat (first | (with_reducible first | exact HB.out | apply below_alloc | apply pw_below_drewN | apply below_drew1) | exact HB.out)) hb); clear HO330; clear HB; have HO330 := n0_; have HB := n1_; clear n0_ n1_; (try clear hb); (try clear hb2); (try clear hk); (try clear hi)) | ((with_reducible refine gate_callee (f := 60) rfl ?_); refine goesL_ (some 24) rfl rfl Tryd.func60 (by kernel_rfl) rfl #[.int .u32 t331] rfl (by (try simp only [List.map_toArray, List.map_cons, List.map_nil]); first | done | rfl | (simp only [List.length_drop, List.length_take]; rfl)) ?_; (with_reducible refine (hypercuberef01_List.calls kj2 t331 t332 _ A14.out).mono ?_); rintro e w31 ⟨v333, rfl, ho0, hb⟩; refine ⟨_, rfl, ?_⟩; have n0_ := Aside0.mk (Kd.R_below (by (with_reducible repeat (first | apply Kd.R_alloc | apply Kd.R_drewN | apply Kd.R_drew)); exact HO330.out) hb); have n1_ := Aside0.mk (Kd.R_lower ho0 (below_size (by repeat (first | (with_reducible first | exact HB.out | apply below_alloc | apply pw_below_drewN | apply below_drew1) | exact HB.out)))); have n2_ := Aside0.mk (below_step (by repeat (first | (with_reducible first | exact HB.out | apply below_alloc | apply pw_below_drewN | apply below_drew1) | exact HB.out)) hb); clear HO330; clear HB; have HO330 := n0_; have HO334 := n1_; have HB := n2_; clear n0_ n1_ n2_; (try clear hb); (try clear hb2); (try clear hk); (try clear hi); (try clear ho0); obtain ⟨Ao32, co32, eo32⟩ := Kd.R_slice HO334.out; subst eo32))
       (try simp only [Act.put, List.setIfInBounds_toArray, List.set_cons_zero, List.set_cons_succ])
       go_cut [7] (fun v7 wc => ∃ (kq : Nat) (x7_23 : Int), v7 = .int .i64 x7_23 ∧ Aside0 (hypercuberef04_Tell.j1 kq l0 l1 t332 x7_23 = some (r1, r2)) ∧ Aside0 (kq ≤ kj2) ∧ Aside0 (Kd.R (Kd.int .i64) 3 wc w.heap.size (fun _ => True) (.slice Ao32 t332.length co32) t332) ∧ Aside0 (Below w.heap.size w wc))
       case first =>
        have H := HC24.out
        clear HC24
        by_cases c33 : (t332.length : Int) > 0
        ·rw [if_pos c33] at H
         have c33b0 : decide (0 < (t332.length : Int)) = true := decide_eq_true c33
         have c33b1 : decide (0 < t332.length) = true := decide_eq_true (by omega)
         clear c33
         (first | rw [c33b0] | (simp only [i64_w, i32_w]; rw [c33b0]) | rw [c33b1] | skip)
         obtain ⟨ji34, hji34⟩ : ∃ j_ : Int, (wrap64 ((t332.length : Int) - 1)) = j_ := ⟨_, rfl⟩
         replace H : (if 0 ≤ (ji34) then (if (ji34) < (t332.length : Int) then (hypercuberef04_Tell.j1 kj2 l0 l1 t332 (wrap64 ((rd t332 (ji34)) + 1))) else (none)) else (none)) = some (r1, r2) := by first | (rw [hji34] at H; exact H) | (simp only [hji34] at H ⊢; exact H)
         have hji34w : (IntKind.i64.wrap ((t332.length : Int) - 1)) = ji34 := (i64_w _).trans hji34
         by_cases c35 : 0 ≤ (ji34)
         ·rw [if_pos c35] at H
          have c35b0 : decide (0 ≤ (ji34)) = true := decide_eq_true c35
          clear c35
          by_cases c36 : (ji34) < (t332.length : Int)
          ·rw [if_pos c36] at H
           have c36b0 : decide ((ji34) < (t332.length : Int)) = true := decide_eq_true c36
           clear c36
           have H' := Aside0.mk H
           clear H
           have p335 : 0 ≤ ((ji34) : Int) := of_decide_eq_true (by first | (with_reducible assumption) | assumption)
           have q335 : (ji34) < (t332.length : Int) := of_decide_eq_true (by first | (with_reducible assumption) | assumption)
           obtain ⟨ad335, e335, hx335_0⟩ := Kd.at_int (Kd.R_reads' HO334.out).2.2 (ji34) p335 q335
           cases e335
           replace p335 := eq_true p335
           replace q335 := eq_true q335
           go_wp2
           go_meet
           case rel => exact ⟨_, (wrap64 ((rd t332 (ji34)) + 1)), (by first | rfl | (simp; done) | (simp only [← hji34] <;> (first | rfl | simp)) | (simp [*]; done)), H', ⟨by have := HJ2.out; first | omega | exact Nat.le_refl _⟩, ⟨by (with_reducible repeat (first | apply Kd.R_alloc | apply Kd.R_drewN | apply Kd.R_drew)); exact HO334.out⟩, ⟨by repeat (first | (with_reducible first | exact HB.out | apply below_alloc | apply pw_below_drewN | apply below_drew1) | exact HB.out)⟩⟩
          ·rw [if_neg c36] at H
           exact absurd H (by simp)
         ·rw [if_neg c35] at H
          exact absurd H (by simp)
        ·rw [if_neg c33] at H
         have c33b0 : decide (0 < (t332.length : Int)) = false := decide_eq_false c33
         have c33b1 : decide (0 < t332.length) = false := decide_eq_false (by omega)
         clear c33
         (first | rw [c33b0] | (simp only [i64_w, i32_w]; rw [c33b0]) | rw [c33b1] | skip)
         have H' := Aside0.mk H
         clear H
         go_wp2
         go_meet
         case rel => exact ⟨_, (1), (by first | rfl | (simp; done) | (simp [*]; done)), H', ⟨by have := HJ2.out; first | omega | exact Nat.le_refl _⟩, ⟨by (with_reducible repeat (first | apply Kd.R_alloc | apply Kd.R_drewN | apply Kd.R_drew)); exact HO334.out⟩, ⟨by repeat (first | (with_reducible first | exact HB.out | apply below_alloc | apply pw_below_drewN | apply below_drew1) | exact HB.out)⟩⟩
       case rest =>
        clear HC24
        try clear c1
        try clear c2
        try clear p2
        try clear c3
        try clear p3
        try clear q3
        try clear hx3
        try clear c5
        try clear c6
        try clear p6
        try clear c10
        try clear c11
        try clear c12
        try clear c15
        try clear c15b0
        try clear c15b1
        try clear c24
        try clear c33
        try clear c33b0
        try clear c33b1
        try clear p33
        try clear q33
        try clear hx33
        try clear c35
        try clear c35b0
        try clear c36
        try clear c36b0
        try clear hx335_0
        try clear p2
        try clear p335
        try clear q335
        obtain ⟨kq, x7_23, rfl, HA, HJ23, HO_6, HB⟩ := hcut
        cases kq with
        | zero => exact absurd HA.out (by simp [hypercuberef04_Tell.j1])
        | succ kj23 =>
         have H := HA.out
         clear HA
         simp only [hypercuberef04_Tell.j1] at H
         by_cases c37 : 0 ≤ x7_23
         ·rw [if_pos c37] at H
          have c37b0 := eq_true c37
          have c37b1 : decide (0 ≤ x7_23) = true := decide_eq_true c37
          clear c37
          by_cases c38 : (x7_23 : Int).toNat ≤ 35184372088832
          ·rw [if_pos c38] at H
           have c38b0 := eq_true c38
           have c38b1 : decide ((x7_23 : Int).toNat ≤ 35184372088832) = true := decide_eq_true c38
           clear c38
           obtain ⟨y336, hy336⟩ : ∃ y_ : List Int, y_ = (List.replicate (x7_23 : Int).toNat 0) := ⟨_, rfl⟩
           replace H : (hypercuberef04_Tell.l0 kj23 l0 l1 t332 y336) = some (r1, r2) := by first | (rw [hy336]; with_reducible exact H) | (have H2_ := (Option.bind_some _ _).symm.trans H; rw [hy336]; with_reducible exact H2_) | (have H2_ := (Option.bind_some _ _).symm.trans H; with_reducible exact H2_) | with_reducible exact H | (rw [hy336]; exact H) | exact H
           have Ny336 := Aside0.mk hy336
           clear hy336
           have H' := Aside0.mk H
           clear H
           go_wp2_with (first | ((with_reducible refine gate_dst (N := 39) rfl ?_); refine Kd.R_make (Kd.int .i64) _ 3 rfl (N := 39) rfl 27 _ _ rfl x7_23 rfl rfl Tryd.underlying27 (.int .i64 0) 8 info3 rfl (by decide) (by omega) 0 (ok := fun _ => True) (okp := fun _ => True) rfl (fun _ hk => hk) trivial (of_decide_eq_true (by first | (with_reducible assumption) | assumption)) (Nat.le_trans (Nat.mul_le_mul_right _ (of_decide_eq_true (by first | (with_reducible assumption) | assumption) : x7_23.toNat ≤ 35184372088832)) (by omega)) (Below.refl _ _) (Nat.le_refl _) ?_; intro v337 w39 ho40 hb hg_ hnew_; clear hg_ hnew_; (first | rw [← Ny336.out] at ho40 | (simp only [Int.reduceToNat] at ho40; rw [← Ny336.out] at ho40)); have n0_ := Aside0.mk (Kd.R_elder' (by (with_reducible repeat (first | apply Kd.R_alloc | apply Kd.R_drewN | apply Kd.R_drew)); exact HO_6.out) (Kd.R_base ho40) hb); have n1_ := Aside0.mk (Kd.R_lower (Kd.R_new' ho40 (Kd.R_lt (by (with_reducible repeat (first | apply Kd.R_alloc | apply Kd.R_drewN | apply Kd.R_drew)); exact HO_6.out))) (below_size (by repeat (first | (with_reducible first | exact HB.out | apply below_alloc | apply pw_below_drewN | apply below_drew1) | exact HB.out)))); have n2_ := Aside0.mk (below_step (by repeat (first | (with_reducible first | exact HB.out | apply below_alloc | apply pw_below_drewN | apply below_drew1) | exact HB.out)) hb); clear HO_6; clear HB; have HO_6 := n0_; have HO338 := n1_; have HB := n2_; clear n0_ n1_ n2_; clear hb ho40))
           go_loopg [] kj23 (fun kq w' => ∃ (x8_3 : List Int), Aside0 (hypercuberef04_Tell.l0 kq l0 l1 t332 x8_3 = some (r1, r2)) ∧ Aside0 (kq ≤ kj23) ∧ Aside0 (Kd.R (Kd.int .i64) 3 w' w.heap.size (fun k_ => some k_ ≠ (v337 : Value).ownBlock) (.slice Ao32 t332.length co32) t332) ∧ Aside0 (Kd.R (Kd.int .i64) 3 w' w.heap.size (fun k_ => some k_ ≠ ((.slice Ao32 t332.length co32) : Value).ownBlock) v337 x8_3) ∧ Aside0 (Below w.heap.size w w'))
           case atStart => exact ⟨(y336), H', ⟨Nat.le_refl _⟩, ⟨by (with_reducible repeat (first | apply Kd.R_alloc | apply Kd.R_drewN | apply Kd.R_drew)); exact Kd.R_mono HO_6.out (fun _ hk => hk.2)⟩, ⟨by (with_reducible repeat (first | apply Kd.R_alloc | apply Kd.R_drewN | apply Kd.R_drew)); exact Kd.R_mono HO338.out (fun _ hk => hk.2)⟩, ⟨by repeat (first | (with_reducible first | exact HB.out | apply below_alloc | apply pw_below_drewN | apply below_drew1) | exact HB.out)⟩⟩
           case round =>
            clear H'
            try clear c1
            try clear c2
            try clear p2
            try clear c3
            try clear p3
            try clear q3
            try clear hx3
            try clear c5
            try clear c6
            try clear p6
            try clear c10
            try clear c11
            try clear c12
            try clear c15
            try clear c15b0
            try clear c15b1
            try clear c24
            try clear c33
            try clear c33b0
            try clear c33b1
            try clear p33
            try clear q33
            try clear hx33
            try clear c35
            try clear c35b0
            try clear c36
            try clear c36b0
            try clear c37
            try clear c37b0
            try clear c37b1
            try clear c38
            try clear c38b0
            try clear c38b1
            try clear hx335_0
            try clear p2
            try clear p3
            try clear p33
            try clear p335
            try clear p6
            try clear q3
            try clear q33
            try clear q335
            obtain ⟨x8_3, HA, HK3, HO_6, HO_8, HB⟩ := hrel
            cases gk with
            | zero => exact absurd HA.out (by simp [hypercuberef04_Tell.l0])
            | succ k3 =>
             have H := HA.out
             clear HA
             simp only [hypercuberef04_Tell.l0] at H
             replace H := Option.bind_eq_some_iff.mp H
             obtain ⟨t339, A410, H⟩ := H
             replace H : ((hypercuberef04_eval.f k3 l1 x8_3).bind fun t340 => (if t339 = t340 then (hypercuberef04_Tell.l1 k3 l0 l1 t332 x8_3 0) else (some (x8_3, 0)))) = some (r1, r2) := H
             have A41 := Aside0.mk A410
             clear A410
             replace H := Option.bind_eq_some_iff.mp H
             obtain ⟨t340, A420, H⟩ := H
             replace H : (if t339 = t340 then (hypercuberef04_Tell.l1 k3 l0 l1 t332 x8_3 0) else (some (x8_3, 0))) = some (r1, r2) := H
             have A42 := Aside0.mk A420
             clear A420
             by_cases c43 : t339 = t340
             ·rw [if_pos c43] at H
              have c43b0 : (t339 == t340) = true := beq_iff_eq.mpr c43
              have c43b1 : (t339 != t340) = false := bne_eq_false_iff_eq.mpr c43
              clear c43
              have H' := Aside0.mk H
              clear H
              obtain ⟨Ao44, co44, eo44⟩ := Kd.R_slice HO_8.out
              subst eo44
              go_wp2_with (first | ((with_reducible refine gate_callee (f := 58) rfl ?_); refine goesL_ (some 42) rfl rfl Tryd.func58 (by kernel_rfl) rfl #[.slice A0 l0.length c0, .slice Ao44 x8_3.length co44] rfl (by (try simp only [List.map_toArray, List.map_cons, List.map_nil]); first | done | rfl | (simp only [List.length_drop, List.length_take]; rfl)) ?_; (with_reducible refine (hypercuberef04_eval.calls k3 _ _ l0 _ _ x8_3 t339 _ ?side1 ?side2 ?side3 ?side4 A41.out).mono ?_); (case side1 => repeat (first | exact (Kd.C_below HR0.out HB.out) | (with_reducible refine Kd.C_alloc ?_ _) | (with_reducible refine Kd.C_drewN ?_ _) | (with_reducible refine Kd.C_drew ?_))); (case side2 => exact HC0.out); (case side3 => repeat (first | exact (Kd.R_reads' HO_8.out).2.2 | (with_reducible refine Kd.C_alloc ?_ _) | (with_reducible refine Kd.C_drewN ?_ _) | (with_reducible refine Kd.C_drew ?_))); (case side4 => exact (Kd.R_reads' HO_8.out).2.1); rintro e w' ⟨rfl, ⟨nd, rfl⟩⟩; refine ⟨_, rfl, ?_⟩) | ((with_reducible refine gate_callee (f := 58) rfl ?_); refine goesL_ (some 45) rfl rfl Tryd.func58 (by kernel_rfl) rfl #[.slice A1 l1.length c1, .slice Ao44 x8_3.length co44] rfl (by (try simp only [List.map_toArray, List.map_cons, List.map_nil]); first | done | rfl | (simp only [List.length_drop, List.length_take]; rfl)) ?_; (with_reducible refine (hypercuberef04_eval.calls k3 _ _ l1 _ _ x8_3 t340 _ ?side1 ?side2 ?side3 ?side4 A42.out).mono ?_); (case side1 => repeat (first | exact (Kd.C_below HR1.out (by repeat (first | (with_reducible first | exact HB.out | apply below_alloc | apply pw_below_drewN | apply below_drew1) | exact HB.out))) | (with_reducible refine Kd.C_alloc ?_ _) | (with_reducible refine Kd.C_drewN ?_ _) | (with_reducible refine Kd.C_drew ?_))); (case side2 => exact HC1.out); (case side3 => repeat (first | exact (Kd.R_reads' HO_8.out).2.2 | (with_reducible refine Kd.C_alloc ?_ _) | (with_reducible refine Kd.C_drewN ?_ _) | (with_reducible refine Kd.C_drew ?_))); (case side4 => exact (Kd.R_reads' HO_8.out).2.1); rintro e w' ⟨rfl, ⟨nd, rfl⟩⟩; refine ⟨_, rfl, ?_⟩))
              go_loopg [9] k3 (fun kq v9 w' => ∃ (x8_4 : List Int) (x9_4 : Int), v9 = .int .i64 x9_4 ∧ Aside0 (hypercuberef04_Tell.l1 kq l0 l1 t332 x8_4 x9_4 = some (r1, r2)) ∧ Aside0 (kq ≤ k3) ∧ Aside0 (Kd.R (Kd.int .i64) 3 w' w.heap.size (fun k_ => some k_ ≠ ((.slice Ao44 x8_3.length co44) : Value).ownBlock) (.slice Ao32 t332.length co32) t332) ∧ Aside0 (Kd.R (Kd.int .i64) 3 w' w.heap.size (fun k_ => some k_ ≠ ((.slice Ao32 t332.length co32) : Value).ownBlock) (.slice Ao44 x8_3.length co44) x8_4) ∧ Aside0 (Below w.heap.size w w'))
              case atStart => exact ⟨(x8_3), (0), (by first | rfl | (simp; done) | (simp [*]; done)), H', ⟨Nat.le_refl _⟩, ⟨by (with_reducible repeat (first | apply Kd.R_alloc | apply Kd.R_drewN | apply Kd.R_drew)); exact HO_6.out⟩, ⟨by (with_reducible repeat (first | apply Kd.R_alloc | apply Kd.R_drewN | apply Kd.R_drew)); exact HO_8.out⟩, ⟨by repeat (first | (with_reducible first | exact HB.out | apply below_alloc | apply pw_below_drewN | apply below_drew1) | exact HB.out)⟩⟩
              case round =>
               clear H'
               try clear c1
               try clear c2
               try clear p2
               try clear c3
               try clear p3
               try clear q3
               try clear hx3
               try clear c4
               try clear c5
               try clear c6
               try clear p6
               try clear c10
               try clear c11
               try clear c12
               try clear c15
               try clear c15b0
               try clear c15b1
               try clear c24
               try clear c33
               try clear c33b0
               try clear c33b1
               try clear p33
               try clear q33
               try clear hx33
               try clear c35
               try clear c35b0
               try clear c36
               try clear c36b0
               try clear c37
               try clear c37b0
               try clear c37b1
               try clear c38
               try clear c38b0
               try clear c38b1
               try clear c43
               try clear c43b0
               try clear c43b1
               try clear hx335_0
               try clear p2
               try clear p3
               try clear p33
               try clear p335
               try clear p6
               try clear q3
               try clear q33
               try clear q335
               obtain ⟨x8_4, x9_4, rfl, HA, HK4, HO_6, HO_8, HB⟩ := hrel
               have hl8_4 := (Kd.R_reads' HO_8.out).1
               rw [hl8_4] at HO_8
               (try simp only [hl8_4])
               (try simp only [hl8_4] at HO_6)
               cases gk with
               | zero => exact absurd HA.out (by simp [hypercuberef04_Tell.l1])
               | succ k4 =>
                have H := HA.out
                clear HA
                simp only [hypercuberef04_Tell.l1] at H
                by_cases c45 : x9_4 < (t332.length : Int)
                ·rw [if_pos c45] at H
                 have c45b0 : decide (x9_4 < (t332.length : Int)) = true := decide_eq_true c45
                 clear c45
                 by_cases c46 : 0 ≤ x9_4
                 ·rw [if_pos c46] at H
                  have c46b0 : decide (0 ≤ x9_4) = true := decide_eq_true c46
                  clear c46
                  by_cases c47 : 0 ≤ (rd t332 x9_4)
                  ·rw [if_pos c47] at H
                   have c47b0 : decide (0 ≤ (rd t332 x9_4)) = true := decide_eq_true c47
                   clear c47
                   by_cases c48 : (rd t332 x9_4) < (x8_4.length : Int)
                   ·rw [if_pos c48] at H
                    have c48b0 : decide ((rd t332 x9_4) < (x8_4.length : Int)) = true := decide_eq_true c48
                    clear c48
                    by_cases c49 : (rd x8_4 (rd t332 x9_4)) = 3
                    ·rw [if_pos c49] at H
                     have c49b0 : ((rd x8_4 (rd t332 x9_4)) == 3) = true := beq_iff_eq.mpr c49
                     have c49b1 : ((rd x8_4 (rd t332 x9_4)) != 3) = false := bne_eq_false_iff_eq.mpr c49
                     clear c49
                     obtain ⟨y344, hy344⟩ : ∃ y_ : List Int, y_ = (x8_4.set ((rd t332 x9_4) : Int).toNat 0) := ⟨_, rfl⟩
                     replace H : (hypercuberef04_Tell.l1 k4 l0 l1 t332 y344 (wrap64 (x9_4 + 1))) = some (r1, r2) := by first | (rw [hy344]; with_reducible exact H) | (have H2_ := (Option.bind_some _ _).symm.trans H; rw [hy344]; with_reducible exact H2_) | (have H2_ := (Option.bind_some _ _).symm.trans H; with_reducible exact H2_) | with_reducible exact H | (rw [hy344]; exact H) | exact H
                     have Ny344 := Aside0.mk hy344
                     clear hy344
                     have H' := Aside0.mk H
                     clear H
                     have p341 : 0 ≤ (x9_4 : Int) := of_decide_eq_true (by first | (with_reducible assumption) | assumption)
                     have q341 : x9_4 < (t332.length : Int) := of_decide_eq_true (by first | (with_reducible assumption) | assumption)
                     obtain ⟨ad341, e341, hx341_0⟩ := Kd.at_int (Kd.R_reads' HO_6.out).2.2 x9_4 p341 q341
                     cases e341
                     replace p341 := eq_true p341
                     replace q341 := eq_true q341
                     have p342 : 0 ≤ ((rd t332 x9_4) : Int) := of_decide_eq_true (by first | (with_reducible assumption) | assumption)
                     have q342 : (rd t332 x9_4) < (x8_4.length : Int) := of_decide_eq_true (by first | (with_reducible assumption) | assumption)
                     obtain ⟨ad342, e342, hx342_0⟩ := Kd.at_int (Kd.R_reads' HO_8.out).2.2 (rd t332 x9_4) p342 q342
                     cases e342
                     replace p342 := eq_true p342
                     replace q342 := eq_true q342
                     have p343 : 0 ≤ (x9_4 : Int) := of_decide_eq_true (by first | (with_reducible assumption) | assumption)
                     have q343 : x9_4 < (t332.length : Int) := of_decide_eq_true (by first | (with_reducible assumption) | assumption)
                     obtain ⟨ad343, e343, hx343_0⟩ := Kd.at_int (Kd.R_reads' HO_6.out).2.2 x9_4 p343 q343
                     obtain rfl : ad341 = ad343 := (by injection e343)
                     replace p343 := eq_true p343
                     replace q343 := eq_true q343
                     have p50 : 0 ≤ ((rd t332 x9_4) : Int) := of_decide_eq_true (by first | (with_reducible assumption) | assumption)
                     have q50 : ((rd t332 x9_4) : Int) < ((x8_4.length : Int) : Int) := of_decide_eq_true (by first | (with_reducible assumption) | assumption)
                     obtain ⟨go50, co50, eo50, gb50, gl50, cl50, HG50⟩ := Kd.R_form HO_8.out (by omega)
                     (first | cases eo50 | (injection eo50 with ea_ en_ ec_; (first | subst ea_ | (injection ea_ with ea_; subst ea_)); subst ec_; clear en_))
                     have GB50 := Aside0.mk gb50
                     have GG50 := Aside0.mk HG50
                     clear gb50 gl50 HG50
                     (first | simp only [add_plain] at hx342_0 | skip)
                     obtain ⟨hx50_0, hf50_0⟩ := Kd.R_celln 0 HO_8.out ((rd t332 x9_4) : Int) p50 q50
                     replace p50 := eq_true p50
                     replace q50 := eq_true q50
                     have HP51 := Kd.R_putg HO_8.out ((rd t332 x9_4) : Int) 0
                     go_wp2_with (first | ((with_reducible refine gate_store (t := 3) (p := 67) rfl ?_); refine store_event (t := 3) (p := 67) (v := ?vo_w52) (w1 := (wr.setCell ⟨go50, ((rd t332 x9_4) : Int).toNat, none⟩ (.int .i64 0))) ?hg ?ho ?hn ?hr ?_; (case ho => rfl); (case hg => rfl); (case hn => rfl); (case hr => first | (go_simp; done) | (go_simp; rfl)); intro w52 hw; have hg : wr.grownBy w52 (some go50) := (by rw [hw]; exact HP51.2); have hp_ : Kd.R (Kd.int .i64) 3 w52 w.heap.size (fun k_ => some k_ ≠ (.slice (some ad341) t332.length co32 : Value).ownBlock) (.slice (some ⟨go50, 0, none⟩) x8_4.length co44) y344 := (by rw [hw, Ny344.out]; exact HP51.1); clear HP51; have n0_ := Aside0.mk (Kd.R_after (v := (.slice (some ⟨go50, 0, none⟩) x8_4.length co44)) (v1 := (.slice (some ⟨go50, 0, none⟩) x8_4.length co44)) (ok := (fun _ => True)) (by (with_reducible repeat (first | apply Kd.R_alloc | apply Kd.R_drewN | apply Kd.R_drew)); exact Kd.R_mono HO_6.out (fun _ hk => ⟨trivial, hk⟩)) hg (.inl rfl)); have n1_ := Aside0.mk (hp_); have n2_ := Aside0.mk ((by rw [hw]; exact below_set (HB.out) GB50.out : Below w.heap.size w w52)); clear HO_6; clear HO_8; clear HB; have HO_6 := n0_; have HO_8 := n1_; have HB := n2_; clear n0_ n1_ n2_; clear hg hw hp_))
                     (try simp only [← hl8_4])
                     go_roundg k4
                     case measure => have := HJ2.out; have := HJ23.out; have := HK3.out; have := HK4.out; omega
                     case rel => exact ⟨(y344), (wrap64 (x9_4 + 1)), (by first | rfl | (simp; done) | (simp [*]; done)), H', ⟨by have := HJ2.out; have := HJ23.out; have := HK3.out; have := HK4.out; omega⟩, ⟨by (try simp only [hl8_4]); (with_reducible repeat (first | apply Kd.R_alloc | apply Kd.R_drewN | apply Kd.R_drew)); exact Kd.R_mono HO_6.out (fun _ hk => hk.2)⟩, ⟨by (try simp only [hl8_4]); (with_reducible repeat (first | apply Kd.R_alloc | apply Kd.R_drewN | apply Kd.R_drew)); exact HO_8.out⟩, ⟨by repeat (first | (with_reducible first | exact HB.out | apply below_alloc | apply pw_below_drewN | apply below_drew1) | exact HB.out)⟩⟩
                    ·rw [if_neg c49] at H
                     have c49b0 : ((rd x8_4 (rd t332 x9_4)) == 3) = false := beq_eq_false_iff_ne.mpr c49
                     have c49b1 : ((rd x8_4 (rd t332 x9_4)) != 3) = true := bne_iff_ne.mpr c49
                     by_cases c53 : x9_4 = (t332.length : Int)
                     ·rw [if_pos c53] at H
                      have c53b0 : (x9_4 == (t332.length : Int)) = true := beq_iff_eq.mpr c53
                      have c53b1 : (x9_4 != (t332.length : Int)) = false := bne_eq_false_iff_eq.mpr c53
                      clear c53
                      simp only [Option.some.injEq, Prod.mk.injEq] at H
                      obtain ⟨rfl, rfl⟩ := H
                      have p341 : 0 ≤ (x9_4 : Int) := of_decide_eq_true (by first | (with_reducible assumption) | assumption)
                      have q341 : x9_4 < (t332.length : Int) := of_decide_eq_true (by first | (with_reducible assumption) | assumption)
                      obtain ⟨ad341, e341, hx341_0⟩ := Kd.at_int (Kd.R_reads' HO_6.out).2.2 x9_4 p341 q341
                      cases e341
                      replace p341 := eq_true p341
                      replace q341 := eq_true q341
                      have p342 : 0 ≤ ((rd t332 x9_4) : Int) := of_decide_eq_true (by first | (with_reducible assumption) | assumption)
                      have q342 : (rd t332 x9_4) < (x8_4.length : Int) := of_decide_eq_true (by first | (with_reducible assumption) | assumption)
                      obtain ⟨ad342, e342, hx342_0⟩ := Kd.at_int (Kd.R_reads' HO_8.out).2.2 (rd t332 x9_4) p342 q342
                      cases e342
                      replace p342 := eq_true p342
                      replace q342 := eq_true q342
                      go_wp2
                      go_ret2
                      exact ⟨_, by first | rfl | (simp [errW_none, errW_some] <;> rfl) | (simp [*, errW_none, errW_some] <;> rfl), by first | exact Kd.R_nil _ _ _ _ _ | exact Kd.N_nil _ _ _ _ _ | exact Kd.V_nil _ _ _ _ _ | exact Kd.Q_nil _ _ _ _ _ | exact Kd.S_nil _ _ _ _ _, by repeat (first | (with_reducible first | exact HB.out | apply below_alloc | apply pw_below_drewN | apply below_drew1) | exact HB.out)⟩
                     ·rw [if_neg c53] at H
                      have c53b0 : (x9_4 == (t332.length : Int)) = false := beq_eq_false_iff_ne.mpr c53
                      have c53b1 : (x9_4 != (t332.length : Int)) = true := bne_iff_ne.mpr c53
                      obtain ⟨y347, hy347⟩ : ∃ y_ : List Int, y_ = (x8_4.set ((rd t332 x9_4) : Int).toNat (wrap64 ((rd x8_4 (rd t332 x9_4)) + 1))) := ⟨_, rfl⟩
                      replace H : (hypercuberef04_Tell.l0 k4 l0 l1 t332 y347) = some (r1, r2) := by first | (rw [hy347]; with_reducible exact H) | (have H2_ := (Option.bind_some _ _).symm.trans H; rw [hy347]; with_reducible exact H2_) | (have H2_ := (Option.bind_some _ _).symm.trans H; with_reducible exact H2_) | with_reducible exact H | (rw [hy347]; exact H) | exact H
                      have Ny347 := Aside0.mk hy347
                      clear hy347
                      have H' := Aside0.mk H
                      clear H
                      have p341 : 0 ≤ (x9_4 : Int) := of_decide_eq_true (by first | (with_reducible assumption) | assumption)
                      have q341 : x9_4 < (t332.length : Int) := of_decide_eq_true (by first | (with_reducible assumption) | assumption)
                      obtain ⟨ad341, e341, hx341_0⟩ := Kd.at_int (Kd.R_reads' HO_6.out).2.2 x9_4 p341 q341
                      cases e341
                      replace p341 := eq_true p341
                      replace q341 := eq_true q341
                      have p342 : 0 ≤ ((rd t332 x9_4) : Int) := of_decide_eq_true (by first | (with_reducible assumption) | assumption)
                      have q342 : (rd t332 x9_4) < (x8_4.length : Int) := of_decide_eq_true (by first | (with_reducible assumption) | assumption)
                      obtain ⟨ad342, e342, hx342_0⟩ := Kd.at_int (Kd.R_reads' HO_8.out).2.2 (rd t332 x9_4) p342 q342
                      cases e342
                      replace p342 := eq_true p342
                      replace q342 := eq_true q342
                      have p345 : 0 ≤ (x9_4 : Int) := of_decide_eq_true (by first | (with_reducible assumption) | assumption)
                      have q345 : x9_4 < (t332.length : Int) := of_decide_eq_true (by first | (with_reducible assumption) | assumption)
                      obtain ⟨ad345, e345, hx345_0⟩ := Kd.at_int (Kd.R_reads' HO_6.out).2.2 x9_4 p345 q345
                      obtain rfl : ad341 = ad345 := (by injection e345)
                      replace p345 := eq_true p345
                      replace q345 := eq_true q345
                      have p346 : 0 ≤ ((rd t332 x9_4) : Int) := of_decide_eq_true (by first | (with_reducible assumption) | assumption)
                      have q346 : (rd t332 x9_4) < (x8_4.length : Int) := of_decide_eq_true (by first | (with_reducible assumption) | assumption)
                      obtain ⟨ad346, e346, hx346_0⟩ := Kd.at_int (Kd.R_reads' HO_8.out).2.2 (rd t332 x9_4) p346 q346
                      obtain rfl : ad342 = ad346 := (by injection e346)
                      replace p346 := eq_true p346
                      replace q346 := eq_true q346
                      have p54 : 0 ≤ ((rd t332 x9_4) : Int) := of_decide_eq_true (by first | (with_reducible assumption) | assumption)
                      have q54 : ((rd t332 x9_4) : Int) < ((x8_4.length : Int) : Int) := of_decide_eq_true (by first | (with_reducible assumption) | assumption)
                      obtain ⟨go54, co54, eo54, gb54, gl54, cl54, HG54⟩ := Kd.R_form HO_8.out (by omega)
                      (first | cases eo54 | (injection eo54 with ea_ en_ ec_; (first | subst ea_ | (injection ea_ with ea_; subst ea_)); subst ec_; clear en_))
                      have GB54 := Aside0.mk gb54
                      have GG54 := Aside0.mk HG54
                      clear gb54 gl54 HG54
                      (first | simp only [add_plain] at hx342_0 | skip)
                      (first | simp only [add_plain] at hx346_0 | skip)
                      obtain ⟨hx54_0, hf54_0⟩ := Kd.R_celln 0 HO_8.out ((rd t332 x9_4) : Int) p54 q54
                      replace p54 := eq_true p54
                      replace q54 := eq_true q54
                      have HP55 := Kd.R_putg HO_8.out ((rd t332 x9_4) : Int) (wrap64 ((rd x8_4 (rd t332 x9_4)) + 1))
                      go_wp2_with (first | ((with_reducible refine gate_store (t := 3) (p := 82) rfl ?_); refine store_event (t := 3) (p := 82) (v := ?vo_w56) (w1 := (wr.setCell ⟨go54, ((rd t332 x9_4) : Int).toNat, none⟩ (.int .i64 (wrap64 ((rd x8_4 (rd t332 x9_4)) + 1))))) ?hg ?ho ?hn ?hr ?_; (case ho => rfl); (case hg => rfl); (case hn => rfl); (case hr => first | (go_simp; done) | (go_simp; rfl)); intro w56 hw; have hg : wr.grownBy w56 (some go54) := (by rw [hw]; exact HP55.2); have hp_ : Kd.R (Kd.int .i64) 3 w56 w.heap.size (fun k_ => some k_ ≠ (.slice (some ad341) t332.length co32 : Value).ownBlock) (.slice (some ⟨go54, 0, none⟩) x8_4.length co44) y347 := (by rw [hw, Ny347.out]; exact HP55.1); clear HP55; have n0_ := Aside0.mk (Kd.R_after (v := (.slice (some ⟨go54, 0, none⟩) x8_4.length co44)) (v1 := (.slice (some ⟨go54, 0, none⟩) x8_4.length co44)) (ok := (fun _ => True)) (by (with_reducible repeat (first | apply Kd.R_alloc | apply Kd.R_drewN | apply Kd.R_drew)); exact Kd.R_mono HO_6.out (fun _ hk => ⟨trivial, hk⟩)) hg (.inl rfl)); have n1_ := Aside0.mk (hp_); have n2_ := Aside0.mk ((by rw [hw]; exact below_set (HB.out) GB54.out : Below w.heap.size w w56)); clear HO_6; clear HO_8; clear HB; have HO_6 := n0_; have HO_8 := n1_; have HB := n2_; clear n0_ n1_ n2_; clear hg hw hp_))
                      (try simp only [← hl8_4])
                      go_roundg k4
                      case measure => have := HJ2.out; have := HJ23.out; have := HK3.out; have := HK4.out; omega
                      case rel => exact ⟨(y347), H', ⟨by have := HJ2.out; have := HJ23.out; have := HK3.out; have := HK4.out; omega⟩, ⟨by (try simp only [hl8_4]); (with_reducible repeat (first | apply Kd.R_alloc | apply Kd.R_drewN | apply Kd.R_drew)); exact Kd.R_mono HO_6.out (fun _ hk => hk.2)⟩, ⟨by (try simp only [hl8_4]); (with_reducible repeat (first | apply Kd.R_alloc | apply Kd.R_drewN | apply Kd.R_drew)); exact HO_8.out⟩, ⟨by repeat (first | (with_reducible first | exact HB.out | apply below_alloc | apply pw_below_drewN | apply below_drew1) | exact HB.out)⟩⟩
                   ·rw [if_neg c48] at H
                    exact absurd H (by simp)
                  ·rw [if_neg c47] at H
                   exact absurd H (by simp)
                 ·rw [if_neg c46] at H
                  exact absurd H (by simp)
                ·rw [if_neg c45] at H
                 have c45b0 : decide (x9_4 < (t332.length : Int)) = false := decide_eq_false c45
                 (try have c45b9 : decide (x9_4 < (x8_4.length : Int)) = false := by rw [← hl8_4]; exact c45b0)
                 clear c45
                 by_cases c57 : x9_4 = (t332.length : Int)
                 ·rw [if_pos c57] at H
                  have c57b0 : (x9_4 == (t332.length : Int)) = true := beq_iff_eq.mpr c57
                  have c57b1 : (x9_4 != (t332.length : Int)) = false := bne_eq_false_iff_eq.mpr c57
                  clear c57
                  simp only [Option.some.injEq, Prod.mk.injEq] at H
                  obtain ⟨rfl, rfl⟩ := H
                  go_wp2
                  go_ret2
                  exact ⟨_, by first | rfl | (simp [errW_none, errW_some] <;> rfl) | (simp [*, errW_none, errW_some] <;> rfl), by first | exact Kd.R_nil _ _ _ _ _ | exact Kd.N_nil _ _ _ _ _ | exact Kd.V_nil _ _ _ _ _ | exact Kd.Q_nil _ _ _ _ _ | exact Kd.S_nil _ _ _ _ _, by repeat (first | (with_reducible first | exact HB.out | apply below_alloc | apply pw_below_drewN | apply below_drew1) | exact HB.out)⟩
                 ·rw [if_neg c57] at H
                  have c57b0 : (x9_4 == (t332.length : Int)) = false := beq_eq_false_iff_ne.mpr c57
                  have c57b1 : (x9_4 != (t332.length : Int)) = true := bne_iff_ne.mpr c57
                  by_cases c58 : 0 ≤ x9_4
                  ·rw [if_pos c58] at H
                   exact absurd H (by simp)
                  ·rw [if_neg c58] at H
                   exact absurd H (by simp)
             ·rw [if_neg c43] at H
              have c43b0 : (t339 == t340) = false := beq_eq_false_iff_ne.mpr c43
              have c43b1 : (t339 != t340) = true := bne_iff_ne.mpr c43
              simp only [Option.some.injEq, Prod.mk.injEq] at H
              obtain ⟨rfl, rfl⟩ := H
              obtain ⟨Ao59, co59, eo59⟩ := Kd.R_slice HO_8.out
              subst eo59
              go_wp2_with (first | ((with_reducible refine gate_callee (f := 58) rfl ?_); refine goesL_ (some 42) rfl rfl Tryd.func58 (by kernel_rfl) rfl #[.slice A0 l0.length c0, .slice Ao59 x8_3.length co59] rfl (by (try simp only [List.map_toArray, List.map_cons, List.map_nil]); first | done | rfl | (simp only [List.length_drop, List.length_take]; rfl)) ?_; (with_reducible refine (hypercuberef04_eval.calls k3 _ _ l0 _ _ x8_3 t339 _ ?side1 ?side2 ?side3 ?side4 A41.out).mono ?_); (case side1 => repeat (first | exact (Kd.C_below HR0.out HB.out) | (with_reducible refine Kd.C_alloc ?_ _) | (with_reducible refine Kd.C_drewN ?_ _) | (with_reducible refine Kd.C_drew ?_))); (case side2 => exact HC0.out); (case side3 => repeat (first | exact (Kd.R_reads' HO_8.out).2.2 | (with_reducible refine Kd.C_alloc ?_ _) | (with_reducible refine Kd.C_drewN ?_ _) | (with_reducible refine Kd.C_drew ?_))); (case side4 => exact (Kd.R_reads' HO_8.out).2.1); rintro e w' ⟨rfl, ⟨nd, rfl⟩⟩; refine ⟨_, rfl, ?_⟩) | ((with_reducible refine gate_callee (f := 58) rfl ?_); refine goesL_ (some 45) rfl rfl Tryd.func58 (by kernel_rfl) rfl #[.slice A1 l1.length c1, .slice Ao59 x8_3.length co59] rfl (by (try simp only [List.map_toArray, List.map_cons, List.map_nil]); first | done | rfl | (simp only [List.length_drop, List.length_take]; rfl)) ?_; (with_reducible refine (hypercuberef04_eval.calls k3 _ _ l1 _ _ x8_3 t340 _ ?side1 ?side2 ?side3 ?side4 A42.out).mono ?_); (case side1 => repeat (first | exact (Kd.C_below HR1.out (by repeat (first | (with_reducible first | exact HB.out | apply below_alloc | apply pw_below_drewN | apply below_drew1) | exact HB.out))) | (with_reducible refine Kd.C_alloc ?_ _) | (with_reducible refine Kd.C_drewN ?_ _) | (with_reducible refine Kd.C_drew ?_))); (case side2 => exact HC1.out); (case side3 => repeat (first | exact (Kd.R_reads' HO_8.out).2.2 | (with_reducible refine Kd.C_alloc ?_ _) | (with_reducible refine Kd.C_drewN ?_ _) | (with_reducible refine Kd.C_drew ?_))); (case side4 => exact (Kd.R_reads' HO_8.out).2.1); rintro e w' ⟨rfl, ⟨nd, rfl⟩⟩; refine ⟨_, rfl, ?_⟩))
              go_ret2
              exact ⟨_, by first | rfl | (simp [errW_none, errW_some] <;> rfl) | (simp [*, errW_none, errW_some] <;> rfl), by (with_reducible repeat (first | apply Kd.R_alloc | apply Kd.R_drewN | apply Kd.R_drew)); exact Kd.R_mono HO_8.out (fun _ hk => trivial), by repeat (first | (with_reducible first | exact HB.out | apply below_alloc | apply pw_below_drewN | apply below_drew1) | exact HB.out)⟩
          ·rw [if_neg c38] at H
           exact absurd H (by simp)
         ·rw [if_neg c37] at H
          exact absurd H (by simp)
     ·rw [if_neg c12] at H
      exact absurd H (by simp)
    ·rw [if_neg c11] at H
     exact absurd H (by simp)

end Go.Proofs.YtfbcgjkagdbckaaDoor.XTr
