-- Written for this claim by a program of ours (wip/xp.py), out of the translation and of hand-written contracts.
import Derived.Test.YtfbcgjkagdbckaaGreatDoorXCux0
import Derived.Test.YtfbcgjkagdbckaaGreatDoorXCux3
import Derived.Test.YtfbcgjkagdbckaaGreatDoorXCux4
import Derived.Test.YtfbcgjkagdbckaaGreatDoorXCux5
import Derived.Test.YtfbcgjkagdbckaaGreatDoorXCux9
import Derived.Test.YtfbcgjkagdbckaaGreatDoorXCux11
namespace Go.Proofs.YtfbcgjkagdbckaaGreatDoor.XCu
open Go.RowKit Go.Proofs.YtfbcgjkagdbckaaGreatDoorW.PrintWords Go.Proofs.YtfbcgjkagdbckaaGreatDoorW.PrintLast Go.Proofs.YtfbcgjkagdbckaaGreatDoorW.PrintMore
attribute [local go_sem] max2_int min2_int max_two min_two max_three min_three max_four min_four   -- for this text's walks alone
set_option linter.unusedVariables false
set_option linter.unusedSimpArgs false

/-! ### hypercuberef05_Put: function 11 -/
mutual
def hypercuberef05_Put.j0 : Nat → List (S25) → Int → List (S25) → Bool → Option ((List (S25)) × Int)
  | 0, _, _, _, _ => none
  | k + 1, x0, x1, x2, x29 => if x29 = true then (some (([] : List (S25)), 2)) else (hypercuberef05_Put.l0 k x0 x1 x2 ([] : List (S25)) 0)
def hypercuberef05_Put.l0 : Nat → List (S25) → Int → List (S25) → List (S25) → Int → Option ((List (S25)) × Int)
  | 0, _, _, _, _, _ => none
  | k + 1, x0, x1, x2, x8, x9 => if x9 < (x0.length : Int) then (if 0 ≤ x9 then ((hypercuberef01_Without.f k ((rd_T25 x0 x9).f0) x1).bind fun t441 => ((hypercuberef01_Without.f k ((rd_T25 x0 x9).f1) x1).bind fun t442 => ((some (([(⟨t441, t442⟩ : S25)] : List (S25)) : List (S25))).bind fun y443 => ((hypercuberef01_Has.f k ((rd_T25 x0 x9).f0) x1).bind fun t449 => (if t449 = true then ((hypercuberef05_Of.f k x2).bind fun bt450 => (hypercuberef05_Put.j2 k x0 x1 x2 x8 x9 y443 bt450.1 bt450.2 ((rd_T25 x0 x9).f0) ((rd_T25 x0 x9).f1))) else (hypercuberef05_Put.j2 k x0 x1 x2 x8 x9 y443 (([(⟨0, 0⟩ : S25)] : List (S25))) 0 ((rd_T25 x0 x9).f0) ((rd_T25 x0 x9).f1))))))) else (none)) else (some (x8, 0))
def hypercuberef05_Put.j2 : Nat → List (S25) → Int → List (S25) → List (S25) → Int → List (S25) → List (S25) → Int → Int → Int → Option ((List (S25)) × Int)
  | 0, _, _, _, _, _, _, _, _, _, _ => none
  | k + 1, x0, x1, x2, x8, x9, x11, x12, x13, x441000, x441001 => (hypercuberef01_Has.f k x441001 x1).bind fun t454 => (if t454 = true then ((hypercuberef05_OfZero.f k x2).bind fun bt455 => (hypercuberef05_Put.j3 k x0 x1 x2 x8 x9 x11 bt455.1 bt455.2)) else (hypercuberef05_Put.j3 k x0 x1 x2 x8 x9 x11 x12 x13))
def hypercuberef05_Put.j3 : Nat → List (S25) → Int → List (S25) → List (S25) → Int → List (S25) → List (S25) → Int → Option ((List (S25)) × Int)
  | 0, _, _, _, _, _, _, _, _ => none
  | k + 1, x0, x1, x2, x8, x9, x11, x12, x13 => if x13 = 0 then ((hypercuberef05_Meet.f k x11 x12).bind fun bt459 => (hypercuberef05_Put.j4 k x0 x1 x2 x8 x9 bt459.1 bt459.2)) else (hypercuberef05_Put.j4 k x0 x1 x2 x8 x9 x11 x13)
def hypercuberef05_Put.j4 : Nat → List (S25) → Int → List (S25) → List (S25) → Int → List (S25) → Int → Option ((List (S25)) × Int)
  | 0, _, _, _, _, _, _, _ => none
  | k + 1, x0, x1, x2, x8, x9, x11, x13 => if x13 = 0 then ((hypercuberef05_Join.f k x8 x11).bind fun bt463 => (if bt463.2 = 0 then (hypercuberef05_Put.l0 k x0 x1 x2 bt463.1 (wrap64 (x9 + 1))) else (some (([] : List (S25)), bt463.2)))) else (some (([] : List (S25)), x13))
end
def hypercuberef05_Put.f (k : Nat) (l0 : List (S25)) (a1 : Int) (l2 : List (S25)) : Option ((List (S25)) × Int) := (hypercuberef05_Right.f k l0).bind fun t437 => (if t437 = true then (if a1 < 0 then (hypercuberef05_Put.j0 k l0 a1 l2 true) else (if a1 ≥ 24 then (hypercuberef05_Put.j0 k l0 a1 l2 true) else ((hypercuberef03_Right.f k l2).bind fun t438 => (hypercuberef05_Put.j0 k l0 a1 l2 (!t438))))) else (hypercuberef05_Put.j0 k l0 a1 l2 true))
theorem hypercuberef05_Put.mono_l : ∀ k, (∀ y0 y1 y2 y3, LeO (hypercuberef05_Put.j0 k y0 y1 y2 y3) (hypercuberef05_Put.j0 (k + 1) y0 y1 y2 y3)) ∧ (∀ y0 y1 y2 y3 y4, LeO (hypercuberef05_Put.l0 k y0 y1 y2 y3 y4) (hypercuberef05_Put.l0 (k + 1) y0 y1 y2 y3 y4)) ∧ (∀ y0 y1 y2 y3 y4 y5 y6 y7 y8 y9, LeO (hypercuberef05_Put.j2 k y0 y1 y2 y3 y4 y5 y6 y7 y8 y9) (hypercuberef05_Put.j2 (k + 1) y0 y1 y2 y3 y4 y5 y6 y7 y8 y9)) ∧ (∀ y0 y1 y2 y3 y4 y5 y6 y7, LeO (hypercuberef05_Put.j3 k y0 y1 y2 y3 y4 y5 y6 y7) (hypercuberef05_Put.j3 (k + 1) y0 y1 y2 y3 y4 y5 y6 y7)) ∧ (∀ y0 y1 y2 y3 y4 y5 y6, LeO (hypercuberef05_Put.j4 k y0 y1 y2 y3 y4 y5 y6) (hypercuberef05_Put.j4 (k + 1) y0 y1 y2 y3 y4 y5 y6))
  | 0 => ⟨fun _ _ _ _ r h => by simp [hypercuberef05_Put.j0] at h, fun _ _ _ _ _ r h => by simp [hypercuberef05_Put.l0] at h, fun _ _ _ _ _ _ _ _ _ _ r h => by simp [hypercuberef05_Put.j2] at h, fun _ _ _ _ _ _ _ _ r h => by simp [hypercuberef05_Put.j3] at h, fun _ _ _ _ _ _ _ r h => by simp [hypercuberef05_Put.j4] at h⟩
  | k + 1 => by
    obtain ⟨ih0, ih1, ih2, ih3, ih4⟩ := hypercuberef05_Put.mono_l k
    refine ⟨?_, ?_, ?_, ?_, ?_⟩
    · intro y0 y1 y2 y3
      unfold hypercuberef05_Put.j0
      repeat' first
      | (with_reducible exact ih0 _ _ _ _)
      | (with_reducible exact ih1 _ _ _ _ _)
      | (with_reducible exact ih2 _ _ _ _ _ _ _ _ _ _)
      | (with_reducible exact ih3 _ _ _ _ _ _ _ _)
      | (with_reducible exact ih4 _ _ _ _ _ _ _)
      | (with_reducible exact hypercuberef01_Has.mono _ _ _)
      | (with_reducible exact hypercuberef01_Without.mono _ _ _)
      | (with_reducible exact hypercuberef03_Right.mono _ _)
      | (with_reducible exact hypercuberef05_Join.mono _ _ _)
      | (with_reducible exact hypercuberef05_Meet.mono _ _ _)
      | (with_reducible exact hypercuberef05_Of.mono _ _)
      | (with_reducible exact hypercuberef05_OfZero.mono _ _)
      | (with_reducible exact hypercuberef05_Right.mono _ _)
      | (with_reducible exact LeO.refl _)
      | (with_reducible exact LeO.none _)
      | (with_reducible refine LeO.ite ?_ ?_)
      | (with_reducible refine LeO.bind ?_ (fun _ => ?_))
      | exact ih0 _ _ _ _
      | exact ih1 _ _ _ _ _
      | exact ih2 _ _ _ _ _ _ _ _ _ _
      | exact ih3 _ _ _ _ _ _ _ _
      | exact ih4 _ _ _ _ _ _ _
      | exact hypercuberef01_Has.mono _ _ _
      | exact hypercuberef01_Without.mono _ _ _
      | exact hypercuberef03_Right.mono _ _
      | exact hypercuberef05_Join.mono _ _ _
      | exact hypercuberef05_Meet.mono _ _ _
      | exact hypercuberef05_Of.mono _ _
      | exact hypercuberef05_OfZero.mono _ _
      | exact hypercuberef05_Right.mono _ _
      | exact LeO.none _
      | refine LeO.ite ?_ ?_
      | refine LeO.bind ?_ (fun _ => ?_)
    · intro y0 y1 y2 y3 y4
      unfold hypercuberef05_Put.l0
      repeat' first
      | (with_reducible exact ih0 _ _ _ _)
      | (with_reducible exact ih1 _ _ _ _ _)
      | (with_reducible exact ih2 _ _ _ _ _ _ _ _ _ _)
      | (with_reducible exact ih3 _ _ _ _ _ _ _ _)
      | (with_reducible exact ih4 _ _ _ _ _ _ _)
      | (with_reducible exact hypercuberef01_Has.mono _ _ _)
      | (with_reducible exact hypercuberef01_Without.mono _ _ _)
      | (with_reducible exact hypercuberef03_Right.mono _ _)
      | (with_reducible exact hypercuberef05_Join.mono _ _ _)
      | (with_reducible exact hypercuberef05_Meet.mono _ _ _)
      | (with_reducible exact hypercuberef05_Of.mono _ _)
      | (with_reducible exact hypercuberef05_OfZero.mono _ _)
      | (with_reducible exact hypercuberef05_Right.mono _ _)
      | (with_reducible exact LeO.refl _)
      | (with_reducible exact LeO.none _)
      | (with_reducible refine LeO.ite ?_ ?_)
      | (with_reducible refine LeO.bind ?_ (fun _ => ?_))
      | exact ih0 _ _ _ _
      | exact ih1 _ _ _ _ _
      | exact ih2 _ _ _ _ _ _ _ _ _ _
      | exact ih3 _ _ _ _ _ _ _ _
      | exact ih4 _ _ _ _ _ _ _
      | exact hypercuberef01_Has.mono _ _ _
      | exact hypercuberef01_Without.mono _ _ _
      | exact hypercuberef03_Right.mono _ _
      | exact hypercuberef05_Join.mono _ _ _
      | exact hypercuberef05_Meet.mono _ _ _
      | exact hypercuberef05_Of.mono _ _
      | exact hypercuberef05_OfZero.mono _ _
      | exact hypercuberef05_Right.mono _ _
      | exact LeO.none _
      | refine LeO.ite ?_ ?_
      | refine LeO.bind ?_ (fun _ => ?_)
    · intro y0 y1 y2 y3 y4 y5 y6 y7 y8 y9
      unfold hypercuberef05_Put.j2
      repeat' first
      | (with_reducible exact ih0 _ _ _ _)
      | (with_reducible exact ih1 _ _ _ _ _)
      | (with_reducible exact ih2 _ _ _ _ _ _ _ _ _ _)
      | (with_reducible exact ih3 _ _ _ _ _ _ _ _)
      | (with_reducible exact ih4 _ _ _ _ _ _ _)
      | (with_reducible exact hypercuberef01_Has.mono _ _ _)
      | (with_reducible exact hypercuberef01_Without.mono _ _ _)
      | (with_reducible exact hypercuberef03_Right.mono _ _)
      | (with_reducible exact hypercuberef05_Join.mono _ _ _)
      | (with_reducible exact hypercuberef05_Meet.mono _ _ _)
      | (with_reducible exact hypercuberef05_Of.mono _ _)
      | (with_reducible exact hypercuberef05_OfZero.mono _ _)
      | (with_reducible exact hypercuberef05_Right.mono _ _)
      | (with_reducible exact LeO.refl _)
      | (with_reducible exact LeO.none _)
      | (with_reducible refine LeO.ite ?_ ?_)
      | (with_reducible refine LeO.bind ?_ (fun _ => ?_))
      | exact ih0 _ _ _ _
      | exact ih1 _ _ _ _ _
      | exact ih2 _ _ _ _ _ _ _ _ _ _
      | exact ih3 _ _ _ _ _ _ _ _
      | exact ih4 _ _ _ _ _ _ _
      | exact hypercuberef01_Has.mono _ _ _
      | exact hypercuberef01_Without.mono _ _ _
      | exact hypercuberef03_Right.mono _ _
      | exact hypercuberef05_Join.mono _ _ _
      | exact hypercuberef05_Meet.mono _ _ _
      | exact hypercuberef05_Of.mono _ _
      | exact hypercuberef05_OfZero.mono _ _
      | exact hypercuberef05_Right.mono _ _
      | exact LeO.none _
      | refine LeO.ite ?_ ?_
      | refine LeO.bind ?_ (fun _ => ?_)
    · intro y0 y1 y2 y3 y4 y5 y6 y7
      unfold hypercuberef05_Put.j3
      repeat' first
      | (with_reducible exact ih0 _ _ _ _)
      | (with_reducible exact ih1 _ _ _ _ _)
      | (with_reducible exact ih2 _ _ _ _ _ _ _ _ _ _)
      | (with_reducible exact ih3 _ _ _ _ _ _ _ _)
      | (with_reducible exact ih4 _ _ _ _ _ _ _)
      | (with_reducible exact hypercuberef01_Has.mono _ _ _)
      | (with_reducible exact hypercuberef01_Without.mono _ _ _)
      | (with_reducible exact hypercuberef03_Right.mono _ _)
      | (with_reducible exact hypercuberef05_Join.mono _ _ _)
      | (with_reducible exact hypercuberef05_Meet.mono _ _ _)
      | (with_reducible exact hypercuberef05_Of.mono _ _)
      | (with_reducible exact hypercuberef05_OfZero.mono _ _)
      | (with_reducible exact hypercuberef05_Right.mono _ _)
      | (with_reducible exact LeO.refl _)
      | (with_reducible exact LeO.none _)
      | (with_reducible refine LeO.ite ?_ ?_)
      | (with_reducible refine LeO.bind ?_ (fun _ => ?_))
      | exact ih0 _ _ _ _
      | exact ih1 _ _ _ _ _
      | exact ih2 _ _ _ _ _ _ _ _ _ _
      | exact ih3 _ _ _ _ _ _ _ _
      | exact ih4 _ _ _ _ _ _ _
      | exact hypercuberef01_Has.mono _ _ _
      | exact hypercuberef01_Without.mono _ _ _
      | exact hypercuberef03_Right.mono _ _
      | exact hypercuberef05_Join.mono _ _ _
      | exact hypercuberef05_Meet.mono _ _ _
      | exact hypercuberef05_Of.mono _ _
      | exact hypercuberef05_OfZero.mono _ _
      | exact hypercuberef05_Right.mono _ _
      | exact LeO.none _
      | refine LeO.ite ?_ ?_
      | refine LeO.bind ?_ (fun _ => ?_)
    · intro y0 y1 y2 y3 y4 y5 y6
      unfold hypercuberef05_Put.j4
      repeat' first
      | (with_reducible exact ih0 _ _ _ _)
      | (with_reducible exact ih1 _ _ _ _ _)
      | (with_reducible exact ih2 _ _ _ _ _ _ _ _ _ _)
      | (with_reducible exact ih3 _ _ _ _ _ _ _ _)
      | (with_reducible exact ih4 _ _ _ _ _ _ _)
      | (with_reducible exact hypercuberef01_Has.mono _ _ _)
      | (with_reducible exact hypercuberef01_Without.mono _ _ _)
      | (with_reducible exact hypercuberef03_Right.mono _ _)
      | (with_reducible exact hypercuberef05_Join.mono _ _ _)
      | (with_reducible exact hypercuberef05_Meet.mono _ _ _)
      | (with_reducible exact hypercuberef05_Of.mono _ _)
      | (with_reducible exact hypercuberef05_OfZero.mono _ _)
      | (with_reducible exact hypercuberef05_Right.mono _ _)
      | (with_reducible exact LeO.refl _)
      | (with_reducible exact LeO.none _)
      | (with_reducible refine LeO.ite ?_ ?_)
      | (with_reducible refine LeO.bind ?_ (fun _ => ?_))
      | exact ih0 _ _ _ _
      | exact ih1 _ _ _ _ _
      | exact ih2 _ _ _ _ _ _ _ _ _ _
      | exact ih3 _ _ _ _ _ _ _ _
      | exact ih4 _ _ _ _ _ _ _
      | exact hypercuberef01_Has.mono _ _ _
      | exact hypercuberef01_Without.mono _ _ _
      | exact hypercuberef03_Right.mono _ _
      | exact hypercuberef05_Join.mono _ _ _
      | exact hypercuberef05_Meet.mono _ _ _
      | exact hypercuberef05_Of.mono _ _
      | exact hypercuberef05_OfZero.mono _ _
      | exact hypercuberef05_Right.mono _ _
      | exact LeO.none _
      | refine LeO.ite ?_ ?_
      | refine LeO.bind ?_ (fun _ => ?_)
theorem hypercuberef05_Put.mono : ∀ a0 a1 a2 k, LeO (hypercuberef05_Put.f k a0 a1 a2) (hypercuberef05_Put.f (k + 1) a0 a1 a2) := by
  intro a0 a1 a2 k
  obtain ⟨ih0, ih1, ih2, ih3, ih4⟩ := hypercuberef05_Put.mono_l k
  unfold hypercuberef05_Put.f
  repeat' first
      | (with_reducible exact ih0 _ _ _ _)
      | (with_reducible exact ih1 _ _ _ _ _)
      | (with_reducible exact ih2 _ _ _ _ _ _ _ _ _ _)
      | (with_reducible exact ih3 _ _ _ _ _ _ _ _)
      | (with_reducible exact ih4 _ _ _ _ _ _ _)
      | (with_reducible exact hypercuberef01_Has.mono _ _ _)
      | (with_reducible exact hypercuberef01_Without.mono _ _ _)
      | (with_reducible exact hypercuberef03_Right.mono _ _)
      | (with_reducible exact hypercuberef05_Join.mono _ _ _)
      | (with_reducible exact hypercuberef05_Meet.mono _ _ _)
      | (with_reducible exact hypercuberef05_Of.mono _ _)
      | (with_reducible exact hypercuberef05_OfZero.mono _ _)
      | (with_reducible exact hypercuberef05_Right.mono _ _)
      | (with_reducible exact LeO.refl _)
      | (with_reducible exact LeO.none _)
      | (with_reducible refine LeO.ite ?_ ?_)
      | (with_reducible refine LeO.bind ?_ (fun _ => ?_))
      | exact ih0 _ _ _ _
      | exact ih1 _ _ _ _ _
      | exact ih2 _ _ _ _ _ _ _ _ _ _
      | exact ih3 _ _ _ _ _ _ _ _
      | exact ih4 _ _ _ _ _ _ _
      | exact hypercuberef01_Has.mono _ _ _
      | exact hypercuberef01_Without.mono _ _ _
      | exact hypercuberef03_Right.mono _ _
      | exact hypercuberef05_Join.mono _ _ _
      | exact hypercuberef05_Meet.mono _ _ _
      | exact hypercuberef05_Of.mono _ _
      | exact hypercuberef05_OfZero.mono _ _
      | exact hypercuberef05_Right.mono _ _
      | exact LeO.none _
      | refine LeO.ite ?_ ?_
      | refine LeO.bind ?_ (fun _ => ?_)
def hypercuberef05_Put.T8 : Bool × List (List Nat × List Nat) := (true, [([], []), ([0], [0]), ([], []), ([1, 2], [1, 2]), ([], []), ([4], [4]), ([], []), ([5, 6, 3], [5, 6]), ([3, 7], [3, 7]), ([8], [8]), ([9, 7, 0, 1, 2, 3, 4, 5, 6, 7, 8, 9], [9])])
def hypercuberef05_Put.B8 : List Nat := [0, 1, 0, 7, 0, 16, 0, 127, 255, 511, 1023]
theorem hypercuberef05_Put.tab8 : rtab .any (opsOf Tryz.f11 8) = hypercuberef05_Put.T8 := by kernel_rfl
theorem hypercuberef05_Put.bits8 : waitsOk hypercuberef05_Put.T8.2 hypercuberef05_Put.B8 = true := by kernel_rfl
set_option maxHeartbeats 8000000 in
set_option maxRecDepth 100000 in
theorem hypercuberef05_Put.calls (k : Nat) (A0 : Option Addr) (c0 : Nat) (l0 : List (S25)) (a1 : Int) (A2 : Option Addr) (c2 : Nat) (l2 : List (S25)) (r1 : List (S25)) (r2 : Int) (w : World) (hr0 : Kd.C k25 w A0 l0.length l0) (hc0 : l0.length ≤ c0) (hr2 : Kd.C k25 w A2 l2.length l2) (hc2 : l2.length ≤ c2) (h : hypercuberef05_Put.f k l0 a1 l2 = some (r1, r2)) :
  Calls Tryz.prog 11 #[.slice A0 l0.length c0, .int .i64 a1, .slice A2 l2.length c2] w fun e w' => ∃ v0_ : Value, e = .returned (.tuple #[v0_, .int .i64 r2]) ∧ Kd.R k25 25 w' w.heap.size (fun _ => True) v0_ r1 ∧ Below w.heap.size w w' := by
 have hu25 := Tryz.underlying25
 have HR0 := Aside0.mk hr0
 have HC0 := Aside0.mk hc0
 clear hr0 hc0
 have HR2 := Aside0.mk hr2
 have HC2 := Aside0.mk hc2
 clear hr2 hc2
 have HB := Aside0.mk (Below.refl w.heap.size w)
 have H : ((hypercuberef05_Right.f k l0).bind fun t437 => (if t437 = true then (if a1 < 0 then (hypercuberef05_Put.j0 k l0 a1 l2 true) else (if a1 ≥ 24 then (hypercuberef05_Put.j0 k l0 a1 l2 true) else ((hypercuberef03_Right.f k l2).bind fun t438 => (hypercuberef05_Put.j0 k l0 a1 l2 (!t438))))) else (hypercuberef05_Put.j0 k l0 a1 l2 true))) = some (r1, r2) := h
 clear h
 have HC4 := Aside0.mk H
 clear H
 go_enter Tryz.func11, Tryz.ntmps11
 go_upto_region 1 with (fail)
 go_cut [29] (fun v29 wc => ∃ (kq : Nat) (x29_3 : Bool), v29 = .bool x29_3 ∧ Aside0 (hypercuberef05_Put.j0 kq l0 a1 l2 x29_3 = some (r1, r2)) ∧ Aside0 (kq ≤ k) ∧ Aside0 (Below w.heap.size w wc))
 case first =>
  have H := HC4.out
  clear HC4
  replace H := Option.bind_eq_some_iff.mp H
  obtain ⟨t437, A50, H⟩ := H
  try dsimp only at H
  have A5 := Aside0.mk A50
  clear A50
  by_cases c6 : t437 = true
  ·subst c6
   have H1 : (if a1 < 0 then (hypercuberef05_Put.j0 k l0 a1 l2 true) else (if a1 ≥ 24 then (hypercuberef05_Put.j0 k l0 a1 l2 true) else ((hypercuberef03_Right.f k l2).bind fun t438 => (hypercuberef05_Put.j0 k l0 a1 l2 (!t438))))) = some (r1, r2) := by rw [if_pos rfl] at H; exact H
   clear H
   have H := H1
   clear H1
   by_cases c7 : a1 < 0
   ·rw [if_pos c7] at H
    have c7b0 : decide (a1 < 0) = true := decide_eq_true c7
    clear c7
    (first | rw [c7b0] | (simp only [i64_w, i32_w]; rw [c7b0]) | skip)
    have H' := Aside0.mk H
    clear H
    go_wp2_with (first | ((with_reducible refine gate_callee (f := 22) rfl ?_); refine goesL_ (some 15) rfl rfl Tryz.func22 (by kernel_rfl) rfl #[.slice A0 l0.length c0] rfl (by (try simp only [List.map_toArray, List.map_cons, List.map_nil]); first | done | rfl | (simp only [List.length_drop, List.length_take]; rfl)) ?_; (with_reducible refine (hypercuberef05_Right.calls k _ _ l0 true _ ?side1 ?side2 A5.out).mono ?_); (case side1 => repeat (first | exact (Kd.C_below HR0.out HB.out) | (with_reducible refine Kd.C_alloc ?_ _) | (with_reducible refine Kd.C_drewN ?_ _) | (with_reducible refine Kd.C_drew ?_))); (case side2 => exact HC0.out); rintro e w8 ⟨rfl, hb⟩; refine ⟨_, rfl, ?_⟩; have n0_ := Aside0.mk (below_step (by repeat (first | (with_reducible first | exact HB.out | apply below_alloc | apply pw_below_drewN | apply below_drew1) | exact HB.out)) hb); clear HB; have HB := n0_; clear n0_; (try clear hb); (try clear hb2); (try clear hk); (try clear hi)))
    go_meet
    case rel => exact ⟨_, (true), (by first | rfl | (simp; done) | (simp [*]; done)), H', ⟨by first | omega | exact Nat.le_refl _⟩, ⟨by repeat (first | (with_reducible first | exact HB.out | apply below_alloc | apply pw_below_drewN | apply below_drew1) | exact HB.out)⟩⟩
   ·rw [if_neg c7] at H
    have c7b0 : decide (a1 < 0) = false := decide_eq_false c7
    clear c7
    (first | rw [c7b0] | (simp only [i64_w, i32_w]; rw [c7b0]) | skip)
    by_cases c9 : a1 ≥ 24
    ·rw [if_pos c9] at H
     have c9b0 : decide (24 ≤ a1) = true := decide_eq_true c9
     clear c9
     have H' := Aside0.mk H
     clear H
     go_wp2_with (first | ((with_reducible refine gate_callee (f := 22) rfl ?_); refine goesL_ (some 15) rfl rfl Tryz.func22 (by kernel_rfl) rfl #[.slice A0 l0.length c0] rfl (by (try simp only [List.map_toArray, List.map_cons, List.map_nil]); first | done | rfl | (simp only [List.length_drop, List.length_take]; rfl)) ?_; (with_reducible refine (hypercuberef05_Right.calls k _ _ l0 true _ ?side1 ?side2 A5.out).mono ?_); (case side1 => repeat (first | exact (Kd.C_below HR0.out HB.out) | (with_reducible refine Kd.C_alloc ?_ _) | (with_reducible refine Kd.C_drewN ?_ _) | (with_reducible refine Kd.C_drew ?_))); (case side2 => exact HC0.out); rintro e w10 ⟨rfl, hb⟩; refine ⟨_, rfl, ?_⟩; have n0_ := Aside0.mk (below_step (by repeat (first | (with_reducible first | exact HB.out | apply below_alloc | apply pw_below_drewN | apply below_drew1) | exact HB.out)) hb); clear HB; have HB := n0_; clear n0_; (try clear hb); (try clear hb2); (try clear hk); (try clear hi)))
     go_meet
     case rel => exact ⟨_, (true), (by first | rfl | (simp; done) | (simp [*]; done)), H', ⟨by first | omega | exact Nat.le_refl _⟩, ⟨by repeat (first | (with_reducible first | exact HB.out | apply below_alloc | apply pw_below_drewN | apply below_drew1) | exact HB.out)⟩⟩
    ·rw [if_neg c9] at H
     have c9b0 : decide (24 ≤ a1) = false := decide_eq_false c9
     clear c9
     replace H := Option.bind_eq_some_iff.mp H
     obtain ⟨t438, A110, H⟩ := H
     replace H : (hypercuberef05_Put.j0 k l0 a1 l2 (!t438)) = some (r1, r2) := H
     have A11 := Aside0.mk A110
     clear A110
     have H' := Aside0.mk H
     clear H
     go_wp2_with (first | ((with_reducible refine gate_callee (f := 22) rfl ?_); refine goesL_ (some 15) rfl rfl Tryz.func22 (by kernel_rfl) rfl #[.slice A0 l0.length c0] rfl (by (try simp only [List.map_toArray, List.map_cons, List.map_nil]); first | done | rfl | (simp only [List.length_drop, List.length_take]; rfl)) ?_; (with_reducible refine (hypercuberef05_Right.calls k _ _ l0 true _ ?side1 ?side2 A5.out).mono ?_); (case side1 => repeat (first | exact (Kd.C_below HR0.out HB.out) | (with_reducible refine Kd.C_alloc ?_ _) | (with_reducible refine Kd.C_drewN ?_ _) | (with_reducible refine Kd.C_drew ?_))); (case side2 => exact HC0.out); rintro e w12 ⟨rfl, hb⟩; refine ⟨_, rfl, ?_⟩; have n0_ := Aside0.mk (below_step (by repeat (first | (with_reducible first | exact HB.out | apply below_alloc | apply pw_below_drewN | apply below_drew1) | exact HB.out)) hb); clear HB; have HB := n0_; clear n0_; (try clear hb); (try clear hb2); (try clear hk); (try clear hi)) | (go_at_call 37; (with_reducible refine (hypercuberef03_Right.calls k _ _ l2 t438 _ ?side1 ?side2 A11.out).mono ?_); (case side1 => repeat (first | exact (Kd.C_below HR2.out HB.out) | (with_reducible refine Kd.C_alloc ?_ _) | (with_reducible refine Kd.C_drewN ?_ _) | (with_reducible refine Kd.C_drew ?_))); (case side2 => exact HC2.out); rintro e w13 ⟨rfl, hb⟩; have n0_ := Aside0.mk (below_step (by repeat (first | (with_reducible first | exact HB.out | apply below_alloc | apply pw_below_drewN | apply below_drew1) | exact HB.out)) hb); clear HB; have HB := n0_; clear n0_; (try clear hb); (try clear hb2); (try clear hk); (try clear hi)))
     go_meet
     case rel => exact ⟨_, (!t438), (by first | rfl | (simp; done) | (simp [*]; done)), H', ⟨by first | omega | exact Nat.le_refl _⟩, ⟨by repeat (first | (with_reducible first | exact HB.out | apply below_alloc | apply pw_below_drewN | apply below_drew1) | exact HB.out)⟩⟩
  ·replace c6 := Bool.eq_false_iff.mpr c6
   subst c6
   have H1 : (hypercuberef05_Put.j0 k l0 a1 l2 true) = some (r1, r2) := by rw [if_neg (show ¬ (false = true) by decide)] at H; exact H
   clear H
   have H := H1
   clear H1
   have H' := Aside0.mk H
   clear H
   go_wp2_with (first | ((with_reducible refine gate_callee (f := 22) rfl ?_); refine goesL_ (some 15) rfl rfl Tryz.func22 (by kernel_rfl) rfl #[.slice A0 l0.length c0] rfl (by (try simp only [List.map_toArray, List.map_cons, List.map_nil]); first | done | rfl | (simp only [List.length_drop, List.length_take]; rfl)) ?_; (with_reducible refine (hypercuberef05_Right.calls k _ _ l0 false _ ?side1 ?side2 A5.out).mono ?_); (case side1 => repeat (first | exact (Kd.C_below HR0.out HB.out) | (with_reducible refine Kd.C_alloc ?_ _) | (with_reducible refine Kd.C_drewN ?_ _) | (with_reducible refine Kd.C_drew ?_))); (case side2 => exact HC0.out); rintro e w14 ⟨rfl, hb⟩; refine ⟨_, rfl, ?_⟩; have n0_ := Aside0.mk (below_step (by repeat (first | (with_reducible first | exact HB.out | apply below_alloc | apply pw_below_drewN | apply below_drew1) | exact HB.out)) hb); clear HB; have HB := n0_; clear n0_; (try clear hb); (try clear hb2); (try clear hk); (try clear hi)))
   go_meet
   case rel => exact ⟨_, (true), (by first | rfl | (simp; done) | (simp [*]; done)), H', ⟨by first | omega | exact Nat.le_refl _⟩, ⟨by repeat (first | (with_reducible first | exact HB.out | apply below_alloc | apply pw_below_drewN | apply below_drew1) | exact HB.out)⟩⟩
 case rest =>
  clear HC4
  try clear c1
  try clear c2
  try clear p2
  try clear c6
  try clear c7
  try clear c7b0
  try clear c9
  try clear c9b0
  try clear c11
  obtain ⟨kq, x29_3, rfl, HA, HJ3, HB⟩ := hcut
  cases kq with
  | zero => exact absurd HA.out (by simp [hypercuberef05_Put.j0])
  | succ kj3 =>
   have H := HA.out
   clear HA
   simp only [hypercuberef05_Put.j0] at H
   by_cases c15 : x29_3 = true
   ·subst c15
    have H1 : (some (([] : List (S25)), 2)) = some (r1, r2) := by rw [if_pos rfl] at H; exact H
    clear H
    have H := H1
    clear H1
    simp only [Option.some.injEq, Prod.mk.injEq] at H
    obtain ⟨rfl, rfl⟩ := H
    go_wp2
    go_ret2
    exact ⟨_, by first | rfl | (simp [errW_none, errW_some] <;> rfl) | (simp [*, errW_none, errW_some] <;> rfl), by first | exact Kd.R_nil _ _ _ _ _ | exact Kd.N_nil _ _ _ _ _ | exact Kd.V_nil _ _ _ _ _ | exact Kd.Q_nil _ _ _ _ _ | exact Kd.S_nil _ _ _ _ _, by repeat (first | (with_reducible first | exact HB.out | apply below_alloc | apply pw_below_drewN | apply below_drew1) | exact HB.out)⟩
   ·replace c15 := Bool.eq_false_iff.mpr c15
    subst c15
    have H1 : (hypercuberef05_Put.l0 kj3 l0 a1 l2 ([] : List (S25)) 0) = some (r1, r2) := by rw [if_neg (show ¬ (false = true) by decide)] at H; exact H
    clear H
    have H := H1
    clear H1
    have H' := Aside0.mk H
    clear H
    go_wp2
    go_loopg [8, 9] kj3 (fun kq v8 v9 w' => ∃ (x8_2 : List (S25)) (x9_2 : Int), v9 = .int .i64 x9_2 ∧ Aside0 (hypercuberef05_Put.l0 kq l0 a1 l2 x8_2 x9_2 = some (r1, r2)) ∧ Aside0 (kq ≤ kj3) ∧ Aside0 (Kd.R k25 25 w' w.heap.size (fun _ => True) v8 x8_2) ∧ Aside0 (Below w.heap.size w w'))
    case atStart => exact ⟨(([] : List (S25))), (0), (by first | rfl | (simp; done) | (simp [*]; done)), H', ⟨Nat.le_refl _⟩, ⟨by first | exact Kd.R_nil _ _ _ _ _ | exact Kd.N_nil _ _ _ _ _ | exact Kd.V_nil _ _ _ _ _ | exact Kd.Q_nil _ _ _ _ _ | exact Kd.S_nil _ _ _ _ _⟩, ⟨by repeat (first | (with_reducible first | exact HB.out | apply below_alloc | apply pw_below_drewN | apply below_drew1) | exact HB.out)⟩⟩
    case round =>
     clear H'
     try clear c1
     try clear c2
     try clear p2
     try clear c6
     try clear c7
     try clear c7b0
     try clear c9
     try clear c9b0
     try clear c11
     try clear c15
     try clear p2
     obtain ⟨x8_2, x9_2, rfl, HA, HK2, HO_8, HB⟩ := hrel
     cases gk with
     | zero => exact absurd HA.out (by simp [hypercuberef05_Put.l0])
     | succ k2 =>
      have H := HA.out
      clear HA
      simp only [hypercuberef05_Put.l0] at H
      by_cases c16 : x9_2 < (l0.length : Int)
      ·rw [if_pos c16] at H
       have c16b0 : decide (x9_2 < (l0.length : Int)) = true := decide_eq_true c16
       clear c16
       by_cases c17 : 0 ≤ x9_2
       ·rw [if_pos c17] at H
        have c17b0 : decide (0 ≤ x9_2) = true := decide_eq_true c17
        clear c17
        replace H := Option.bind_eq_some_iff.mp H
        obtain ⟨t441, A180, H⟩ := H
        try dsimp only at H
        have A18 := Aside0.mk A180
        clear A180
        replace H := Option.bind_eq_some_iff.mp H
        obtain ⟨t442, A190, H⟩ := H
        try dsimp only at H
        have A19 := Aside0.mk A190
        clear A190
        obtain ⟨y443, hy443⟩ : ∃ y_ : List (S25), y_ = (([(⟨t441, t442⟩ : S25)] : List (S25))) := ⟨_, rfl⟩
        replace H : ((hypercuberef01_Has.f k2 ((rd_T25 l0 x9_2).f0) a1).bind fun t449 => (if t449 = true then ((hypercuberef05_Of.f k2 l2).bind fun bt450 => (hypercuberef05_Put.j2 k2 l0 a1 l2 x8_2 x9_2 y443 bt450.1 bt450.2 ((rd_T25 l0 x9_2).f0) ((rd_T25 l0 x9_2).f1))) else (hypercuberef05_Put.j2 k2 l0 a1 l2 x8_2 x9_2 y443 (([(⟨0, 0⟩ : S25)] : List (S25))) 0 ((rd_T25 l0 x9_2).f0) ((rd_T25 l0 x9_2).f1)))) = some (r1, r2) := by first | (rw [hy443]; with_reducible exact H) | (have H2_ := (Option.bind_some _ _).symm.trans H; rw [hy443]; with_reducible exact H2_) | (have H2_ := (Option.bind_some _ _).symm.trans H; with_reducible exact H2_) | with_reducible exact H | (rw [hy443]; exact H) | exact H
        have Ny443 := Aside0.mk hy443
        clear hy443
        obtain ⟨y446, hy446⟩ : ∃ y_ : List (S25), y_ = (([(⟨0, 0⟩ : S25)] : List (S25))) := ⟨_, rfl⟩
        replace H : ((hypercuberef01_Has.f k2 ((rd_T25 l0 x9_2).f0) a1).bind fun t449 => (if t449 = true then ((hypercuberef05_Of.f k2 l2).bind fun bt450 => (hypercuberef05_Put.j2 k2 l0 a1 l2 x8_2 x9_2 y443 bt450.1 bt450.2 ((rd_T25 l0 x9_2).f0) ((rd_T25 l0 x9_2).f1))) else (hypercuberef05_Put.j2 k2 l0 a1 l2 x8_2 x9_2 y443 y446 0 ((rd_T25 l0 x9_2).f0) ((rd_T25 l0 x9_2).f1)))) = some (r1, r2) := by first | (rw [hy446]; with_reducible exact H) | (have H2_ := (Option.bind_some _ _).symm.trans H; rw [hy446]; with_reducible exact H2_) | (have H2_ := (Option.bind_some _ _).symm.trans H; with_reducible exact H2_) | with_reducible exact H | (rw [hy446]; exact H) | exact H
        have Ny446 := Aside0.mk hy446
        clear hy446
        replace H := Option.bind_eq_some_iff.mp H
        obtain ⟨t449, A200, H⟩ := H
        try dsimp only at H
        have A20 := Aside0.mk A200
        clear A200
        have HC21 := Aside0.mk H
        clear H
        have p439 : 0 ≤ (x9_2 : Int) := of_decide_eq_true (by first | (with_reducible assumption) | assumption)
        have q439 : x9_2 < (l0.length : Int) := of_decide_eq_true (by first | (with_reducible assumption) | assumption)
        obtain ⟨ad439, e439, hx439_0, hx439_1⟩ := at_T25 HR0.out x9_2 p439 q439
        cases e439
        replace hx439_0 := (HB.out.cell (World.block_lt_of_cell? w _ hx439_0)).trans hx439_0
        replace hx439_1 := (HB.out.cell (World.block_lt_of_cell? w _ hx439_1)).trans hx439_1
        replace p439 := eq_true p439
        replace q439 := eq_true q439
        try go_wp2_with (first | ((with_reducible refine gate_dst (N := 10) rfl ?_); refine box_event ?hg (N := 10) ?hd (cs := #[.int .u32 0, .int .u32 0]) (t := 25) ?hr ?_; (case hd => rfl); (case hg => rfl); (case hr => first | (go_simp; done) | (go_simp; rfl)); intro gb440 hg w22 hbox hb; have n0_ := Aside0.mk (Kd.R_below (Kd.R_elderB (by (with_reducible repeat (first | apply Kd.R_alloc | apply Kd.R_drewN | apply Kd.R_drew)); exact HO_8.out) gb440 (Nat.le_of_eq hg.symm)) hb); have n1_ := Aside0.mk (below_step (by repeat (first | (with_reducible first | exact HB.out | apply below_alloc | apply pw_below_drewN | apply below_drew1) | exact HB.out)) hb); have n2_ := Aside0.mk (hbox); have n3_ := Aside0.mk ((by rw [hg]; exact (below_size (by repeat (first | (with_reducible first | exact HB.out | apply below_alloc | apply pw_below_drewN | apply below_drew1) | exact HB.out))) : w.heap.size ≤ gb440)); have n4_ := Aside0.mk ((by rw [hg]; exact (below_size (by repeat (first | (with_reducible first | exact HB.out | apply below_alloc | apply pw_below_drewN | apply below_drew1) | exact HB.out))) : w.heap.size ≤ gb440)); clear HO_8; clear HB; have HO_8 := n0_; have HB := n1_; have BK440 := n2_; have GW440 := n3_; have GE440 := n4_; clear n0_ n1_ n2_ n3_ n4_; clear hb hbox hg; have hcz23_0 : w22.cell? ⟨gb440, 0, none⟩ = some (.int .u32 0) := (blk_cell BK440.out 0).trans rfl; have hcz23_1 : w22.cell? ⟨gb440, 1, none⟩ = some (.int .u32 0) := (blk_cell BK440.out 1).trans rfl; have hfz23_0 := blk_frozen BK440.out 0; have hfz23_1 := blk_frozen BK440.out 1))
        have n0_ : Aside0 (Kd.R k25 25 ((w22.setCell ⟨gb440, 0, none⟩ (.int .u32 ((rd_T25 l0 x9_2).f0))).setCell ⟨gb440, 1, none⟩ (.int .u32 ((rd_T25 l0 x9_2).f1))) w.heap.size (fun k_ => k_ ≠ gb440) u8 x8_2) := ⟨by (with_reducible repeat (first | apply Kd.R_alloc | apply Kd.R_drewN | apply Kd.R_drew)); exact Kd.R_mono (Kd.R_far (p := ⟨gb440, 1, none⟩) (Kd.R_far (p := ⟨gb440, 0, none⟩) (Kd.R_mono HO_8.out (fun k_ hk => (⟨hk, hk.2⟩ : _ ∧ k_ ≠ gb440))) (fun _ hk => hk.2) (.int .u32 ((rd_T25 l0 x9_2).f0))) (fun _ hk => hk.2) (.int .u32 ((rd_T25 l0 x9_2).f1))) (fun _ hk => hk.1.2)⟩
        have n1_ : Aside0 (((w22.setCell ⟨gb440, 0, none⟩ (.int .u32 ((rd_T25 l0 x9_2).f0))).setCell ⟨gb440, 1, none⟩ (.int .u32 ((rd_T25 l0 x9_2).f1))).heap[gb440]? = some (.cells #[.int .u32 ((rd_T25 l0 x9_2).f0), .int .u32 ((rd_T25 l0 x9_2).f1)] 25 (0, 0))) := ⟨by (with_reducible repeat (first | refine blk_drewN ?_ _ | refine blk_drew ?_ | refine blk_alloc ?_ _)); refine blk_put (cs := #[.int .u32 ((rd_T25 l0 x9_2).f0), .int .u32 0]) ?_ 1 _ rfl; (with_reducible repeat (first | refine blk_drewN ?_ _ | refine blk_drew ?_ | refine blk_alloc ?_ _)); refine blk_put (cs := #[.int .u32 0, .int .u32 0]) ?_ 0 _ rfl; (with_reducible repeat (first | refine blk_drewN ?_ _ | refine blk_drew ?_ | refine blk_alloc ?_ _)); exact BK440.out⟩
        have n2_ : Aside0 (Below w.heap.size w ((w22.setCell ⟨gb440, 0, none⟩ (.int .u32 ((rd_T25 l0 x9_2).f0))).setCell ⟨gb440, 1, none⟩ (.int .u32 ((rd_T25 l0 x9_2).f1)))) := ⟨by repeat (first | (with_reducible first | exact HB.out | apply below_alloc | apply pw_below_drewN | apply below_drew1 | refine below_set ?_ GE440.out) | exact HB.out)⟩
        (try clear HO_8)
        (try clear BK440)
        (try clear HB)
        generalize ((w22.setCell ⟨gb440, 0, none⟩ (.int .u32 ((rd_T25 l0 x9_2).f0))).setCell ⟨gb440, 1, none⟩ (.int .u32 ((rd_T25 l0 x9_2).f1))) = w24 at n0_ n1_ n2_ ⊢
        have HO_8 := n0_
        have BK440 := n1_
        have HB := n2_
        clear n0_ n1_ n2_
        have n0_ := Aside0.mk (Kd.R_drew HO_8.out)
        have n1_ := Aside0.mk (blk_drew BK440.out)
        have n2_ := Aside0.mk (below_drew1 HB.out)
        clear HO_8
        clear BK440
        clear HB
        have HO_8 := n0_
        have BK440 := n1_
        have HB := n2_
        clear n0_ n1_ n2_
        refine start_ (n := 11) (S := fun w' => w'.cell? ⟨gb440, 0, none⟩ = some (.int .u32 ((rd_T25 l0 x9_2).f0)) ∧ w'.cell? ⟨gb440, 1, none⟩ = some (.int .u32 ((rd_T25 l0 x9_2).f1))) (ds := []) #[false, false, false, false, false, false, false, false, false, false, false] (by kernel_rfl) rfl rfl ⟨(blk_cell BK440.out 0).trans rfl, (blk_cell BK440.out 1).trans rfl⟩ (fun hHeld => ?_); refine with_tabW hypercuberef05_Put.tab8 hypercuberef05_Put.bits8 (fun HT_ HW_ => ?_)
        generalize w24.drew = w25 at HO_8 BK440 HB hHeld ⊢
        refine pure_ (i := 0) (N := some 40) (v := ?_) (a' := ?_) #[true, false, false, false, false, false, false, false, false, false, false] rfl rfl (any_of HT_.out (by kernel_rfl)) (fun _ _ _ h => h) (Or.inl ⟨by rfl, ?_⟩) ?_ ?_
        rotate_left
        ·intro w'
         go_simp
         with_reducible rfl
        rotate_left
        ·simp only [Act.put, List.setIfInBounds_toArray, List.set_cons_zero, List.set_cons_succ, i64_w, i32_w]
         rfl
        refine pure_ (i := 2) (N := some 42) (v := ?_) (a' := ?_) #[true, false, true, false, false, false, false, false, false, false, false] rfl rfl (any_of HT_.out (by kernel_rfl)) (fun _ _ _ h => h) (Or.inl ⟨by rfl, ?_⟩) ?_ ?_
        rotate_left
        ·intro w'
         go_simp
         with_reducible rfl
        rotate_left
        ·simp only [Act.put, List.setIfInBounds_toArray, List.set_cons_zero, List.set_cons_succ, i64_w, i32_w]
         rfl
        refine pure_ (i := 4) (N := some 44) (v := ?_) (a' := ?_) #[true, false, true, false, true, false, false, false, false, false, false] rfl rfl (any_of HT_.out (by kernel_rfl)) (fun _ _ _ h => h) (Or.inl ⟨by rfl, ?_⟩) ?_ ?_
        rotate_left
        ·intro w'
         go_simp
         with_reducible rfl
        rotate_left
        ·simp only [Act.put, List.setIfInBounds_toArray, List.set_cons_zero, List.set_cons_succ, i64_w, i32_w]
         rfl
        refine pure_ (i := 6) (N := some 46) (v := ?_) (a' := ?_) #[true, false, true, false, true, false, true, false, false, false, false] rfl rfl (any_of HT_.out (by kernel_rfl)) (fun _ _ _ h => h) (Or.inl ⟨by rfl, ?_⟩) ?_ ?_
        rotate_left
        ·intro w'
         go_simp
         with_reducible rfl
        rotate_left
        ·simp only [Act.put, List.setIfInBounds_toArray, List.set_cons_zero, List.set_cons_succ, i64_w, i32_w]
         rfl
        refine take_ (i := 1) (N := some 41) (v := ?_) (a' := ?_) #[true, true, true, false, true, false, true, false, false, false, false] rfl rfl (take_ofW HT_.out HW_.out (by kernel_rfl)) (fun _ _ _ h => h) (Or.inl ⟨by rfl, ?_⟩) hHeld ?_ ?_
        rotate_left
        ·rintro w' ⟨s0, s1⟩
         go_simp
         with_reducible rfl
        rotate_left
        ·simp only [Act.put, List.setIfInBounds_toArray, List.set_cons_zero, List.set_cons_succ, i64_w, i32_w]
         rfl
        refine take_ (i := 5) (N := some 45) (v := ?_) (a' := ?_) #[true, true, true, false, true, true, true, false, false, false, false] rfl rfl (take_ofW HT_.out HW_.out (by kernel_rfl)) (fun _ _ _ h => h) (Or.inl ⟨by rfl, ?_⟩) hHeld ?_ ?_
        rotate_left
        ·rintro w' ⟨s0, s1⟩
         go_simp
         with_reducible rfl
        rotate_left
        ·simp only [Act.put, List.setIfInBounds_toArray, List.set_cons_zero, List.set_cons_succ, i64_w, i32_w]
         rfl
        refine one_ (i := 3) (N := some 43) #[true, true, true, true, true, true, true, false, false, false, false] rfl rfl (one_of HT_.out (by kernel_rfl)) (by decide) (fun K hK => ?_)
        refine goes_ Tryz.func38 (by kernel_rfl) rfl #[.int .u32 ((rd_T25 l0 x9_2).f0), .int .i64 a1] (by rfl) rfl rfl (by (try simp only [List.map_toArray, List.map_cons, List.map_nil]); first | done | rfl | (simp only [List.length_drop, List.length_take]; rfl)) ?_
        with_reducible refine (hypercuberef01_Without.calls k2 ((rd_T25 l0 x9_2).f0) a1 t441 _ A18.out).mono ?_
        rintro e w26 ⟨rfl, hb⟩
        refine ⟨_, rfl, ?_⟩
        have n0_ := Aside0.mk (Kd.R_below (by (with_reducible repeat (first | apply Kd.R_alloc | apply Kd.R_drewN | apply Kd.R_drew)); exact HO_8.out) hb)
        have n1_ := Aside0.mk (blk_below (g := gb440) (o := .cells #[.int .u32 ((rd_T25 l0 x9_2).f0), .int .u32 ((rd_T25 l0 x9_2).f1)] 25 (0, 0)) (by (with_reducible repeat (first | refine blk_drewN ?_ _ | refine blk_drew ?_ | refine blk_alloc ?_ _)); exact BK440.out) hb)
        have n2_ := Aside0.mk (below_step (by repeat (first | (with_reducible first | exact HB.out | apply below_alloc | apply pw_below_drewN | apply below_drew1 | refine below_set ?_ GE440.out) | exact HB.out)) hb)
        clear HO_8
        clear BK440
        clear HB
        have HO_8 := n0_
        have BK440 := n1_
        have HB := n2_
        clear n0_ n1_ n2_
        (try clear hb)
        (try clear hb2)
        (try clear hk)
        (try clear hi)
        refine hK.out _ _ ⟨(blk_cell BK440.out 0).trans rfl, (blk_cell BK440.out 1).trans rfl⟩ (fun hHeld => ?_)
        clear hK K
        refine norm_ (a' := ?_) ?_ ?_
        rotate_left
        ·show Act.put _ (some 43) _ = _
         simp only [Act.put, List.setIfInBounds_toArray, List.set_cons_zero, List.set_cons_succ, i64_w, i32_w]
         rfl
        refine one_ (i := 7) (N := some 47) #[true, true, true, true, true, true, true, true, false, false, false] rfl rfl (one_of HT_.out (by kernel_rfl)) (by decide) (fun K hK => ?_)
        refine goes_ Tryz.func38 (by kernel_rfl) rfl #[.int .u32 ((rd_T25 l0 x9_2).f1), .int .i64 a1] (by rfl) rfl rfl (by (try simp only [List.map_toArray, List.map_cons, List.map_nil]); first | done | rfl | (simp only [List.length_drop, List.length_take]; rfl)) ?_
        with_reducible refine (hypercuberef01_Without.calls k2 ((rd_T25 l0 x9_2).f1) a1 t442 _ A19.out).mono ?_
        rintro e w27 ⟨rfl, hb⟩
        refine ⟨_, rfl, ?_⟩
        have n0_ := Aside0.mk (Kd.R_below (by (with_reducible repeat (first | apply Kd.R_alloc | apply Kd.R_drewN | apply Kd.R_drew)); exact HO_8.out) hb)
        have n1_ := Aside0.mk (blk_below (g := gb440) (o := .cells #[.int .u32 ((rd_T25 l0 x9_2).f0), .int .u32 ((rd_T25 l0 x9_2).f1)] 25 (0, 0)) (by (with_reducible repeat (first | refine blk_drewN ?_ _ | refine blk_drew ?_ | refine blk_alloc ?_ _)); exact BK440.out) hb)
        have n2_ := Aside0.mk (below_step (by repeat (first | (with_reducible first | exact HB.out | apply below_alloc | apply pw_below_drewN | apply below_drew1 | refine below_set ?_ GE440.out) | exact HB.out)) hb)
        clear HO_8
        clear BK440
        clear HB
        have HO_8 := n0_
        have BK440 := n1_
        have HB := n2_
        clear n0_ n1_ n2_
        (try clear hb)
        (try clear hb2)
        (try clear hk)
        (try clear hi)
        refine hK.out _ _ ⟨(blk_cell BK440.out 0).trans rfl, (blk_cell BK440.out 1).trans rfl⟩ (fun hHeld => ?_)
        clear hK K
        refine norm_ (a' := ?_) ?_ ?_
        rotate_left
        ·show Act.put _ (some 47) _ = _
         simp only [Act.put, List.setIfInBounds_toArray, List.set_cons_zero, List.set_cons_succ, i64_w, i32_w]
         rfl
        refine pure_ (i := 8) (N := some 48) (v := ?_) (a' := ?_) #[true, true, true, true, true, true, true, true, true, false, false] rfl rfl (any_of HT_.out (by kernel_rfl)) (fun _ _ _ h => h) (Or.inl ⟨by rfl, ?_⟩) ?_ ?_
        rotate_left
        ·intro w'
         go_simp
         with_reducible rfl
        rotate_left
        ·simp only [Act.put, List.setIfInBounds_toArray, List.set_cons_zero, List.set_cons_succ, i64_w, i32_w]
         rfl
        refine one_ (i := 9) (N := some 49) #[true, true, true, true, true, true, true, true, true, true, false] rfl rfl (one_of HT_.out (by kernel_rfl)) (by decide) (fun K hK => ?_)
        refine Kd.R_lit_step k25 _ 25 ?hg (N := 49) ?hd (xs := ([(⟨t441, t442⟩ : S25)] : List (S25))) (inner := [.int .u32 t441, .int .u32 t442]) (ok := fun _ => True) (okp := fun _ => True) ?hr ?hp (fun _ hk => hk) trivial (Below.refl _ _) (Nat.le_refl _) (by simp) ?_; (case hd => rfl); (case hg => rfl); (case hr => first | (go_simp; done) | (go_simp; rfl)); (case hp => exact (Reps.c2 (show Kd.M k25 _ _ _ (⟨t441, t442⟩ : S25) [.int .u32 t441, .int .u32 t442] from (k25_mkM _ _ _ (⟨t441, t442⟩ : S25) )) (Reps.none _ _)))
        intro v444 w28 ho29 hb hg_ hnew_
        clear hg_ hnew_
        (first | rw [← Ny443.out] at ho29 | (simp only [Int.reduceToNat] at ho29; rw [← Ny443.out] at ho29))
        have n0_ := Aside0.mk (Kd.R_elder' (by (with_reducible repeat (first | apply Kd.R_alloc | apply Kd.R_drewN | apply Kd.R_drew)); exact HO_8.out) (Kd.R_base ho29) hb)
        have n1_ := Aside0.mk (Kd.R_lower (Kd.R_newB (Kd.R_new' ho29 (Kd.R_lt (by (with_reducible repeat (first | apply Kd.R_alloc | apply Kd.R_drewN | apply Kd.R_drew)); exact HO_8.out))) (g := gb440) (o := .cells #[.int .u32 ((rd_T25 l0 x9_2).f0), .int .u32 ((rd_T25 l0 x9_2).f1)] 25 (0, 0)) (by (with_reducible repeat (first | refine blk_drewN ?_ _ | refine blk_drew ?_ | refine blk_alloc ?_ _)); exact BK440.out)) (below_size (by repeat (first | (with_reducible first | exact HB.out | apply below_alloc | apply pw_below_drewN | apply below_drew1 | refine below_set ?_ GE440.out) | exact HB.out))))
        have n2_ := Aside0.mk (blk_below (g := gb440) (o := .cells #[.int .u32 ((rd_T25 l0 x9_2).f0), .int .u32 ((rd_T25 l0 x9_2).f1)] 25 (0, 0)) (by (with_reducible repeat (first | refine blk_drewN ?_ _ | refine blk_drew ?_ | refine blk_alloc ?_ _)); exact BK440.out) hb)
        have n3_ := Aside0.mk (below_step (by repeat (first | (with_reducible first | exact HB.out | apply below_alloc | apply pw_below_drewN | apply below_drew1 | refine below_set ?_ GE440.out) | exact HB.out)) hb)
        clear HO_8
        clear BK440
        clear HB
        have HO_8 := n0_
        have HO445 := n1_
        have BK440 := n2_
        have HB := n3_
        clear n0_ n1_ n2_ n3_
        clear hb ho29
        refine hK.out _ _ ⟨(blk_cell BK440.out 0).trans rfl, (blk_cell BK440.out 1).trans rfl⟩ (fun hHeld => ?_)
        clear hK K
        refine norm_ (a' := ?_) ?_ ?_
        rotate_left
        ·show Act.put _ (some 49) _ = _
         simp only [Act.put, List.setIfInBounds_toArray, List.set_cons_zero, List.set_cons_succ, i64_w, i32_w]
         rfl
        refine pure_ (i := 10) (N := some 11) (v := ?_) (a' := ?_) #[true, true, true, true, true, true, true, true, true, true, true] rfl rfl (any_of HT_.out (by kernel_rfl)) (fun _ _ _ h => h) (Or.inl ⟨by rfl, ?_⟩) ?_ ?_
        rotate_left
        ·intro w'
         go_simp
         with_reducible rfl
        rotate_left
        ·simp only [Act.put, List.setIfInBounds_toArray, List.set_cons_zero, List.set_cons_succ, i64_w, i32_w]
         rfl
        refine done_ (done_of HT_.out (by kernel_rfl)) ?_
        go_upto_if 55 with (first | ((with_reducible refine gate_dst (N := 51) rfl ?_); refine Kd.R_lit k25 _ 25 ?hg (N := 51) ?hd (xs := ([(⟨0, 0⟩ : S25)] : List (S25))) (inner := [.int .u32 0, .int .u32 0]) (ok := fun _ => True) (okp := fun _ => True) ?hr ?hp (fun _ hk => hk) trivial (Below.refl _ _) (Nat.le_refl _) (by simp) ?_; (case hd => rfl); (case hg => rfl); (case hr => first | (go_simp; done) | (go_simp; rfl)); (case hp => exact (Reps.c2 (show Kd.M k25 _ _ _ (⟨0, 0⟩ : S25) [.int .u32 0, .int .u32 0] from (k25_mkM _ _ _ (⟨0, 0⟩ : S25) )) (Reps.none _ _))); intro v447 w30 ho31 hb hg_ hnew_; clear hg_ hnew_; (first | rw [← Ny446.out] at ho31 | (simp only [Int.reduceToNat] at ho31; rw [← Ny446.out] at ho31)); have n0_ := Aside0.mk (Kd.R_elder' (by (with_reducible repeat (first | apply Kd.R_alloc | apply Kd.R_drewN | apply Kd.R_drew)); exact HO_8.out) (Kd.R_base ho31) hb); have n1_ := Aside0.mk (Kd.R_elder' (by (with_reducible repeat (first | apply Kd.R_alloc | apply Kd.R_drewN | apply Kd.R_drew)); exact HO445.out) (Kd.R_base ho31) hb); have n2_ := Aside0.mk (Kd.R_lower (Kd.R_newB (Kd.R_new' (Kd.R_new' ho31 (Kd.R_lt (by (with_reducible repeat (first | apply Kd.R_alloc | apply Kd.R_drewN | apply Kd.R_drew)); exact HO_8.out))) (Kd.R_lt (by (with_reducible repeat (first | apply Kd.R_alloc | apply Kd.R_drewN | apply Kd.R_drew)); exact HO445.out))) (g := gb440) (o := .cells #[.int .u32 ((rd_T25 l0 x9_2).f0), .int .u32 ((rd_T25 l0 x9_2).f1)] 25 (0, 0)) (by (with_reducible repeat (first | refine blk_drewN ?_ _ | refine blk_drew ?_ | refine blk_alloc ?_ _)); exact BK440.out)) (below_size (by repeat (first | (with_reducible first | exact HB.out | apply below_alloc | apply pw_below_drewN | apply below_drew1 | refine below_set ?_ GE440.out) | exact HB.out)))); have n3_ := Aside0.mk (blk_below (g := gb440) (o := .cells #[.int .u32 ((rd_T25 l0 x9_2).f0), .int .u32 ((rd_T25 l0 x9_2).f1)] 25 (0, 0)) (by (with_reducible repeat (first | refine blk_drewN ?_ _ | refine blk_drew ?_ | refine blk_alloc ?_ _)); exact BK440.out) hb); have n4_ := Aside0.mk (below_step (by repeat (first | (with_reducible first | exact HB.out | apply below_alloc | apply pw_below_drewN | apply below_drew1 | refine below_set ?_ GE440.out) | exact HB.out)) hb); clear HO_8; clear HO445; clear BK440; clear HB; have HO_8 := n0_; have HO445 := n1_; have HO448 := n2_; have BK440 := n3_; have HB := n4_; clear n0_ n1_ n2_ n3_ n4_; clear hb ho31; have hcz32_0 : w30.cell? ⟨gb440, 0, none⟩ = some (.int .u32 ((rd_T25 l0 x9_2).f0)) := (blk_cell BK440.out 0).trans rfl; have hcz32_1 : w30.cell? ⟨gb440, 1, none⟩ = some (.int .u32 ((rd_T25 l0 x9_2).f1)) := (blk_cell BK440.out 1).trans rfl; have hfz32_0 := blk_frozen BK440.out 0; have hfz32_1 := blk_frozen BK440.out 1) | ((with_reducible refine gate_callee (f := 31) rfl ?_); refine goesL_ (some 55) rfl rfl Tryz.func31 (by kernel_rfl) rfl #[.int .u32 ((rd_T25 l0 x9_2).f0), .int .i64 a1] rfl (by (try simp only [List.map_toArray, List.map_cons, List.map_nil]); first | done | rfl | (simp only [List.length_drop, List.length_take]; rfl)) ?_; (with_reducible refine (hypercuberef01_Has.calls k2 ((rd_T25 l0 x9_2).f0) a1 t449 _ A20.out).mono ?_); rintro e w' ⟨rfl, ⟨nd, rfl⟩⟩; refine ⟨_, rfl, ?_⟩))
        (try simp only [Act.put, List.setIfInBounds_toArray, List.set_cons_zero, List.set_cons_succ])
        go_cut [12, 13] (fun v12 v13 wc => ∃ (kq : Nat) (x12_20 : List (S25)) (x13_20 : Int), v13 = .int .i64 x13_20 ∧ Aside0 (hypercuberef05_Put.j2 kq l0 a1 l2 x8_2 x9_2 y443 x12_20 x13_20 ((rd_T25 l0 x9_2).f0) ((rd_T25 l0 x9_2).f1) = some (r1, r2)) ∧ Aside0 (kq ≤ k2) ∧ Aside0 (Kd.R k25 25 wc w.heap.size (fun k_ => some k_ ≠ (v444 : Value).ownBlock ∧ some k_ ≠ (v12 : Value).ownBlock ∧ k_ ≠ gb440) u8 x8_2) ∧ Aside0 (Kd.R k25 25 wc w.heap.size (fun k_ => some k_ ≠ (u8 : Value).ownBlock ∧ some k_ ≠ (v12 : Value).ownBlock ∧ k_ ≠ gb440) v444 y443) ∧ Aside0 (Kd.R k25 25 wc w.heap.size (fun k_ => some k_ ≠ (u8 : Value).ownBlock ∧ some k_ ≠ (v444 : Value).ownBlock ∧ k_ ≠ gb440) v12 x12_20) ∧ Aside0 (wc.heap[gb440]? = some (.cells #[.int .u32 ((rd_T25 l0 x9_2).f0), .int .u32 ((rd_T25 l0 x9_2).f1)] 25 (0, 0))) ∧ Aside0 (Below w.heap.size w wc))
        case first =>
         have H := HC21.out
         clear HC21
         by_cases c33 : t449 = true
         ·subst c33
          have H1 : ((hypercuberef05_Of.f k2 l2).bind fun bt450 => (hypercuberef05_Put.j2 k2 l0 a1 l2 x8_2 x9_2 y443 bt450.1 bt450.2 ((rd_T25 l0 x9_2).f0) ((rd_T25 l0 x9_2).f1))) = some (r1, r2) := by rw [if_pos rfl] at H; exact H
          clear H
          have H := H1
          clear H1
          replace H := Option.bind_eq_some_iff.mp H
          obtain ⟨⟨t450, t451⟩, A340, H⟩ := H
          try dsimp only at H
          have A34 := Aside0.mk A340
          clear A340
          have H' := Aside0.mk H
          clear H
          go_wp2_with (first | ((with_reducible refine gate_callee (f := 39) rfl ?_); refine goesL_ (some 58) rfl rfl Tryz.func39 (by kernel_rfl) rfl #[.slice A2 l2.length c2] rfl (by (try simp only [List.map_toArray, List.map_cons, List.map_nil]); first | done | rfl | (simp only [List.length_drop, List.length_take]; rfl)) ?_; (with_reducible refine (hypercuberef05_Of.calls k2 _ _ l2 t450 t451 _ ?side1 ?side2 A34.out).mono ?_); (case side1 => repeat (first | exact (Kd.C_below HR2.out HB.out) | (with_reducible refine Kd.C_alloc ?_ _) | (with_reducible refine Kd.C_drewN ?_ _) | (with_reducible refine Kd.C_drew ?_))); (case side2 => exact HC2.out); rintro e w35 ⟨v452, rfl, ho0, hb⟩; refine ⟨_, rfl, ?_⟩; have n0_ := Aside0.mk (Kd.R_elder' (by (with_reducible repeat (first | apply Kd.R_alloc | apply Kd.R_drewN | apply Kd.R_drew)); exact HO_8.out) (Kd.R_base ho0) hb); have n1_ := Aside0.mk (Kd.R_elder' (by (with_reducible repeat (first | apply Kd.R_alloc | apply Kd.R_drewN | apply Kd.R_drew)); exact HO445.out) (Kd.R_base ho0) hb); have n2_ := Aside0.mk (Kd.R_elder' (by (with_reducible repeat (first | apply Kd.R_alloc | apply Kd.R_drewN | apply Kd.R_drew)); exact HO448.out) (Kd.R_base ho0) hb); have n3_ := Aside0.mk (Kd.R_lower (Kd.R_newB (Kd.R_new' (Kd.R_new' (Kd.R_new' ho0 (Kd.R_lt (by (with_reducible repeat (first | apply Kd.R_alloc | apply Kd.R_drewN | apply Kd.R_drew)); exact HO_8.out))) (Kd.R_lt (by (with_reducible repeat (first | apply Kd.R_alloc | apply Kd.R_drewN | apply Kd.R_drew)); exact HO445.out))) (Kd.R_lt (by (with_reducible repeat (first | apply Kd.R_alloc | apply Kd.R_drewN | apply Kd.R_drew)); exact HO448.out))) (g := gb440) (o := .cells #[.int .u32 ((rd_T25 l0 x9_2).f0), .int .u32 ((rd_T25 l0 x9_2).f1)] 25 (0, 0)) (by (with_reducible repeat (first | refine blk_drewN ?_ _ | refine blk_drew ?_ | refine blk_alloc ?_ _)); exact BK440.out)) (below_size (by repeat (first | (with_reducible first | exact HB.out | apply below_alloc | apply pw_below_drewN | apply below_drew1 | refine below_set ?_ GE440.out) | exact HB.out)))); have n4_ := Aside0.mk (blk_below (g := gb440) (o := .cells #[.int .u32 ((rd_T25 l0 x9_2).f0), .int .u32 ((rd_T25 l0 x9_2).f1)] 25 (0, 0)) (by (with_reducible repeat (first | refine blk_drewN ?_ _ | refine blk_drew ?_ | refine blk_alloc ?_ _)); exact BK440.out) hb); have n5_ := Aside0.mk (below_step (by repeat (first | (with_reducible first | exact HB.out | apply below_alloc | apply pw_below_drewN | apply below_drew1 | refine below_set ?_ GE440.out) | exact HB.out)) hb); clear HO_8; clear HO445; clear HO448; clear BK440; clear HB; have HO_8 := n0_; have HO445 := n1_; have HO448 := n2_; have HO453 := n3_; have BK440 := n4_; have HB := n5_; clear n0_ n1_ n2_ n3_ n4_ n5_; (try clear hb); (try clear hb2); (try clear hk); (try clear hi); (try clear ho0)))
          go_meet
          case rel => exact ⟨_, (t450), (t451), (by first | rfl | (simp; done) | (simp [*]; done)), H', ⟨by have := HJ3.out; have := HK2.out; first | omega | exact Nat.le_refl _⟩, ⟨by (with_reducible repeat (first | apply Kd.R_alloc | apply Kd.R_drewN | apply Kd.R_drew)); exact Kd.R_mono HO_8.out (fun _ hk => ⟨hk.1.1.2, ⟨hk.2, hk.1.1.1⟩⟩)⟩, ⟨by (with_reducible repeat (first | apply Kd.R_alloc | apply Kd.R_drewN | apply Kd.R_drew)); exact Kd.R_mono HO445.out (fun _ hk => ⟨hk.1.1.1.2, ⟨hk.2, hk.1.1.2⟩⟩)⟩, ⟨by (with_reducible repeat (first | apply Kd.R_alloc | apply Kd.R_drewN | apply Kd.R_drew)); exact Kd.R_mono HO453.out (fun _ hk => ⟨hk.1.1.1.2, ⟨hk.1.1.2, hk.2⟩⟩)⟩, ⟨by (with_reducible repeat (first | refine blk_drewN ?_ _ | refine blk_drew ?_ | refine blk_alloc ?_ _)); exact BK440.out⟩, ⟨by repeat (first | (with_reducible first | exact HB.out | apply below_alloc | apply pw_below_drewN | apply below_drew1 | refine below_set ?_ GE440.out) | exact HB.out)⟩⟩
         ·replace c33 := Bool.eq_false_iff.mpr c33
          subst c33
          have H1 : (hypercuberef05_Put.j2 k2 l0 a1 l2 x8_2 x9_2 y443 y446 0 ((rd_T25 l0 x9_2).f0) ((rd_T25 l0 x9_2).f1)) = some (r1, r2) := by rw [if_neg (show ¬ (false = true) by decide)] at H; exact H
          clear H
          have H := H1
          clear H1
          have H' := Aside0.mk H
          clear H
          go_wp2
          go_meet
          case rel => exact ⟨_, (y446), (0), (by first | rfl | (simp; done) | (simp [*]; done)), H', ⟨by have := HJ3.out; have := HK2.out; first | omega | exact Nat.le_refl _⟩, ⟨by (with_reducible repeat (first | apply Kd.R_alloc | apply Kd.R_drewN | apply Kd.R_drew)); exact Kd.R_mono HO_8.out (fun _ hk => ⟨hk.1.2, ⟨hk.2, hk.1.1⟩⟩)⟩, ⟨by (with_reducible repeat (first | apply Kd.R_alloc | apply Kd.R_drewN | apply Kd.R_drew)); exact Kd.R_mono HO445.out (fun _ hk => ⟨hk.1.1.2, ⟨hk.2, hk.1.2⟩⟩)⟩, ⟨by (with_reducible repeat (first | apply Kd.R_alloc | apply Kd.R_drewN | apply Kd.R_drew)); exact Kd.R_mono HO448.out (fun _ hk => ⟨hk.1.1.2, ⟨hk.1.2, hk.2⟩⟩)⟩, ⟨by (with_reducible repeat (first | refine blk_drewN ?_ _ | refine blk_drew ?_ | refine blk_alloc ?_ _)); exact BK440.out⟩, ⟨by repeat (first | (with_reducible first | exact HB.out | apply below_alloc | apply pw_below_drewN | apply below_drew1 | refine below_set ?_ GE440.out) | exact HB.out)⟩⟩
        case rest =>
         clear HC21
         try clear c1
         try clear c2
         try clear p2
         try clear c3
         try clear p4
         try clear q4
         try clear hx4
         try clear c6
         try clear c7
         try clear c7b0
         try clear c9
         try clear c9b0
         try clear c11
         try clear c15
         try clear c16
         try clear c16b0
         try clear c17
         try clear c17b0
         try clear c22
         try clear c31
         try clear c33
         try clear hcz23_0
         try clear hcz23_1
         try clear hcz32_0
         try clear hcz32_1
         try clear hfz23_0
         try clear hfz23_1
         try clear hfz32_0
         try clear hfz32_1
         try clear hx439_0
         try clear hx439_1
         try clear p2
         try clear p439
         try clear q439
         obtain ⟨kq, x12_20, x13_20, rfl, HA, HJ20, HO_8, HO_11, HO_12, BK440, HB⟩ := hcut
         cases kq with
         | zero => exact absurd HA.out (by simp [hypercuberef05_Put.j2])
         | succ kj20 =>
          have H := HA.out
          clear HA
          simp only [hypercuberef05_Put.j2] at H
          replace H := Option.bind_eq_some_iff.mp H
          obtain ⟨t454, A360, H⟩ := H
          try dsimp only at H
          have A36 := Aside0.mk A360
          clear A360
          have HC37 := Aside0.mk H
          clear H
          have hcz38_0 : wc.cell? ⟨gb440, 0, none⟩ = some (.int .u32 ((rd_T25 l0 x9_2).f0)) := (blk_cell BK440.out 0).trans rfl
          have hcz38_1 : wc.cell? ⟨gb440, 1, none⟩ = some (.int .u32 ((rd_T25 l0 x9_2).f1)) := (blk_cell BK440.out 1).trans rfl
          have hfz38_0 := blk_frozen BK440.out 0
          have hfz38_1 := blk_frozen BK440.out 1
          go_upto_if 64 with (first | ((with_reducible refine gate_callee (f := 31) rfl ?_); refine goesL_ (some 64) rfl rfl Tryz.func31 (by kernel_rfl) rfl #[.int .u32 ((rd_T25 l0 x9_2).f1), .int .i64 a1] rfl (by (try simp only [List.map_toArray, List.map_cons, List.map_nil]); first | done | rfl | (simp only [List.length_drop, List.length_take]; rfl)) ?_; (with_reducible refine (hypercuberef01_Has.calls kj20 ((rd_T25 l0 x9_2).f1) a1 t454 _ A36.out).mono ?_); rintro e w' ⟨rfl, ⟨nd, rfl⟩⟩; refine ⟨_, rfl, ?_⟩))
          (try simp only [Act.put, List.setIfInBounds_toArray, List.set_cons_zero, List.set_cons_succ])
          go_cut [12, 13] (fun v12 v13 wc => ∃ (kq : Nat) (x12_36 : List (S25)) (x13_36 : Int), v13 = .int .i64 x13_36 ∧ Aside0 (hypercuberef05_Put.j3 kq l0 a1 l2 x8_2 x9_2 y443 x12_36 x13_36 = some (r1, r2)) ∧ Aside0 (kq ≤ kj20) ∧ Aside0 (Kd.R k25 25 wc w.heap.size (fun k_ => some k_ ≠ (v444 : Value).ownBlock ∧ some k_ ≠ (v12 : Value).ownBlock ∧ k_ ≠ gb440) u8 x8_2) ∧ Aside0 (Kd.R k25 25 wc w.heap.size (fun k_ => some k_ ≠ (u8 : Value).ownBlock ∧ some k_ ≠ (v12 : Value).ownBlock ∧ k_ ≠ gb440) v444 y443) ∧ Aside0 (Kd.R k25 25 wc w.heap.size (fun k_ => some k_ ≠ (u8 : Value).ownBlock ∧ some k_ ≠ (v444 : Value).ownBlock ∧ k_ ≠ gb440) v12 x12_36) ∧ Aside0 (wc.heap[gb440]? = some (.cells #[.int .u32 ((rd_T25 l0 x9_2).f0), .int .u32 ((rd_T25 l0 x9_2).f1)] 25 (0, 0))) ∧ Aside0 (Below w.heap.size w wc))
          case first =>
           have H := HC37.out
           clear HC37
           by_cases c39 : t454 = true
           ·subst c39
            have H1 : ((hypercuberef05_OfZero.f kj20 l2).bind fun bt455 => (hypercuberef05_Put.j3 kj20 l0 a1 l2 x8_2 x9_2 y443 bt455.1 bt455.2)) = some (r1, r2) := by rw [if_pos rfl] at H; exact H
            clear H
            have H := H1
            clear H1
            replace H := Option.bind_eq_some_iff.mp H
            obtain ⟨⟨t455, t456⟩, A400, H⟩ := H
            replace H : (hypercuberef05_Put.j3 kj20 l0 a1 l2 x8_2 x9_2 y443 t455 t456) = some (r1, r2) := H
            have A40 := Aside0.mk A400
            clear A400
            have H' := Aside0.mk H
            clear H
            go_wp2_with (first | ((with_reducible refine gate_callee (f := 40) rfl ?_); refine goesL_ (some 67) rfl rfl Tryz.func40 (by kernel_rfl) rfl #[.slice A2 l2.length c2] rfl (by (try simp only [List.map_toArray, List.map_cons, List.map_nil]); first | done | rfl | (simp only [List.length_drop, List.length_take]; rfl)) ?_; (with_reducible refine (hypercuberef05_OfZero.calls kj20 _ _ l2 t455 t456 _ ?side1 ?side2 A40.out).mono ?_); (case side1 => repeat (first | exact (Kd.C_below HR2.out HB.out) | (with_reducible refine Kd.C_alloc ?_ _) | (with_reducible refine Kd.C_drewN ?_ _) | (with_reducible refine Kd.C_drew ?_))); (case side2 => exact HC2.out); rintro e w41 ⟨v457, rfl, ho0, hb⟩; refine ⟨_, rfl, ?_⟩; have n0_ := Aside0.mk (Kd.R_elder' (by (with_reducible repeat (first | apply Kd.R_alloc | apply Kd.R_drewN | apply Kd.R_drew)); exact HO_8.out) (Kd.R_base ho0) hb); have n1_ := Aside0.mk (Kd.R_elder' (by (with_reducible repeat (first | apply Kd.R_alloc | apply Kd.R_drewN | apply Kd.R_drew)); exact HO_11.out) (Kd.R_base ho0) hb); have n2_ := Aside0.mk (Kd.R_elder' (by (with_reducible repeat (first | apply Kd.R_alloc | apply Kd.R_drewN | apply Kd.R_drew)); exact HO_12.out) (Kd.R_base ho0) hb); have n3_ := Aside0.mk (Kd.R_lower (Kd.R_newB (Kd.R_new' (Kd.R_new' (Kd.R_new' ho0 (Kd.R_lt (by (with_reducible repeat (first | apply Kd.R_alloc | apply Kd.R_drewN | apply Kd.R_drew)); exact HO_8.out))) (Kd.R_lt (by (with_reducible repeat (first | apply Kd.R_alloc | apply Kd.R_drewN | apply Kd.R_drew)); exact HO_11.out))) (Kd.R_lt (by (with_reducible repeat (first | apply Kd.R_alloc | apply Kd.R_drewN | apply Kd.R_drew)); exact HO_12.out))) (g := gb440) (o := .cells #[.int .u32 ((rd_T25 l0 x9_2).f0), .int .u32 ((rd_T25 l0 x9_2).f1)] 25 (0, 0)) (by (with_reducible repeat (first | refine blk_drewN ?_ _ | refine blk_drew ?_ | refine blk_alloc ?_ _)); exact BK440.out)) (below_size (by repeat (first | (with_reducible first | exact HB.out | apply below_alloc | apply pw_below_drewN | apply below_drew1 | refine below_set ?_ GE440.out) | exact HB.out)))); have n4_ := Aside0.mk (blk_below (g := gb440) (o := .cells #[.int .u32 ((rd_T25 l0 x9_2).f0), .int .u32 ((rd_T25 l0 x9_2).f1)] 25 (0, 0)) (by (with_reducible repeat (first | refine blk_drewN ?_ _ | refine blk_drew ?_ | refine blk_alloc ?_ _)); exact BK440.out) hb); have n5_ := Aside0.mk (below_step (by repeat (first | (with_reducible first | exact HB.out | apply below_alloc | apply pw_below_drewN | apply below_drew1 | refine below_set ?_ GE440.out) | exact HB.out)) hb); clear HO_8; clear HO_11; clear HO_12; clear BK440; clear HB; have HO_8 := n0_; have HO_11 := n1_; have HO_12 := n2_; have HO458 := n3_; have BK440 := n4_; have HB := n5_; clear n0_ n1_ n2_ n3_ n4_ n5_; (try clear hb); (try clear hb2); (try clear hk); (try clear hi); (try clear ho0)))
            go_meet
            case rel => exact ⟨_, (t455), (t456), (by first | rfl | (simp; done) | (simp [*]; done)), H', ⟨by have := HJ3.out; have := HK2.out; have := HJ20.out; first | omega | exact Nat.le_refl _⟩, ⟨by (with_reducible repeat (first | apply Kd.R_alloc | apply Kd.R_drewN | apply Kd.R_drew)); exact Kd.R_mono HO_8.out (fun _ hk => ⟨hk.1.1, ⟨hk.2, hk.1.2.2⟩⟩)⟩, ⟨by (with_reducible repeat (first | apply Kd.R_alloc | apply Kd.R_drewN | apply Kd.R_drew)); exact Kd.R_mono HO_11.out (fun _ hk => ⟨hk.1.1, ⟨hk.2, hk.1.2.2⟩⟩)⟩, ⟨by (with_reducible repeat (first | apply Kd.R_alloc | apply Kd.R_drewN | apply Kd.R_drew)); exact Kd.R_mono HO458.out (fun _ hk => ⟨hk.1.1.1.2, ⟨hk.1.1.2, hk.2⟩⟩)⟩, ⟨by (with_reducible repeat (first | refine blk_drewN ?_ _ | refine blk_drew ?_ | refine blk_alloc ?_ _)); exact BK440.out⟩, ⟨by repeat (first | (with_reducible first | exact HB.out | apply below_alloc | apply pw_below_drewN | apply below_drew1 | refine below_set ?_ GE440.out) | exact HB.out)⟩⟩
           ·replace c39 := Bool.eq_false_iff.mpr c39
            subst c39
            have H1 : (hypercuberef05_Put.j3 kj20 l0 a1 l2 x8_2 x9_2 y443 x12_20 x13_20) = some (r1, r2) := by rw [if_neg (show ¬ (false = true) by decide)] at H; exact H
            clear H
            have H := H1
            clear H1
            have H' := Aside0.mk H
            clear H
            go_wp2
            go_meet
            case rel => exact ⟨_, (x12_20), (x13_20), (by first | rfl | (simp; done) | (simp [*]; done)), H', ⟨by have := HJ3.out; have := HK2.out; have := HJ20.out; first | omega | exact Nat.le_refl _⟩, ⟨by (with_reducible repeat (first | apply Kd.R_alloc | apply Kd.R_drewN | apply Kd.R_drew)); exact HO_8.out⟩, ⟨by (with_reducible repeat (first | apply Kd.R_alloc | apply Kd.R_drewN | apply Kd.R_drew)); exact HO_11.out⟩, ⟨by (with_reducible repeat (first | apply Kd.R_alloc | apply Kd.R_drewN | apply Kd.R_drew)); exact HO_12.out⟩, ⟨by (with_reducible repeat (first | refine blk_drewN ?_ _ | refine blk_drew ?_ | refine blk_alloc ?_ _)); exact BK440.out⟩, ⟨by repeat (first | (with_reducible first | exact HB.out | apply below_alloc | apply pw_below_drewN | apply below_drew1 | refine below_set ?_ GE440.out) | exact HB.out)⟩⟩
          case rest =>
           clear HC37
           try clear c1
           try clear c2
           try clear p2
           try clear c3
           try clear c4
           try clear p4
           try clear q4
           try clear hx4
           try clear c6
           try clear c7
           try clear c7b0
           try clear c9
           try clear c9b0
           try clear c11
           try clear c15
           try clear c16
           try clear c16b0
           try clear c17
           try clear c17b0
           try clear c22
           try clear c31
           try clear c33
           try clear c38
           try clear c39
           try clear c40
           try clear hcz23_0
           try clear hcz23_1
           try clear hcz32_0
           try clear hcz32_1
           try clear hcz38_0
           try clear hcz38_1
           try clear hfz23_0
           try clear hfz23_1
           try clear hfz32_0
           try clear hfz32_1
           try clear hfz38_0
           try clear hfz38_1
           try clear hx439_0
           try clear hx439_1
           try clear p2
           try clear p4
           try clear p439
           try clear q4
           try clear q439
           obtain ⟨kq, x12_36, x13_36, rfl, HA, HJ36, HO_8, HO_11, HO_12, BK440, HB⟩ := hcut
           cases kq with
           | zero => exact absurd HA.out (by simp [hypercuberef05_Put.j3])
           | succ kj36 =>
            have H := HA.out
            clear HA
            simp only [hypercuberef05_Put.j3] at H
            have HC42 := Aside0.mk H
            clear H
            go_upto_if 71 with (fail)
            go_cut [11, 13] (fun v11 v13 wc => ∃ (kq : Nat) (x11_41 : List (S25)) (x13_41 : Int), v13 = .int .i64 x13_41 ∧ Aside0 (hypercuberef05_Put.j4 kq l0 a1 l2 x8_2 x9_2 x11_41 x13_41 = some (r1, r2)) ∧ Aside0 (kq ≤ kj36) ∧ Aside0 (Kd.R k25 25 wc w.heap.size (fun k_ => some k_ ≠ (v11 : Value).ownBlock ∧ k_ ≠ gb440) u8 x8_2) ∧ Aside0 (Kd.R k25 25 wc w.heap.size (fun k_ => some k_ ≠ (u8 : Value).ownBlock ∧ k_ ≠ gb440) v11 x11_41) ∧ Aside0 (wc.heap[gb440]? = some (.cells #[.int .u32 ((rd_T25 l0 x9_2).f0), .int .u32 ((rd_T25 l0 x9_2).f1)] 25 (0, 0))) ∧ Aside0 (Below w.heap.size w wc))
            case first =>
             have H := HC42.out
             clear HC42
             by_cases c43 : x13_36 = 0
             ·rw [if_pos c43] at H
              have c43b0 : (x13_36 == 0) = true := beq_iff_eq.mpr c43
              have c43b1 : (x13_36 != 0) = false := bne_eq_false_iff_eq.mpr c43
              clear c43
              (first | rw [c43b0] | (simp only [i64_w, i32_w]; rw [c43b0]) | skip)
              replace H := Option.bind_eq_some_iff.mp H
              obtain ⟨⟨t459, t460⟩, A440, H⟩ := H
              replace H : (hypercuberef05_Put.j4 kj36 l0 a1 l2 x8_2 x9_2 t459 t460) = some (r1, r2) := H
              have A44 := Aside0.mk A440
              clear A440
              have H' := Aside0.mk H
              clear H
              obtain ⟨Ao45, co45, eo45⟩ := Kd.R_slice HO_11.out
              subst eo45
              obtain ⟨Ao46, co46, eo46⟩ := Kd.R_slice HO_12.out
              subst eo46
              go_wp2_with (first | ((with_reducible refine gate_callee (f := 41) rfl ?_); refine goesL_ (some 75) rfl rfl Tryz.func41 (by kernel_rfl) rfl #[.slice Ao45 y443.length co45, .slice Ao46 x12_36.length co46] rfl (by (try simp only [List.map_toArray, List.map_cons, List.map_nil]); first | done | rfl | (simp only [List.length_drop, List.length_take]; rfl)) ?_; (with_reducible refine (hypercuberef05_Meet.calls kj36 _ _ y443 _ _ x12_36 t459 t460 _ ?side1 ?side2 ?side3 ?side4 A44.out).mono ?_); (case side1 => repeat (first | exact (Kd.R_reads' HO_11.out).2.2 | (with_reducible refine Kd.C_alloc ?_ _) | (with_reducible refine Kd.C_drewN ?_ _) | (with_reducible refine Kd.C_drew ?_))); (case side2 => exact (Kd.R_reads' HO_11.out).2.1); (case side3 => repeat (first | exact (Kd.R_reads' HO_12.out).2.2 | (with_reducible refine Kd.C_alloc ?_ _) | (with_reducible refine Kd.C_drewN ?_ _) | (with_reducible refine Kd.C_drew ?_))); (case side4 => exact (Kd.R_reads' HO_12.out).2.1); rintro e w47 ⟨v461, rfl, ho0, hb⟩; refine ⟨_, rfl, ?_⟩; have n0_ := Aside0.mk (Kd.R_elder' (by (with_reducible repeat (first | apply Kd.R_alloc | apply Kd.R_drewN | apply Kd.R_drew)); exact HO_8.out) (Kd.R_base ho0) hb); have n1_ := Aside0.mk (Kd.R_elder' (by (with_reducible repeat (first | apply Kd.R_alloc | apply Kd.R_drewN | apply Kd.R_drew)); exact HO_11.out) (Kd.R_base ho0) hb); have n2_ := Aside0.mk (Kd.R_elder' (by (with_reducible repeat (first | apply Kd.R_alloc | apply Kd.R_drewN | apply Kd.R_drew)); exact HO_12.out) (Kd.R_base ho0) hb); have n3_ := Aside0.mk (Kd.R_lower (Kd.R_newB (Kd.R_new' (Kd.R_new' (Kd.R_new' ho0 (Kd.R_lt (by (with_reducible repeat (first | apply Kd.R_alloc | apply Kd.R_drewN | apply Kd.R_drew)); exact HO_8.out))) (Kd.R_lt (by (with_reducible repeat (first | apply Kd.R_alloc | apply Kd.R_drewN | apply Kd.R_drew)); exact HO_11.out))) (Kd.R_lt (by (with_reducible repeat (first | apply Kd.R_alloc | apply Kd.R_drewN | apply Kd.R_drew)); exact HO_12.out))) (g := gb440) (o := .cells #[.int .u32 ((rd_T25 l0 x9_2).f0), .int .u32 ((rd_T25 l0 x9_2).f1)] 25 (0, 0)) (by (with_reducible repeat (first | refine blk_drewN ?_ _ | refine blk_drew ?_ | refine blk_alloc ?_ _)); exact BK440.out)) (below_size (by repeat (first | (with_reducible first | exact HB.out | apply below_alloc | apply pw_below_drewN | apply below_drew1 | refine below_set ?_ GE440.out) | exact HB.out)))); have n4_ := Aside0.mk (blk_below (g := gb440) (o := .cells #[.int .u32 ((rd_T25 l0 x9_2).f0), .int .u32 ((rd_T25 l0 x9_2).f1)] 25 (0, 0)) (by (with_reducible repeat (first | refine blk_drewN ?_ _ | refine blk_drew ?_ | refine blk_alloc ?_ _)); exact BK440.out) hb); have n5_ := Aside0.mk (below_step (by repeat (first | (with_reducible first | exact HB.out | apply below_alloc | apply pw_below_drewN | apply below_drew1 | refine below_set ?_ GE440.out) | exact HB.out)) hb); clear HO_8; clear HO_11; clear HO_12; clear BK440; clear HB; have HO_8 := n0_; have HO_11 := n1_; have HO_12 := n2_; have HO462 := n3_; have BK440 := n4_; have HB := n5_; clear n0_ n1_ n2_ n3_ n4_ n5_; (try clear hb); (try clear hb2); (try clear hk); (try clear hi); (try clear ho0)))
              go_meet
              case rel => exact ⟨_, (t459), (t460), (by first | rfl | (simp; done) | (simp [*]; done)), H', ⟨by have := HJ3.out; have := HK2.out; have := HJ20.out; have := HJ36.out; first | omega | exact Nat.le_refl _⟩, ⟨by (with_reducible repeat (first | apply Kd.R_alloc | apply Kd.R_drewN | apply Kd.R_drew)); exact Kd.R_mono HO_8.out (fun _ hk => ⟨hk.2, hk.1.2.2⟩)⟩, ⟨by (with_reducible repeat (first | apply Kd.R_alloc | apply Kd.R_drewN | apply Kd.R_drew)); exact Kd.R_mono HO462.out (fun _ hk => ⟨hk.1.1.1.2, hk.2⟩)⟩, ⟨by (with_reducible repeat (first | refine blk_drewN ?_ _ | refine blk_drew ?_ | refine blk_alloc ?_ _)); exact BK440.out⟩, ⟨by repeat (first | (with_reducible first | exact HB.out | apply below_alloc | apply pw_below_drewN | apply below_drew1 | refine below_set ?_ GE440.out) | exact HB.out)⟩⟩
             ·rw [if_neg c43] at H
              have c43b0 : (x13_36 == 0) = false := beq_eq_false_iff_ne.mpr c43
              have c43b1 : (x13_36 != 0) = true := bne_iff_ne.mpr c43
              (first | rw [c43b0] | (simp only [i64_w, i32_w]; rw [c43b0]) | skip)
              have H' := Aside0.mk H
              clear H
              go_wp2
              go_meet
              case rel => exact ⟨_, (y443), (x13_36), (by first | rfl | (simp; done) | (simp [*]; done)), H', ⟨by have := HJ3.out; have := HK2.out; have := HJ20.out; have := HJ36.out; first | omega | exact Nat.le_refl _⟩, ⟨by (with_reducible repeat (first | apply Kd.R_alloc | apply Kd.R_drewN | apply Kd.R_drew)); exact Kd.R_mono HO_8.out (fun _ hk => ⟨hk.1, hk.2.2⟩)⟩, ⟨by (with_reducible repeat (first | apply Kd.R_alloc | apply Kd.R_drewN | apply Kd.R_drew)); exact Kd.R_mono HO_11.out (fun _ hk => ⟨hk.1, hk.2.2⟩)⟩, ⟨by (with_reducible repeat (first | refine blk_drewN ?_ _ | refine blk_drew ?_ | refine blk_alloc ?_ _)); exact BK440.out⟩, ⟨by repeat (first | (with_reducible first | exact HB.out | apply below_alloc | apply pw_below_drewN | apply below_drew1 | refine below_set ?_ GE440.out) | exact HB.out)⟩⟩
            case rest =>
             clear HC42
             try clear c1
             try clear c2
             try clear p2
             try clear c3
             try clear c4
             try clear p4
             try clear q4
             try clear hx4
             try clear c6
             try clear c7
             try clear c7b0
             try clear c9
             try clear c9b0
             try clear c11
             try clear c15
             try clear c16
             try clear c16b0
             try clear c17
             try clear c17b0
             try clear c22
             try clear c31
             try clear c33
             try clear c38
             try clear c39
             try clear c40
             try clear c41
             try clear c43
             try clear c43b0
             try clear c43b1
             try clear p43
             try clear q43
             try clear hx43
             try clear hcz23_0
             try clear hcz23_1
             try clear hcz32_0
             try clear hcz32_1
             try clear hcz38_0
             try clear hcz38_1
             try clear hfz23_0
             try clear hfz23_1
             try clear hfz32_0
             try clear hfz32_1
             try clear hfz38_0
             try clear hfz38_1
             try clear hx439_0
             try clear hx439_1
             try clear p2
             try clear p4
             try clear p439
             try clear q4
             try clear q439
             obtain ⟨kq, x11_41, x13_41, rfl, HA, HJ41, HO_8, HO_11, BK440, HB⟩ := hcut
             cases kq with
             | zero => exact absurd HA.out (by simp [hypercuberef05_Put.j4])
             | succ kj41 =>
              have H := HA.out
              clear HA
              simp only [hypercuberef05_Put.j4] at H
              by_cases c48 : x13_41 = 0
              ·rw [if_pos c48] at H
               have c48b0 : (x13_41 == 0) = true := beq_iff_eq.mpr c48
               have c48b1 : (x13_41 != 0) = false := bne_eq_false_iff_eq.mpr c48
               clear c48
               replace H := Option.bind_eq_some_iff.mp H
               obtain ⟨⟨t463, t464⟩, A490, H⟩ := H
               try dsimp only at H
               have A49 := Aside0.mk A490
               clear A490
               by_cases c50 : t464 = 0
               ·rw [if_pos c50] at H
                have c50b0 : (t464 == 0) = true := beq_iff_eq.mpr c50
                have c50b1 : (t464 != 0) = false := bne_eq_false_iff_eq.mpr c50
                clear c50
                have H' := Aside0.mk H
                clear H
                obtain ⟨Ao51, co51, eo51⟩ := Kd.R_slice HO_8.out
                subst eo51
                obtain ⟨Ao52, co52, eo52⟩ := Kd.R_slice HO_11.out
                subst eo52
                go_wp2_with (first | ((with_reducible refine gate_callee (f := 42) rfl ?_); refine goesL_ (some 83) rfl rfl Tryz.func42 (by kernel_rfl) rfl #[.slice Ao51 x8_2.length co51, .slice Ao52 x11_41.length co52] rfl (by (try simp only [List.map_toArray, List.map_cons, List.map_nil]); first | done | rfl | (simp only [List.length_drop, List.length_take]; rfl)) ?_; (with_reducible refine (hypercuberef05_Join.calls kj41 _ _ x8_2 _ _ x11_41 t463 t464 _ ?side1 ?side2 ?side3 ?side4 A49.out).mono ?_); (case side1 => repeat (first | exact (Kd.R_reads' HO_8.out).2.2 | (with_reducible refine Kd.C_alloc ?_ _) | (with_reducible refine Kd.C_drewN ?_ _) | (with_reducible refine Kd.C_drew ?_))); (case side2 => exact (Kd.R_reads' HO_8.out).2.1); (case side3 => repeat (first | exact (Kd.R_reads' HO_11.out).2.2 | (with_reducible refine Kd.C_alloc ?_ _) | (with_reducible refine Kd.C_drewN ?_ _) | (with_reducible refine Kd.C_drew ?_))); (case side4 => exact (Kd.R_reads' HO_11.out).2.1); rintro e w53 ⟨v465, rfl, ho0, hb⟩; refine ⟨_, rfl, ?_⟩; have n0_ := Aside0.mk (Kd.R_elder' (by (with_reducible repeat (first | apply Kd.R_alloc | apply Kd.R_drewN | apply Kd.R_drew)); exact HO_8.out) (Kd.R_base ho0) hb); have n1_ := Aside0.mk (Kd.R_elder' (by (with_reducible repeat (first | apply Kd.R_alloc | apply Kd.R_drewN | apply Kd.R_drew)); exact HO_11.out) (Kd.R_base ho0) hb); have n2_ := Aside0.mk (Kd.R_lower (Kd.R_newB (Kd.R_new' (Kd.R_new' ho0 (Kd.R_lt (by (with_reducible repeat (first | apply Kd.R_alloc | apply Kd.R_drewN | apply Kd.R_drew)); exact HO_8.out))) (Kd.R_lt (by (with_reducible repeat (first | apply Kd.R_alloc | apply Kd.R_drewN | apply Kd.R_drew)); exact HO_11.out))) (g := gb440) (o := .cells #[.int .u32 ((rd_T25 l0 x9_2).f0), .int .u32 ((rd_T25 l0 x9_2).f1)] 25 (0, 0)) (by (with_reducible repeat (first | refine blk_drewN ?_ _ | refine blk_drew ?_ | refine blk_alloc ?_ _)); exact BK440.out)) (below_size (by repeat (first | (with_reducible first | exact HB.out | apply below_alloc | apply pw_below_drewN | apply below_drew1 | refine below_set ?_ GE440.out) | exact HB.out)))); have n3_ := Aside0.mk (blk_below (g := gb440) (o := .cells #[.int .u32 ((rd_T25 l0 x9_2).f0), .int .u32 ((rd_T25 l0 x9_2).f1)] 25 (0, 0)) (by (with_reducible repeat (first | refine blk_drewN ?_ _ | refine blk_drew ?_ | refine blk_alloc ?_ _)); exact BK440.out) hb); have n4_ := Aside0.mk (below_step (by repeat (first | (with_reducible first | exact HB.out | apply below_alloc | apply pw_below_drewN | apply below_drew1 | refine below_set ?_ GE440.out) | exact HB.out)) hb); clear HO_8; clear HO_11; clear BK440; clear HB; have HO_8 := n0_; have HO_11 := n1_; have HO466 := n2_; have BK440 := n3_; have HB := n4_; clear n0_ n1_ n2_ n3_ n4_; (try clear hb); (try clear hb2); (try clear hk); (try clear hi); (try clear ho0)))
                go_roundg kj41
                case measure => have := HJ3.out; have := HK2.out; have := HJ20.out; have := HJ36.out; have := HJ41.out; omega
                case rel => exact ⟨(t463), (wrap64 (x9_2 + 1)), (by first | rfl | (simp; done) | (simp [*]; done)), H', ⟨by have := HJ3.out; have := HK2.out; have := HJ20.out; have := HJ36.out; have := HJ41.out; omega⟩, ⟨by (with_reducible repeat (first | apply Kd.R_alloc | apply Kd.R_drewN | apply Kd.R_drew)); exact Kd.R_mono HO466.out (fun _ hk => trivial)⟩, ⟨by repeat (first | (with_reducible first | exact HB.out | apply below_alloc | apply pw_below_drewN | apply below_drew1 | refine below_set ?_ GE440.out) | exact HB.out)⟩⟩
               ·rw [if_neg c50] at H
                have c50b0 : (t464 == 0) = false := beq_eq_false_iff_ne.mpr c50
                have c50b1 : (t464 != 0) = true := bne_iff_ne.mpr c50
                simp only [Option.some.injEq, Prod.mk.injEq] at H
                obtain ⟨rfl, rfl⟩ := H
                obtain ⟨Ao54, co54, eo54⟩ := Kd.R_slice HO_8.out
                subst eo54
                obtain ⟨Ao55, co55, eo55⟩ := Kd.R_slice HO_11.out
                subst eo55
                go_wp2_with (first | ((with_reducible refine gate_callee (f := 42) rfl ?_); refine goesL_ (some 83) rfl rfl Tryz.func42 (by kernel_rfl) rfl #[.slice Ao54 x8_2.length co54, .slice Ao55 x11_41.length co55] rfl (by (try simp only [List.map_toArray, List.map_cons, List.map_nil]); first | done | rfl | (simp only [List.length_drop, List.length_take]; rfl)) ?_; (with_reducible refine (hypercuberef05_Join.calls kj41 _ _ x8_2 _ _ x11_41 t463 t464 _ ?side1 ?side2 ?side3 ?side4 A49.out).mono ?_); (case side1 => repeat (first | exact (Kd.R_reads' HO_8.out).2.2 | (with_reducible refine Kd.C_alloc ?_ _) | (with_reducible refine Kd.C_drewN ?_ _) | (with_reducible refine Kd.C_drew ?_))); (case side2 => exact (Kd.R_reads' HO_8.out).2.1); (case side3 => repeat (first | exact (Kd.R_reads' HO_11.out).2.2 | (with_reducible refine Kd.C_alloc ?_ _) | (with_reducible refine Kd.C_drewN ?_ _) | (with_reducible refine Kd.C_drew ?_))); (case side4 => exact (Kd.R_reads' HO_11.out).2.1); rintro e w56 ⟨v465, rfl, ho0, hb⟩; refine ⟨_, rfl, ?_⟩; have n0_ := Aside0.mk (Kd.R_elder' (by (with_reducible repeat (first | apply Kd.R_alloc | apply Kd.R_drewN | apply Kd.R_drew)); exact HO_8.out) (Kd.R_base ho0) hb); have n1_ := Aside0.mk (Kd.R_elder' (by (with_reducible repeat (first | apply Kd.R_alloc | apply Kd.R_drewN | apply Kd.R_drew)); exact HO_11.out) (Kd.R_base ho0) hb); have n2_ := Aside0.mk (Kd.R_lower (Kd.R_newB (Kd.R_new' (Kd.R_new' ho0 (Kd.R_lt (by (with_reducible repeat (first | apply Kd.R_alloc | apply Kd.R_drewN | apply Kd.R_drew)); exact HO_8.out))) (Kd.R_lt (by (with_reducible repeat (first | apply Kd.R_alloc | apply Kd.R_drewN | apply Kd.R_drew)); exact HO_11.out))) (g := gb440) (o := .cells #[.int .u32 ((rd_T25 l0 x9_2).f0), .int .u32 ((rd_T25 l0 x9_2).f1)] 25 (0, 0)) (by (with_reducible repeat (first | refine blk_drewN ?_ _ | refine blk_drew ?_ | refine blk_alloc ?_ _)); exact BK440.out)) (below_size (by repeat (first | (with_reducible first | exact HB.out | apply below_alloc | apply pw_below_drewN | apply below_drew1 | refine below_set ?_ GE440.out) | exact HB.out)))); have n3_ := Aside0.mk (blk_below (g := gb440) (o := .cells #[.int .u32 ((rd_T25 l0 x9_2).f0), .int .u32 ((rd_T25 l0 x9_2).f1)] 25 (0, 0)) (by (with_reducible repeat (first | refine blk_drewN ?_ _ | refine blk_drew ?_ | refine blk_alloc ?_ _)); exact BK440.out) hb); have n4_ := Aside0.mk (below_step (by repeat (first | (with_reducible first | exact HB.out | apply below_alloc | apply pw_below_drewN | apply below_drew1 | refine below_set ?_ GE440.out) | exact HB.out)) hb); clear HO_8; clear HO_11; clear BK440; clear HB; have HO_8 := n0_; have HO_11 := n1_; have HO466 := n2_; have BK440 := n3_; have HB := n4_; clear n0_ n1_ n2_ n3_ n4_; (try clear hb); (try clear hb2); (try clear hk); (try clear hi); (try clear ho0)))
                go_ret2
                exact ⟨_, by first | rfl | (simp [errW_none, errW_some] <;> rfl) | (simp [*, errW_none, errW_some] <;> rfl), by first | exact Kd.R_nil _ _ _ _ _ | exact Kd.N_nil _ _ _ _ _ | exact Kd.V_nil _ _ _ _ _ | exact Kd.Q_nil _ _ _ _ _ | exact Kd.S_nil _ _ _ _ _, by repeat (first | (with_reducible first | exact HB.out | apply below_alloc | apply pw_below_drewN | apply below_drew1 | refine below_set ?_ GE440.out) | exact HB.out)⟩
              ·rw [if_neg c48] at H
               have c48b0 : (x13_41 == 0) = false := beq_eq_false_iff_ne.mpr c48
               have c48b1 : (x13_41 != 0) = true := bne_iff_ne.mpr c48
               simp only [Option.some.injEq, Prod.mk.injEq] at H
               obtain ⟨rfl, rfl⟩ := H
               go_wp2
               go_ret2
               exact ⟨_, by first | rfl | (simp [errW_none, errW_some] <;> rfl) | (simp [*, errW_none, errW_some] <;> rfl), by first | exact Kd.R_nil _ _ _ _ _ | exact Kd.N_nil _ _ _ _ _ | exact Kd.V_nil _ _ _ _ _ | exact Kd.Q_nil _ _ _ _ _ | exact Kd.S_nil _ _ _ _ _, by repeat (first | (with_reducible first | exact HB.out | apply below_alloc | apply pw_below_drewN | apply below_drew1 | refine below_set ?_ GE440.out) | exact HB.out)⟩
       ·rw [if_neg c17] at H
        exact absurd H (by simp)
      ·rw [if_neg c16] at H
       have c16b0 : decide (x9_2 < (l0.length : Int)) = false := decide_eq_false c16
       clear c16
       simp only [Option.some.injEq, Prod.mk.injEq] at H
       obtain ⟨rfl, rfl⟩ := H
       go_wp2
       go_ret2
       exact ⟨_, by first | rfl | (simp [errW_none, errW_some] <;> rfl) | (simp [*, errW_none, errW_some] <;> rfl), by (with_reducible repeat (first | apply Kd.R_alloc | apply Kd.R_drewN | apply Kd.R_drew)); exact HO_8.out, by repeat (first | (with_reducible first | exact HB.out | apply below_alloc | apply pw_below_drewN | apply below_drew1) | exact HB.out)⟩

end Go.Proofs.YtfbcgjkagdbckaaGreatDoor.XCu
