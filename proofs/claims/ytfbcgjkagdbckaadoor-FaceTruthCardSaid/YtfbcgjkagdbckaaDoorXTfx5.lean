-- Written for this claim by a program of ours (wip/xp.py), out of the translation and of hand-written contracts.
import Derived.Test.YtfbcgjkagdbckaaDoorXTfx0
import Derived.Test.YtfbcgjkagdbckaaDoorXTfx2
import Derived.Test.YtfbcgjkagdbckaaDoorXTfx3
import Derived.Test.YtfbcgjkagdbckaaDoorXTfx4
namespace Go.Proofs.YtfbcgjkagdbckaaDoor.XTf
open Go.RowKit Go.Proofs.YtfbcgjkagdbckaaDoorW.PrintWords Go.Proofs.YtfbcgjkagdbckaaDoorW.PrintLast Go.Proofs.YtfbcgjkagdbckaaDoorW.PrintMore
attribute [local go_sem] max2_int min2_int max_two min_two max_three min_three max_four min_four   -- for this text's walks alone
set_option linter.unusedVariables false
set_option linter.unusedSimpArgs false

/-! ### hypercubelaw05_FaceTruth: function 11 -/
mutual
def hypercubelaw05_FaceTruth.j0 : Nat → List (S60) → Bool → Int → Int → Option (Bool)
  | 0, _, _, _, _ => none
  | k + 1, x0, x30, x216000, x216001 => if x30 = true then (some true) else (hypercubelaw05_FaceTruth.l0 k x0 ([] : List Int) 0 x216000 x216001)
def hypercubelaw05_FaceTruth.l0 : Nat → List (S60) → List Int → Int → Int → Int → Option (Bool)
  | 0, _, _, _, _, _ => none
  | k + 1, x0, x5, x31, x216000, x216001 => if x31 < 24 then (if 0 ≤ (IntKind.u64.wrap (x31)) then (if (Go.bits .and .u32 (shr .u32 x216000 (IntKind.u64.wrap (x31))) 1) = 1 then (if (Go.bits .and .u32 (shr .u32 x216001 (IntKind.u64.wrap (x31))) 1) = 1 then (if x5.length < 17592186044416 then (hypercubelaw05_FaceTruth.l0 k x0 (x5 ++ [0]) (wrap64 (x31 + 1)) x216000 x216001) else (none)) else (if x5.length < 17592186044416 then (hypercubelaw05_FaceTruth.l0 k x0 (x5 ++ [1]) (wrap64 (x31 + 1)) x216000 x216001) else (none))) else (if (Go.bits .and .u32 (shr .u32 x216001 (IntKind.u64.wrap (x31))) 1) = 1 then (if x5.length < 17592186044416 then (hypercubelaw05_FaceTruth.l0 k x0 (x5 ++ [0]) (wrap64 (x31 + 1)) x216000 x216001) else (none)) else (if x5.length < 17592186044416 then (hypercubelaw05_FaceTruth.l0 k x0 (x5 ++ [2]) (wrap64 (x31 + 1)) x216000 x216001) else (none)))) else (none)) else ((truth_Eval.f k x0 x5).bind fun bt232 => (if bt232.2 = 0 then ((face_Of.f x0).bind fun bt234 => ((face_Holds.f bt234.1 x216000 x216001).bind fun bt238 => (if bt234.2 = 0 then (if bt238.2 = 0 then (hypercubelaw05_FaceTruth.j2 k x0 bt232.1 (bt238.1 != (bt232.1 == 1)) x216000 x216001) else (hypercubelaw05_FaceTruth.j2 k x0 bt232.1 true x216000 x216001)) else (hypercubelaw05_FaceTruth.j2 k x0 bt232.1 true x216000 x216001)))) else (some true)))
def hypercubelaw05_FaceTruth.j2 : Nat → List (S60) → Int → Bool → Int → Int → Option (Bool)
  | 0, _, _, _, _, _ => none
  | k + 1, x0, x8, x83, x216000, x216001 => if x83 = true then (some false) else ((face_OfZero.f x0).bind fun bt240 => (if bt240.2 = 0 then ((face_Holds.f bt240.1 x216000 x216001).bind fun bt244 => (if bt244.2 = 0 then (some (bt244.1 == (x8 == 0))) else (some false))) else (some (bt240.2 == 3))))
end
def hypercubelaw05_FaceTruth.f (k : Nat) (l0 : List (S60)) (a1_0 : Int) (a1_1 : Int) : Option (Bool) := (hypercubelaw05_works.f k).bind fun t216 => (if t216 = true then ((hypercubelaw05_great.f l0 ([] : List (S60))).bind fun t217 => (if t217 = true then (hypercubelaw05_FaceTruth.j0 k l0 true a1_0 a1_1) else ((clause_Right.f a1_0 a1_1).bind fun t218 => (if t218 = true then ((clause_Clash.f a1_0 a1_1).bind fun t219 => (hypercubelaw05_FaceTruth.j0 k l0 t219 a1_0 a1_1)) else (hypercubelaw05_FaceTruth.j0 k l0 true a1_0 a1_1))))) else (some false))
theorem hypercubelaw05_FaceTruth.mono_l : ∀ k, (∀ y0 y1 y2 y3, LeO (hypercubelaw05_FaceTruth.j0 k y0 y1 y2 y3) (hypercubelaw05_FaceTruth.j0 (k + 1) y0 y1 y2 y3)) ∧ (∀ y0 y1 y2 y3 y4, LeO (hypercubelaw05_FaceTruth.l0 k y0 y1 y2 y3 y4) (hypercubelaw05_FaceTruth.l0 (k + 1) y0 y1 y2 y3 y4)) ∧ (∀ y0 y1 y2 y3 y4, LeO (hypercubelaw05_FaceTruth.j2 k y0 y1 y2 y3 y4) (hypercubelaw05_FaceTruth.j2 (k + 1) y0 y1 y2 y3 y4))
  | 0 => ⟨fun _ _ _ _ r h => by simp [hypercubelaw05_FaceTruth.j0] at h, fun _ _ _ _ _ r h => by simp [hypercubelaw05_FaceTruth.l0] at h, fun _ _ _ _ _ r h => by simp [hypercubelaw05_FaceTruth.j2] at h⟩
  | k + 1 => by
    obtain ⟨ih0, ih1, ih2⟩ := hypercubelaw05_FaceTruth.mono_l k
    refine ⟨?_, ?_, ?_⟩
    · intro y0 y1 y2 y3
      unfold hypercubelaw05_FaceTruth.j0
      repeat' first
      | (with_reducible exact ih0 _ _ _ _)
      | (with_reducible exact ih1 _ _ _ _ _)
      | (with_reducible exact ih2 _ _ _ _ _)
      | (with_reducible exact hypercubelaw05_works.mono _)
      | (with_reducible exact truth_Eval.mono _ _ _)
      | (with_reducible exact LeO.refl _)
      | (with_reducible exact LeO.none _)
      | (with_reducible refine LeO.ite ?_ ?_)
      | (with_reducible refine LeO.bind ?_ (fun _ => ?_))
      | exact ih0 _ _ _ _
      | exact ih1 _ _ _ _ _
      | exact ih2 _ _ _ _ _
      | exact hypercubelaw05_works.mono _
      | exact truth_Eval.mono _ _ _
      | exact LeO.none _
      | refine LeO.ite ?_ ?_
      | refine LeO.bind ?_ (fun _ => ?_)
    · intro y0 y1 y2 y3 y4
      unfold hypercubelaw05_FaceTruth.l0
      repeat' first
      | (with_reducible exact ih0 _ _ _ _)
      | (with_reducible exact ih1 _ _ _ _ _)
      | (with_reducible exact ih2 _ _ _ _ _)
      | (with_reducible exact hypercubelaw05_works.mono _)
      | (with_reducible exact truth_Eval.mono _ _ _)
      | (with_reducible exact LeO.refl _)
      | (with_reducible exact LeO.none _)
      | (with_reducible refine LeO.ite ?_ ?_)
      | (with_reducible refine LeO.bind ?_ (fun _ => ?_))
      | exact ih0 _ _ _ _
      | exact ih1 _ _ _ _ _
      | exact ih2 _ _ _ _ _
      | exact hypercubelaw05_works.mono _
      | exact truth_Eval.mono _ _ _
      | exact LeO.none _
      | refine LeO.ite ?_ ?_
      | refine LeO.bind ?_ (fun _ => ?_)
    · intro y0 y1 y2 y3 y4
      unfold hypercubelaw05_FaceTruth.j2
      repeat' first
      | (with_reducible exact ih0 _ _ _ _)
      | (with_reducible exact ih1 _ _ _ _ _)
      | (with_reducible exact ih2 _ _ _ _ _)
      | (with_reducible exact hypercubelaw05_works.mono _)
      | (with_reducible exact truth_Eval.mono _ _ _)
      | (with_reducible exact LeO.refl _)
      | (with_reducible exact LeO.none _)
      | (with_reducible refine LeO.ite ?_ ?_)
      | (with_reducible refine LeO.bind ?_ (fun _ => ?_))
      | exact ih0 _ _ _ _
      | exact ih1 _ _ _ _ _
      | exact ih2 _ _ _ _ _
      | exact hypercubelaw05_works.mono _
      | exact truth_Eval.mono _ _ _
      | exact LeO.none _
      | refine LeO.ite ?_ ?_
      | refine LeO.bind ?_ (fun _ => ?_)
theorem hypercubelaw05_FaceTruth.mono : ∀ a0 a1 a2 k, LeO (hypercubelaw05_FaceTruth.f k a0 a1 a2) (hypercubelaw05_FaceTruth.f (k + 1) a0 a1 a2) := by
  intro a0 a1 a2 k
  obtain ⟨ih0, ih1, ih2⟩ := hypercubelaw05_FaceTruth.mono_l k
  unfold hypercubelaw05_FaceTruth.f
  repeat' first
      | (with_reducible exact ih0 _ _ _ _)
      | (with_reducible exact ih1 _ _ _ _ _)
      | (with_reducible exact ih2 _ _ _ _ _)
      | (with_reducible exact hypercubelaw05_works.mono _)
      | (with_reducible exact truth_Eval.mono _ _ _)
      | (with_reducible exact LeO.refl _)
      | (with_reducible exact LeO.none _)
      | (with_reducible refine LeO.ite ?_ ?_)
      | (with_reducible refine LeO.bind ?_ (fun _ => ?_))
      | exact ih0 _ _ _ _
      | exact ih1 _ _ _ _ _
      | exact ih2 _ _ _ _ _
      | exact hypercubelaw05_works.mono _
      | exact truth_Eval.mono _ _ _
      | exact LeO.none _
      | refine LeO.ite ?_ ?_
      | refine LeO.bind ?_ (fun _ => ?_)
set_option maxHeartbeats 8000000 in
set_option maxRecDepth 100000 in
theorem hypercubelaw05_FaceTruth.calls (k : Nat) (A0 : Option Addr) (c0 : Nat) (l0 : List (S60)) (a1_0 : Int) (a1_1 : Int) (r : Bool) (w : World) (HT : Aside0 (TabT w)) (hr_ : Aside0 (r = true)) (hr0 : Kd.C k60 w A0 l0.length l0) (hc0 : l0.length ≤ c0) (h : hypercubelaw05_FaceTruth.f k l0 a1_0 a1_1 = some r) :
  Calls Tryd.prog 11 #[.slice A0 l0.length c0, .agg #[.int .u32 a1_0, .int .u32 a1_1]] w fun e w' => e = .returned (.bool r) ∧ Below w.heap.size w w' := by
 have hu60 := Tryd.underlying60
 have HR0 := Aside0.mk hr0
 have HC0 := Aside0.mk hc0
 clear hr0 hc0
 have HB := Aside0.mk (Below.refl w.heap.size w)
 have H : ((hypercubelaw05_works.f k).bind fun t216 => (if t216 = true then ((hypercubelaw05_great.f l0 ([] : List (S60))).bind fun t217 => (if t217 = true then (hypercubelaw05_FaceTruth.j0 k l0 true a1_0 a1_1) else ((clause_Right.f a1_0 a1_1).bind fun t218 => (if t218 = true then ((clause_Clash.f a1_0 a1_1).bind fun t219 => (hypercubelaw05_FaceTruth.j0 k l0 t219 a1_0 a1_1)) else (hypercubelaw05_FaceTruth.j0 k l0 true a1_0 a1_1))))) else (some false))) = some r := h
 clear h
 replace H := Option.bind_eq_some_iff.mp H
 obtain ⟨t216, A30, H⟩ := H
 replace H : (if t216 = true then ((hypercubelaw05_great.f l0 ([] : List (S60))).bind fun t217 => (if t217 = true then (hypercubelaw05_FaceTruth.j0 k l0 true a1_0 a1_1) else ((clause_Right.f a1_0 a1_1).bind fun t218 => (if t218 = true then ((clause_Clash.f a1_0 a1_1).bind fun t219 => (hypercubelaw05_FaceTruth.j0 k l0 t219 a1_0 a1_1)) else (hypercubelaw05_FaceTruth.j0 k l0 true a1_0 a1_1))))) else (some false)) = some r := H
 have A3 := Aside0.mk A30
 clear A30
 by_cases c4 : t216 = true
 ·subst c4
  have H1 : ((hypercubelaw05_great.f l0 ([] : List (S60))).bind fun t217 => (if t217 = true then (hypercubelaw05_FaceTruth.j0 k l0 true a1_0 a1_1) else ((clause_Right.f a1_0 a1_1).bind fun t218 => (if t218 = true then ((clause_Clash.f a1_0 a1_1).bind fun t219 => (hypercubelaw05_FaceTruth.j0 k l0 t219 a1_0 a1_1)) else (hypercubelaw05_FaceTruth.j0 k l0 true a1_0 a1_1))))) = some r := by rw [if_pos rfl] at H; exact H
  clear H
  have H := H1
  clear H1
  have HC5 := Aside0.mk H
  clear H
  go_enter Tryd.func11, Tryd.ntmps11
  go_upto_region 3 with (first | ((with_reducible refine gate_dst (N := 3) rfl ?_); refine box_event ?hg (N := 3) ?hd (cs := #[.int .u32 a1_0, .int .u32 a1_1]) (t := 60) ?hr ?_; (case hd => rfl); (case hg => rfl); (case hr => first | (go_simp; done) | (go_simp; rfl)); intro gb215 hg w6 hbox hb; have n0_ := Aside0.mk (below_step (by repeat (first | (with_reducible first | exact HB.out | apply below_alloc | apply pw_below_drewN | apply below_drew1) | exact HB.out)) hb); have n1_ := Aside0.mk (hbox); have n2_ := Aside0.mk ((by rw [hg]; exact (below_size (by repeat (first | (with_reducible first | exact HB.out | apply below_alloc | apply pw_below_drewN | apply below_drew1) | exact HB.out))) : w.heap.size ≤ gb215)); have n3_ := Aside0.mk ((by rw [hg]; exact (below_size (by repeat (first | (with_reducible first | exact HB.out | apply below_alloc | apply pw_below_drewN | apply below_drew1) | exact HB.out))) : w.heap.size ≤ gb215)); clear HB; have HB := n0_; have BK215 := n1_; have GW215 := n2_; have GE215 := n3_; clear n0_ n1_ n2_ n3_; clear hb hbox hg) | ((with_reducible refine gate_callee (f := 41) rfl ?_); refine goesL_ (some 18) rfl rfl Tryd.func41 (by kernel_rfl) rfl #[] rfl (by (try simp only [List.map_toArray, List.map_cons, List.map_nil]); first | done | rfl | (simp only [List.length_drop, List.length_take]; rfl)) ?_; (with_reducible refine (hypercubelaw05_works.calls k  true _ A3.out).mono ?_); rintro e w7 ⟨rfl, hb⟩; refine ⟨_, rfl, ?_⟩; have n0_ := Aside0.mk (blk_below (g := gb215) (o := .cells #[.int .u32 a1_0, .int .u32 a1_1] 60 (0, 0)) (by (with_reducible repeat (first | refine blk_drewN ?_ _ | refine blk_drew ?_ | refine blk_alloc ?_ _)); exact BK215.out) hb); have n1_ := Aside0.mk (below_step (by repeat (first | (with_reducible first | exact HB.out | apply below_alloc | apply pw_below_drewN | apply below_drew1 | refine below_set ?_ GE215.out) | exact HB.out)) hb); clear BK215; clear HB; have BK215 := n0_; have HB := n1_; clear n0_ n1_; (try clear hb); (try clear hb2); (try clear hk); (try clear hi)))
  (try simp only [Act.put, List.setIfInBounds_toArray, List.set_cons_zero, List.set_cons_succ])
  go_cut [30] (fun v30 wc => ∃ (kq : Nat) (x30_4 : Bool), v30 = .bool x30_4 ∧ Aside0 (hypercubelaw05_FaceTruth.j0 kq l0 x30_4 a1_0 a1_1 = some r) ∧ Aside0 (kq ≤ k) ∧ Aside0 (wc.heap[gb215]? = some (.cells #[.int .u32 a1_0, .int .u32 a1_1] 60 (0, 0))) ∧ Aside0 (Below w.heap.size w wc))
  case first =>
   have H := HC5.out
   clear HC5
   replace H := Option.bind_eq_some_iff.mp H
   obtain ⟨t217, A80, H⟩ := H
   replace H : (if t217 = true then (hypercubelaw05_FaceTruth.j0 k l0 true a1_0 a1_1) else ((clause_Right.f a1_0 a1_1).bind fun t218 => (if t218 = true then ((clause_Clash.f a1_0 a1_1).bind fun t219 => (hypercubelaw05_FaceTruth.j0 k l0 t219 a1_0 a1_1)) else (hypercubelaw05_FaceTruth.j0 k l0 true a1_0 a1_1)))) = some r := H
   have A8 := Aside0.mk A80
   clear A80
   by_cases c9 : t217 = true
   ·subst c9
    have H1 : (hypercubelaw05_FaceTruth.j0 k l0 true a1_0 a1_1) = some r := by rw [if_pos rfl] at H; exact H
    clear H
    have H := H1
    clear H1
    have H' := Aside0.mk H
    clear H
    go_wp2_with (first | ((with_reducible refine gate_callee (f := 42) rfl ?_); refine goesL_ (some 21) rfl rfl Tryd.func42 (by kernel_rfl) rfl #[.slice A0 l0.length c0, .slice none 0 0] rfl (by (try simp only [List.map_toArray, List.map_cons, List.map_nil]); first | done | rfl | (simp only [List.length_drop, List.length_take]; rfl)) ?_; (refine (hypercubelaw05_great.calls _ _ l0 _ _ ([] : List (S60)) true _ ?side1 ?side2 ?side3 ?side4 A8.out).mono ?_); (case side1 => repeat (first | exact (Kd.C_below HR0.out HB.out) | (with_reducible refine Kd.C_alloc ?_ _) | (with_reducible refine Kd.C_drewN ?_ _) | (with_reducible refine Kd.C_drew ?_))); (case side2 => exact HC0.out); (case side3 => exact Kd.C_nil _ _); (case side4 => exact Nat.le_refl _); rintro e w' ⟨rfl, ⟨nd, rfl⟩⟩; refine ⟨_, rfl, ?_⟩))
    go_meet
    case rel => exact ⟨_, (true), (by first | rfl | (simp; done) | (simp [*]; done)), H', ⟨by first | omega | exact Nat.le_refl _⟩, ⟨by (with_reducible repeat (first | refine blk_drewN ?_ _ | refine blk_drew ?_ | refine blk_alloc ?_ _)); exact BK215.out⟩, ⟨by repeat (first | (with_reducible first | exact HB.out | apply below_alloc | apply pw_below_drewN | apply below_drew1 | refine below_set ?_ GE215.out) | exact HB.out)⟩⟩
   ·replace c9 := Bool.eq_false_iff.mpr c9
    subst c9
    have H1 : ((clause_Right.f a1_0 a1_1).bind fun t218 => (if t218 = true then ((clause_Clash.f a1_0 a1_1).bind fun t219 => (hypercubelaw05_FaceTruth.j0 k l0 t219 a1_0 a1_1)) else (hypercubelaw05_FaceTruth.j0 k l0 true a1_0 a1_1))) = some r := by rw [if_neg (show ¬ (false = true) by decide)] at H; exact H
    clear H
    have H := H1
    clear H1
    replace H := Option.bind_eq_some_iff.mp H
    obtain ⟨t218, A100, H⟩ := H
    replace H : (if t218 = true then ((clause_Clash.f a1_0 a1_1).bind fun t219 => (hypercubelaw05_FaceTruth.j0 k l0 t219 a1_0 a1_1)) else (hypercubelaw05_FaceTruth.j0 k l0 true a1_0 a1_1)) = some r := H
    have A10 := Aside0.mk A100
    clear A100
    by_cases c11 : t218 = true
    ·subst c11
     have H1 : ((clause_Clash.f a1_0 a1_1).bind fun t219 => (hypercubelaw05_FaceTruth.j0 k l0 t219 a1_0 a1_1)) = some r := by rw [if_pos rfl] at H; exact H
     clear H
     have H := H1
     clear H1
     replace H := Option.bind_eq_some_iff.mp H
     obtain ⟨t219, A120, H⟩ := H
     replace H : (hypercubelaw05_FaceTruth.j0 k l0 t219 a1_0 a1_1) = some r := H
     have A12 := Aside0.mk A120
     clear A120
     have H' := Aside0.mk H
     clear H
     go_wp2_with (first | ((with_reducible refine gate_callee (f := 42) rfl ?_); refine goesL_ (some 21) rfl rfl Tryd.func42 (by kernel_rfl) rfl #[.slice A0 l0.length c0, .slice none 0 0] rfl (by (try simp only [List.map_toArray, List.map_cons, List.map_nil]); first | done | rfl | (simp only [List.length_drop, List.length_take]; rfl)) ?_; (refine (hypercubelaw05_great.calls _ _ l0 _ _ ([] : List (S60)) false _ ?side1 ?side2 ?side3 ?side4 A8.out).mono ?_); (case side1 => repeat (first | exact (Kd.C_below HR0.out HB.out) | (with_reducible refine Kd.C_alloc ?_ _) | (with_reducible refine Kd.C_drewN ?_ _) | (with_reducible refine Kd.C_drew ?_))); (case side2 => exact HC0.out); (case side3 => exact Kd.C_nil _ _); (case side4 => exact Nat.le_refl _); rintro e w' ⟨rfl, ⟨nd, rfl⟩⟩; refine ⟨_, rfl, ?_⟩; have hcz13_0 : w7.cell? ⟨gb215, 0, none⟩ = some (.int .u32 a1_0) := (blk_cell BK215.out 0).trans rfl; have hcz13_1 : w7.cell? ⟨gb215, 1, none⟩ = some (.int .u32 a1_1) := (blk_cell BK215.out 1).trans rfl; have hfz13_0 := blk_frozen BK215.out 0; have hfz13_1 := blk_frozen BK215.out 1) | (go_at_call 43; (with_reducible refine (clause_Right.calls a1_0 a1_1 true _ A10.out).mono ?_); rintro e w14 ⟨rfl, hb⟩; have n0_ := Aside0.mk (blk_below (g := gb215) (o := .cells #[.int .u32 a1_0, .int .u32 a1_1] 60 (0, 0)) (by (with_reducible repeat (first | refine blk_drewN ?_ _ | refine blk_drew ?_ | refine blk_alloc ?_ _)); exact BK215.out) hb); have n1_ := Aside0.mk (below_step (by repeat (first | (with_reducible first | exact HB.out | apply below_alloc | apply pw_below_drewN | apply below_drew1 | refine below_set ?_ GE215.out) | exact HB.out)) hb); clear BK215; clear HB; have BK215 := n0_; have HB := n1_; clear n0_ n1_; (try clear hb); (try clear hb2); (try clear hk); (try clear hi); have hcz15_0 : w14.cell? ⟨gb215, 0, none⟩ = some (.int .u32 a1_0) := (blk_cell BK215.out 0).trans rfl; have hcz15_1 : w14.cell? ⟨gb215, 1, none⟩ = some (.int .u32 a1_1) := (blk_cell BK215.out 1).trans rfl; have hfz15_0 := blk_frozen BK215.out 0; have hfz15_1 := blk_frozen BK215.out 1) | (go_at_call 44; (with_reducible refine (clause_Clash.calls a1_0 a1_1 t219 _ A12.out).mono ?_); rintro e w16 ⟨rfl, hb⟩; have n0_ := Aside0.mk (blk_below (g := gb215) (o := .cells #[.int .u32 a1_0, .int .u32 a1_1] 60 (0, 0)) (by (with_reducible repeat (first | refine blk_drewN ?_ _ | refine blk_drew ?_ | refine blk_alloc ?_ _)); exact BK215.out) hb); have n1_ := Aside0.mk (below_step (by repeat (first | (with_reducible first | exact HB.out | apply below_alloc | apply pw_below_drewN | apply below_drew1 | refine below_set ?_ GE215.out) | exact HB.out)) hb); clear BK215; clear HB; have BK215 := n0_; have HB := n1_; clear n0_ n1_; (try clear hb); (try clear hb2); (try clear hk); (try clear hi)))
     go_meet
     case rel => exact ⟨_, (t219), (by first | rfl | (simp; done) | (simp [*]; done)), H', ⟨by first | omega | exact Nat.le_refl _⟩, ⟨by (with_reducible repeat (first | refine blk_drewN ?_ _ | refine blk_drew ?_ | refine blk_alloc ?_ _)); exact BK215.out⟩, ⟨by repeat (first | (with_reducible first | exact HB.out | apply below_alloc | apply pw_below_drewN | apply below_drew1 | refine below_set ?_ GE215.out) | exact HB.out)⟩⟩
    ·replace c11 := Bool.eq_false_iff.mpr c11
     subst c11
     have H1 : (hypercubelaw05_FaceTruth.j0 k l0 true a1_0 a1_1) = some r := by rw [if_neg (show ¬ (false = true) by decide)] at H; exact H
     clear H
     have H := H1
     clear H1
     have H' := Aside0.mk H
     clear H
     go_wp2_with (first | ((with_reducible refine gate_callee (f := 42) rfl ?_); refine goesL_ (some 21) rfl rfl Tryd.func42 (by kernel_rfl) rfl #[.slice A0 l0.length c0, .slice none 0 0] rfl (by (try simp only [List.map_toArray, List.map_cons, List.map_nil]); first | done | rfl | (simp only [List.length_drop, List.length_take]; rfl)) ?_; (refine (hypercubelaw05_great.calls _ _ l0 _ _ ([] : List (S60)) false _ ?side1 ?side2 ?side3 ?side4 A8.out).mono ?_); (case side1 => repeat (first | exact (Kd.C_below HR0.out HB.out) | (with_reducible refine Kd.C_alloc ?_ _) | (with_reducible refine Kd.C_drewN ?_ _) | (with_reducible refine Kd.C_drew ?_))); (case side2 => exact HC0.out); (case side3 => exact Kd.C_nil _ _); (case side4 => exact Nat.le_refl _); rintro e w' ⟨rfl, ⟨nd, rfl⟩⟩; refine ⟨_, rfl, ?_⟩; have hcz17_0 : w7.cell? ⟨gb215, 0, none⟩ = some (.int .u32 a1_0) := (blk_cell BK215.out 0).trans rfl; have hcz17_1 : w7.cell? ⟨gb215, 1, none⟩ = some (.int .u32 a1_1) := (blk_cell BK215.out 1).trans rfl; have hfz17_0 := blk_frozen BK215.out 0; have hfz17_1 := blk_frozen BK215.out 1) | (go_at_call 43; (with_reducible refine (clause_Right.calls a1_0 a1_1 false _ A10.out).mono ?_); rintro e w18 ⟨rfl, hb⟩; have n0_ := Aside0.mk (blk_below (g := gb215) (o := .cells #[.int .u32 a1_0, .int .u32 a1_1] 60 (0, 0)) (by (with_reducible repeat (first | refine blk_drewN ?_ _ | refine blk_drew ?_ | refine blk_alloc ?_ _)); exact BK215.out) hb); have n1_ := Aside0.mk (below_step (by repeat (first | (with_reducible first | exact HB.out | apply below_alloc | apply pw_below_drewN | apply below_drew1 | refine below_set ?_ GE215.out) | exact HB.out)) hb); clear BK215; clear HB; have BK215 := n0_; have HB := n1_; clear n0_ n1_; (try clear hb); (try clear hb2); (try clear hk); (try clear hi)))
     go_meet
     case rel => exact ⟨_, (true), (by first | rfl | (simp; done) | (simp [*]; done)), H', ⟨by first | omega | exact Nat.le_refl _⟩, ⟨by (with_reducible repeat (first | refine blk_drewN ?_ _ | refine blk_drew ?_ | refine blk_alloc ?_ _)); exact BK215.out⟩, ⟨by repeat (first | (with_reducible first | exact HB.out | apply below_alloc | apply pw_below_drewN | apply below_drew1 | refine below_set ?_ GE215.out) | exact HB.out)⟩⟩
  case rest =>
   clear HC5
   try clear c1
   try clear p2
   try clear c4
   try clear c9
   try clear c11
   try clear hcz13_0
   try clear hcz13_1
   try clear hcz15_0
   try clear hcz15_1
   try clear hcz17_0
   try clear hcz17_1
   try clear hfz13_0
   try clear hfz13_1
   try clear hfz15_0
   try clear hfz15_1
   try clear hfz17_0
   try clear hfz17_1
   obtain ⟨kq, x30_4, rfl, HA, HJ4, BK215, HB⟩ := hcut
   cases kq with
   | zero => exact absurd HA.out (by simp [hypercubelaw05_FaceTruth.j0])
   | succ kj4 =>
    have H := HA.out
    clear HA
    simp only [hypercubelaw05_FaceTruth.j0] at H
    by_cases c19 : x30_4 = true
    ·subst c19
     have H1 : (some true) = some r := by rw [if_pos rfl] at H; exact H
     clear H
     have H := H1
     clear H1
     obtain rfl := Option.some.inj H
     go_wp2
     go_ret
     exact ⟨by first | rfl | (simp [errW_none, errW_some] <;> rfl) | (simp [*, errW_none, errW_some] <;> rfl), by repeat (first | (with_reducible first | exact HB.out | apply below_alloc | apply pw_below_drewN | apply below_drew1 | refine below_set ?_ GE215.out) | exact HB.out)⟩
    ·replace c19 := Bool.eq_false_iff.mpr c19
     subst c19
     have H1 : (hypercubelaw05_FaceTruth.l0 kj4 l0 ([] : List Int) 0 a1_0 a1_1) = some r := by rw [if_neg (show ¬ (false = true) by decide)] at H; exact H
     clear H
     have H := H1
     clear H1
     have H' := Aside0.mk H
     clear H
     go_wp2
     go_loopg [5, 31] kj4 (fun kq v5 v31 w' => ∃ (x5_2 : List Int) (x31_2 : Int), v31 = .int .i64 x31_2 ∧ Aside0 (hypercubelaw05_FaceTruth.l0 kq l0 x5_2 x31_2 a1_0 a1_1 = some r) ∧ Aside0 (kq ≤ kj4) ∧ Aside0 (Kd.R (Kd.int .i64) 3 w' w.heap.size (fun _ => True) v5 x5_2) ∧ Aside0 (w'.heap[gb215]? = some (.cells #[.int .u32 a1_0, .int .u32 a1_1] 60 (0, 0))) ∧ Aside0 (Below w.heap.size w w'))
     case atStart => exact ⟨(([] : List Int)), (0), (by first | rfl | (simp; done) | (simp [*]; done)), H', ⟨Nat.le_refl _⟩, ⟨by first | exact Kd.R_nil _ _ _ _ _ | exact Kd.N_nil _ _ _ _ _ | exact Kd.V_nil _ _ _ _ _ | exact Kd.Q_nil _ _ _ _ _ | exact Kd.S_nil _ _ _ _ _⟩, ⟨by (with_reducible repeat (first | refine blk_drewN ?_ _ | refine blk_drew ?_ | refine blk_alloc ?_ _)); exact BK215.out⟩, ⟨by repeat (first | (with_reducible first | exact HB.out | apply below_alloc | apply pw_below_drewN | apply below_drew1 | refine below_set ?_ GE215.out) | exact HB.out)⟩⟩
     case round =>
      clear H'
      try clear c1
      try clear p2
      try clear c4
      try clear c9
      try clear c11
      try clear c19
      try clear hcz13_0
      try clear hcz13_1
      try clear hcz15_0
      try clear hcz15_1
      try clear hcz17_0
      try clear hcz17_1
      try clear hfz13_0
      try clear hfz13_1
      try clear hfz15_0
      try clear hfz15_1
      try clear hfz17_0
      try clear hfz17_1
      try clear p2
      obtain ⟨x5_2, x31_2, rfl, HA, HK2, HO_5, BK215, HB⟩ := hrel
      cases gk with
      | zero => exact absurd HA.out (by simp [hypercubelaw05_FaceTruth.l0])
      | succ k2 =>
       have H := HA.out
       clear HA
       simp only [hypercubelaw05_FaceTruth.l0] at H
       by_cases c20 : x31_2 < 24
       ·rw [if_pos c20] at H
        have c20b0 : decide (x31_2 < 24) = true := decide_eq_true c20
        clear c20
        obtain ⟨ji21, hji21⟩ : ∃ j_ : Int, (IntKind.u64.wrap (x31_2)) = j_ := ⟨_, rfl⟩
        replace H : (if 0 ≤ (ji21) then (if (Go.bits .and .u32 (shr .u32 a1_0 (ji21)) 1) = 1 then (if (Go.bits .and .u32 (shr .u32 a1_1 (ji21)) 1) = 1 then (if x5_2.length < 17592186044416 then (hypercubelaw05_FaceTruth.l0 k2 l0 (x5_2 ++ [0]) (wrap64 (x31_2 + 1)) a1_0 a1_1) else (none)) else (if x5_2.length < 17592186044416 then (hypercubelaw05_FaceTruth.l0 k2 l0 (x5_2 ++ [1]) (wrap64 (x31_2 + 1)) a1_0 a1_1) else (none))) else (if (Go.bits .and .u32 (shr .u32 a1_1 (ji21)) 1) = 1 then (if x5_2.length < 17592186044416 then (hypercubelaw05_FaceTruth.l0 k2 l0 (x5_2 ++ [0]) (wrap64 (x31_2 + 1)) a1_0 a1_1) else (none)) else (if x5_2.length < 17592186044416 then (hypercubelaw05_FaceTruth.l0 k2 l0 (x5_2 ++ [2]) (wrap64 (x31_2 + 1)) a1_0 a1_1) else (none)))) else (none)) = some r := by first | (rw [hji21] at H; exact H) | (simp only [hji21] at H ⊢; exact H)
        by_cases c22 : 0 ≤ (ji21)
        ·rw [if_pos c22] at H
         have c22b0 := eq_true c22
         have c22b1 : decide (0 ≤ (ji21)) = true := decide_eq_true c22
         clear c22
         obtain ⟨ji23, hji23⟩ : ∃ j_ : Int, (shr .u32 a1_0 (ji21)) = j_ := ⟨_, rfl⟩
         replace H : (if (Go.bits .and .u32 (ji23) 1) = 1 then (if (Go.bits .and .u32 (shr .u32 a1_1 (ji21)) 1) = 1 then (if x5_2.length < 17592186044416 then (hypercubelaw05_FaceTruth.l0 k2 l0 (x5_2 ++ [0]) (wrap64 (x31_2 + 1)) a1_0 a1_1) else (none)) else (if x5_2.length < 17592186044416 then (hypercubelaw05_FaceTruth.l0 k2 l0 (x5_2 ++ [1]) (wrap64 (x31_2 + 1)) a1_0 a1_1) else (none))) else (if (Go.bits .and .u32 (shr .u32 a1_1 (ji21)) 1) = 1 then (if x5_2.length < 17592186044416 then (hypercubelaw05_FaceTruth.l0 k2 l0 (x5_2 ++ [0]) (wrap64 (x31_2 + 1)) a1_0 a1_1) else (none)) else (if x5_2.length < 17592186044416 then (hypercubelaw05_FaceTruth.l0 k2 l0 (x5_2 ++ [2]) (wrap64 (x31_2 + 1)) a1_0 a1_1) else (none)))) = some r := by first | (rw [hji23] at H; exact H) | (simp only [hji23] at H ⊢; exact H)
         have hji23_ : (a1_0 / 2 ^ min (ji21).toNat 32) = ji23 := hji23
         have hji23z : (ji21) ≤ 32 → (a1_0 / 2 ^ (ji21).toNat) = ji23 := shr_small hji23
         by_cases c24 : (Go.bits .and .u32 (ji23) 1) = 1
         ·rw [if_pos c24] at H
          have c24b0 : ((Go.bits .and .u32 (ji23) 1) == 1) = true := beq_iff_eq.mpr c24
          have c24b1 : ((Go.bits .and .u32 (ji23) 1) != 1) = false := bne_eq_false_iff_eq.mpr c24
          clear c24
          have c25b0 := eq_true (of_decide_eq_true (by first | (with_reducible assumption) | assumption) : 0 ≤ (ji21))
          obtain ⟨ji26, hji26⟩ : ∃ j_ : Int, (shr .u32 a1_1 (ji21)) = j_ := ⟨_, rfl⟩
          replace H : (if (Go.bits .and .u32 (ji26) 1) = 1 then (if x5_2.length < 17592186044416 then (hypercubelaw05_FaceTruth.l0 k2 l0 (x5_2 ++ [0]) (wrap64 (x31_2 + 1)) a1_0 a1_1) else (none)) else (if x5_2.length < 17592186044416 then (hypercubelaw05_FaceTruth.l0 k2 l0 (x5_2 ++ [1]) (wrap64 (x31_2 + 1)) a1_0 a1_1) else (none))) = some r := by first | (rw [hji26] at H; exact H) | (simp only [hji26] at H ⊢; exact H)
          have hji26_ : (a1_1 / 2 ^ min (ji21).toNat 32) = ji26 := hji26
          have hji26z : (ji21) ≤ 32 → (a1_1 / 2 ^ (ji21).toNat) = ji26 := shr_small hji26
          by_cases c27 : (Go.bits .and .u32 (ji26) 1) = 1
          ·rw [if_pos c27] at H
           have c27b0 : ((Go.bits .and .u32 (ji26) 1) == 1) = true := beq_iff_eq.mpr c27
           have c27b1 : ((Go.bits .and .u32 (ji26) 1) != 1) = false := bne_eq_false_iff_eq.mpr c27
           clear c27
           by_cases c28 : x5_2.length < 17592186044416
           ·rw [if_pos c28] at H
            have LMc28 := Aside0.mk c28
            clear c28
            obtain ⟨y220, hy220⟩ : ∃ y_ : List Int, y_ = (x5_2 ++ [0]) := ⟨_, rfl⟩
            replace H : (hypercubelaw05_FaceTruth.l0 k2 l0 y220 (wrap64 (x31_2 + 1)) a1_0 a1_1) = some r := by first | (rw [hy220]; with_reducible exact H) | (have H2_ := (Option.bind_some _ _).symm.trans H; rw [hy220]; with_reducible exact H2_) | (have H2_ := (Option.bind_some _ _).symm.trans H; with_reducible exact H2_) | with_reducible exact H | (rw [hy220]; exact H) | exact H
            have Ny220 := Aside0.mk hy220
            clear hy220
            have H' := Aside0.mk H
            clear H
            have hcz29_0 : wr.cell? ⟨gb215, 0, none⟩ = some (.int .u32 a1_0) := (blk_cell BK215.out 0).trans rfl
            have hcz29_1 : wr.cell? ⟨gb215, 1, none⟩ = some (.int .u32 a1_1) := (blk_cell BK215.out 1).trans rfl
            have hfz29_0 := blk_frozen BK215.out 0
            have hfz29_1 := blk_frozen BK215.out 1
            go_wp2_with (first | ((with_reducible refine gate_builtin (b := .append) (xs := #[.tmp 48, .tmp 50]) rfl ?_); at_builtin; refine Kd.R_append (Kd.int .i64) (w0 := w) w.heap.size rfl (.tmp 48) (.tmp 50) 27 3 (.int .i64 0) 8 rfl Tryd.underlying27 info3 rfl (by decide) (by omega) u5 x5_2 0 [.int .i64 0] (fun _ => True) (fun _ => False) rfl rfl ?aP (fun _ hk => hk.elim) ?aF ?aO ?aB ?aS ?aL ?_; (case aP => exact rfl); (case aB => exact (by repeat (first | (with_reducible first | exact HB.out | apply below_alloc | apply pw_below_drewN | apply below_drew1 | refine below_set ?_ GE215.out) | exact HB.out))); (case aF => exact (fun _ _ => trivial)); (case aO => exact (by (with_reducible repeat (first | apply Kd.R_alloc | apply Kd.R_drewN | apply Kd.R_drew)); exact HO_5.out)); (case aS => exact (below_size (by repeat (first | (with_reducible first | exact HB.out | apply below_alloc | apply pw_below_drewN | apply below_drew1 | refine below_set ?_ GE215.out) | exact HB.out)))); (case aL => have := LMc28.out; omega); intro v221 w30 ho hb hg hat; rw [← Ny220.out] at ho; have n0_ := Aside0.mk (blk_grown (g := gb215) (o := .cells #[.int .u32 a1_0, .int .u32 a1_1] 60 (0, 0)) (by (with_reducible repeat (first | refine blk_drewN ?_ _ | refine blk_drew ?_ | refine blk_alloc ?_ _)); exact BK215.out) hg (Kd.R_ne HO_5.out BK215.out (by decide))); have n1_ := Aside0.mk (hb); have n2_ := Aside0.mk (ho); clear BK215; clear HB; clear HO_5; have BK215 := n0_; have HB := n1_; have HO222 := n2_; clear n0_ n1_ n2_; clear ho hb hg hat))
            go_roundg k2
            case measure => have := HJ4.out; have := HK2.out; omega
            case rel => exact ⟨(y220), (wrap64 (x31_2 + 1)), (by first | rfl | (simp; done) | (simp [*]; done)), H', ⟨by have := HJ4.out; have := HK2.out; omega⟩, ⟨by (with_reducible repeat (first | apply Kd.R_alloc | apply Kd.R_drewN | apply Kd.R_drew)); exact HO222.out⟩, ⟨by (with_reducible repeat (first | refine blk_drewN ?_ _ | refine blk_drew ?_ | refine blk_alloc ?_ _)); exact BK215.out⟩, ⟨by repeat (first | (with_reducible first | exact HB.out | apply below_alloc | apply pw_below_drewN | apply below_drew1 | refine below_set ?_ GE215.out) | exact HB.out)⟩⟩
           ·rw [if_neg c28] at H
            exact absurd H (by simp)
          ·rw [if_neg c27] at H
           have c27b0 : ((Go.bits .and .u32 (ji26) 1) == 1) = false := beq_eq_false_iff_ne.mpr c27
           have c27b1 : ((Go.bits .and .u32 (ji26) 1) != 1) = true := bne_iff_ne.mpr c27
           by_cases c31 : x5_2.length < 17592186044416
           ·rw [if_pos c31] at H
            have LMc31 := Aside0.mk c31
            clear c31
            obtain ⟨y223, hy223⟩ : ∃ y_ : List Int, y_ = (x5_2 ++ [1]) := ⟨_, rfl⟩
            replace H : (hypercubelaw05_FaceTruth.l0 k2 l0 y223 (wrap64 (x31_2 + 1)) a1_0 a1_1) = some r := by first | (rw [hy223]; with_reducible exact H) | (have H2_ := (Option.bind_some _ _).symm.trans H; rw [hy223]; with_reducible exact H2_) | (have H2_ := (Option.bind_some _ _).symm.trans H; with_reducible exact H2_) | with_reducible exact H | (rw [hy223]; exact H) | exact H
            have Ny223 := Aside0.mk hy223
            clear hy223
            have H' := Aside0.mk H
            clear H
            have hcz32_0 : wr.cell? ⟨gb215, 0, none⟩ = some (.int .u32 a1_0) := (blk_cell BK215.out 0).trans rfl
            have hcz32_1 : wr.cell? ⟨gb215, 1, none⟩ = some (.int .u32 a1_1) := (blk_cell BK215.out 1).trans rfl
            have hfz32_0 := blk_frozen BK215.out 0
            have hfz32_1 := blk_frozen BK215.out 1
            go_wp2_with (first | ((with_reducible refine gate_builtin (b := .append) (xs := #[.tmp 48, .tmp 50]) rfl ?_); at_builtin; refine Kd.R_append (Kd.int .i64) (w0 := w) w.heap.size rfl (.tmp 48) (.tmp 50) 27 3 (.int .i64 0) 8 rfl Tryd.underlying27 info3 rfl (by decide) (by omega) u5 x5_2 1 [.int .i64 1] (fun _ => True) (fun _ => False) rfl rfl ?aP (fun _ hk => hk.elim) ?aF ?aO ?aB ?aS ?aL ?_; (case aP => exact rfl); (case aB => exact (by repeat (first | (with_reducible first | exact HB.out | apply below_alloc | apply pw_below_drewN | apply below_drew1 | refine below_set ?_ GE215.out) | exact HB.out))); (case aF => exact (fun _ _ => trivial)); (case aO => exact (by (with_reducible repeat (first | apply Kd.R_alloc | apply Kd.R_drewN | apply Kd.R_drew)); exact HO_5.out)); (case aS => exact (below_size (by repeat (first | (with_reducible first | exact HB.out | apply below_alloc | apply pw_below_drewN | apply below_drew1 | refine below_set ?_ GE215.out) | exact HB.out)))); (case aL => have := LMc31.out; omega); intro v224 w33 ho hb hg hat; rw [← Ny223.out] at ho; have n0_ := Aside0.mk (blk_grown (g := gb215) (o := .cells #[.int .u32 a1_0, .int .u32 a1_1] 60 (0, 0)) (by (with_reducible repeat (first | refine blk_drewN ?_ _ | refine blk_drew ?_ | refine blk_alloc ?_ _)); exact BK215.out) hg (Kd.R_ne HO_5.out BK215.out (by decide))); have n1_ := Aside0.mk (hb); have n2_ := Aside0.mk (ho); clear BK215; clear HB; clear HO_5; have BK215 := n0_; have HB := n1_; have HO225 := n2_; clear n0_ n1_ n2_; clear ho hb hg hat))
            go_roundg k2
            case measure => have := HJ4.out; have := HK2.out; omega
            case rel => exact ⟨(y223), (wrap64 (x31_2 + 1)), (by first | rfl | (simp; done) | (simp [*]; done)), H', ⟨by have := HJ4.out; have := HK2.out; omega⟩, ⟨by (with_reducible repeat (first | apply Kd.R_alloc | apply Kd.R_drewN | apply Kd.R_drew)); exact HO225.out⟩, ⟨by (with_reducible repeat (first | refine blk_drewN ?_ _ | refine blk_drew ?_ | refine blk_alloc ?_ _)); exact BK215.out⟩, ⟨by repeat (first | (with_reducible first | exact HB.out | apply below_alloc | apply pw_below_drewN | apply below_drew1 | refine below_set ?_ GE215.out) | exact HB.out)⟩⟩
           ·rw [if_neg c31] at H
            exact absurd H (by simp)
         ·rw [if_neg c24] at H
          have c24b0 : ((Go.bits .and .u32 (ji23) 1) == 1) = false := beq_eq_false_iff_ne.mpr c24
          have c24b1 : ((Go.bits .and .u32 (ji23) 1) != 1) = true := bne_iff_ne.mpr c24
          have c34b0 := eq_true (of_decide_eq_true (by first | (with_reducible assumption) | assumption) : 0 ≤ (ji21))
          obtain ⟨ji35, hji35⟩ : ∃ j_ : Int, (shr .u32 a1_1 (ji21)) = j_ := ⟨_, rfl⟩
          replace H : (if (Go.bits .and .u32 (ji35) 1) = 1 then (if x5_2.length < 17592186044416 then (hypercubelaw05_FaceTruth.l0 k2 l0 (x5_2 ++ [0]) (wrap64 (x31_2 + 1)) a1_0 a1_1) else (none)) else (if x5_2.length < 17592186044416 then (hypercubelaw05_FaceTruth.l0 k2 l0 (x5_2 ++ [2]) (wrap64 (x31_2 + 1)) a1_0 a1_1) else (none))) = some r := by first | (rw [hji35] at H; exact H) | (simp only [hji35] at H ⊢; exact H)
          have hji35_ : (a1_1 / 2 ^ min (ji21).toNat 32) = ji35 := hji35
          have hji35z : (ji21) ≤ 32 → (a1_1 / 2 ^ (ji21).toNat) = ji35 := shr_small hji35
          by_cases c36 : (Go.bits .and .u32 (ji35) 1) = 1
          ·rw [if_pos c36] at H
           have c36b0 : ((Go.bits .and .u32 (ji35) 1) == 1) = true := beq_iff_eq.mpr c36
           have c36b1 : ((Go.bits .and .u32 (ji35) 1) != 1) = false := bne_eq_false_iff_eq.mpr c36
           clear c36
           by_cases c37 : x5_2.length < 17592186044416
           ·rw [if_pos c37] at H
            have LMc37 := Aside0.mk c37
            clear c37
            obtain ⟨y226, hy226⟩ : ∃ y_ : List Int, y_ = (x5_2 ++ [0]) := ⟨_, rfl⟩
            replace H : (hypercubelaw05_FaceTruth.l0 k2 l0 y226 (wrap64 (x31_2 + 1)) a1_0 a1_1) = some r := by first | (rw [hy226]; with_reducible exact H) | (have H2_ := (Option.bind_some _ _).symm.trans H; rw [hy226]; with_reducible exact H2_) | (have H2_ := (Option.bind_some _ _).symm.trans H; with_reducible exact H2_) | with_reducible exact H | (rw [hy226]; exact H) | exact H
            have Ny226 := Aside0.mk hy226
            clear hy226
            have H' := Aside0.mk H
            clear H
            have hcz38_0 : wr.cell? ⟨gb215, 0, none⟩ = some (.int .u32 a1_0) := (blk_cell BK215.out 0).trans rfl
            have hcz38_1 : wr.cell? ⟨gb215, 1, none⟩ = some (.int .u32 a1_1) := (blk_cell BK215.out 1).trans rfl
            have hfz38_0 := blk_frozen BK215.out 0
            have hfz38_1 := blk_frozen BK215.out 1
            go_wp2_with (first | ((with_reducible refine gate_builtin (b := .append) (xs := #[.tmp 48, .tmp 50]) rfl ?_); at_builtin; refine Kd.R_append (Kd.int .i64) (w0 := w) w.heap.size rfl (.tmp 48) (.tmp 50) 27 3 (.int .i64 0) 8 rfl Tryd.underlying27 info3 rfl (by decide) (by omega) u5 x5_2 0 [.int .i64 0] (fun _ => True) (fun _ => False) rfl rfl ?aP (fun _ hk => hk.elim) ?aF ?aO ?aB ?aS ?aL ?_; (case aP => exact rfl); (case aB => exact (by repeat (first | (with_reducible first | exact HB.out | apply below_alloc | apply pw_below_drewN | apply below_drew1 | refine below_set ?_ GE215.out) | exact HB.out))); (case aF => exact (fun _ _ => trivial)); (case aO => exact (by (with_reducible repeat (first | apply Kd.R_alloc | apply Kd.R_drewN | apply Kd.R_drew)); exact HO_5.out)); (case aS => exact (below_size (by repeat (first | (with_reducible first | exact HB.out | apply below_alloc | apply pw_below_drewN | apply below_drew1 | refine below_set ?_ GE215.out) | exact HB.out)))); (case aL => have := LMc37.out; omega); intro v227 w39 ho hb hg hat; rw [← Ny226.out] at ho; have n0_ := Aside0.mk (blk_grown (g := gb215) (o := .cells #[.int .u32 a1_0, .int .u32 a1_1] 60 (0, 0)) (by (with_reducible repeat (first | refine blk_drewN ?_ _ | refine blk_drew ?_ | refine blk_alloc ?_ _)); exact BK215.out) hg (Kd.R_ne HO_5.out BK215.out (by decide))); have n1_ := Aside0.mk (hb); have n2_ := Aside0.mk (ho); clear BK215; clear HB; clear HO_5; have BK215 := n0_; have HB := n1_; have HO228 := n2_; clear n0_ n1_ n2_; clear ho hb hg hat))
            go_roundg k2
            case measure => have := HJ4.out; have := HK2.out; omega
            case rel => exact ⟨(y226), (wrap64 (x31_2 + 1)), (by first | rfl | (simp; done) | (simp [*]; done)), H', ⟨by have := HJ4.out; have := HK2.out; omega⟩, ⟨by (with_reducible repeat (first | apply Kd.R_alloc | apply Kd.R_drewN | apply Kd.R_drew)); exact HO228.out⟩, ⟨by (with_reducible repeat (first | refine blk_drewN ?_ _ | refine blk_drew ?_ | refine blk_alloc ?_ _)); exact BK215.out⟩, ⟨by repeat (first | (with_reducible first | exact HB.out | apply below_alloc | apply pw_below_drewN | apply below_drew1 | refine below_set ?_ GE215.out) | exact HB.out)⟩⟩
           ·rw [if_neg c37] at H
            exact absurd H (by simp)
          ·rw [if_neg c36] at H
           have c36b0 : ((Go.bits .and .u32 (ji35) 1) == 1) = false := beq_eq_false_iff_ne.mpr c36
           have c36b1 : ((Go.bits .and .u32 (ji35) 1) != 1) = true := bne_iff_ne.mpr c36
           by_cases c40 : x5_2.length < 17592186044416
           ·rw [if_pos c40] at H
            have LMc40 := Aside0.mk c40
            clear c40
            obtain ⟨y229, hy229⟩ : ∃ y_ : List Int, y_ = (x5_2 ++ [2]) := ⟨_, rfl⟩
            replace H : (hypercubelaw05_FaceTruth.l0 k2 l0 y229 (wrap64 (x31_2 + 1)) a1_0 a1_1) = some r := by first | (rw [hy229]; with_reducible exact H) | (have H2_ := (Option.bind_some _ _).symm.trans H; rw [hy229]; with_reducible exact H2_) | (have H2_ := (Option.bind_some _ _).symm.trans H; with_reducible exact H2_) | with_reducible exact H | (rw [hy229]; exact H) | exact H
            have Ny229 := Aside0.mk hy229
            clear hy229
            have H' := Aside0.mk H
            clear H
            have hcz41_0 : wr.cell? ⟨gb215, 0, none⟩ = some (.int .u32 a1_0) := (blk_cell BK215.out 0).trans rfl
            have hcz41_1 : wr.cell? ⟨gb215, 1, none⟩ = some (.int .u32 a1_1) := (blk_cell BK215.out 1).trans rfl
            have hfz41_0 := blk_frozen BK215.out 0
            have hfz41_1 := blk_frozen BK215.out 1
            go_wp2_with (first | ((with_reducible refine gate_builtin (b := .append) (xs := #[.tmp 48, .tmp 50]) rfl ?_); at_builtin; refine Kd.R_append (Kd.int .i64) (w0 := w) w.heap.size rfl (.tmp 48) (.tmp 50) 27 3 (.int .i64 0) 8 rfl Tryd.underlying27 info3 rfl (by decide) (by omega) u5 x5_2 2 [.int .i64 2] (fun _ => True) (fun _ => False) rfl rfl ?aP (fun _ hk => hk.elim) ?aF ?aO ?aB ?aS ?aL ?_; (case aP => exact rfl); (case aB => exact (by repeat (first | (with_reducible first | exact HB.out | apply below_alloc | apply pw_below_drewN | apply below_drew1 | refine below_set ?_ GE215.out) | exact HB.out))); (case aF => exact (fun _ _ => trivial)); (case aO => exact (by (with_reducible repeat (first | apply Kd.R_alloc | apply Kd.R_drewN | apply Kd.R_drew)); exact HO_5.out)); (case aS => exact (below_size (by repeat (first | (with_reducible first | exact HB.out | apply below_alloc | apply pw_below_drewN | apply below_drew1 | refine below_set ?_ GE215.out) | exact HB.out)))); (case aL => have := LMc40.out; omega); intro v230 w42 ho hb hg hat; rw [← Ny229.out] at ho; have n0_ := Aside0.mk (blk_grown (g := gb215) (o := .cells #[.int .u32 a1_0, .int .u32 a1_1] 60 (0, 0)) (by (with_reducible repeat (first | refine blk_drewN ?_ _ | refine blk_drew ?_ | refine blk_alloc ?_ _)); exact BK215.out) hg (Kd.R_ne HO_5.out BK215.out (by decide))); have n1_ := Aside0.mk (hb); have n2_ := Aside0.mk (ho); clear BK215; clear HB; clear HO_5; have BK215 := n0_; have HB := n1_; have HO231 := n2_; clear n0_ n1_ n2_; clear ho hb hg hat))
            go_roundg k2
            case measure => have := HJ4.out; have := HK2.out; omega
            case rel => exact ⟨(y229), (wrap64 (x31_2 + 1)), (by first | rfl | (simp; done) | (simp [*]; done)), H', ⟨by have := HJ4.out; have := HK2.out; omega⟩, ⟨by (with_reducible repeat (first | apply Kd.R_alloc | apply Kd.R_drewN | apply Kd.R_drew)); exact HO231.out⟩, ⟨by (with_reducible repeat (first | refine blk_drewN ?_ _ | refine blk_drew ?_ | refine blk_alloc ?_ _)); exact BK215.out⟩, ⟨by repeat (first | (with_reducible first | exact HB.out | apply below_alloc | apply pw_below_drewN | apply below_drew1 | refine below_set ?_ GE215.out) | exact HB.out)⟩⟩
           ·rw [if_neg c40] at H
            exact absurd H (by simp)
        ·rw [if_neg c22] at H
         exact absurd H (by simp)
       ·rw [if_neg c20] at H
        have c20b0 : decide (x31_2 < 24) = false := decide_eq_false c20
        clear c20
        replace H := Option.bind_eq_some_iff.mp H
        obtain ⟨⟨t232, t233⟩, A430, H⟩ := H
        replace H : (if t233 = 0 then ((face_Of.f l0).bind fun bt234 => ((face_Holds.f bt234.1 a1_0 a1_1).bind fun bt238 => (if bt234.2 = 0 then (if bt238.2 = 0 then (hypercubelaw05_FaceTruth.j2 k2 l0 t232 (bt238.1 != (t232 == 1)) a1_0 a1_1) else (hypercubelaw05_FaceTruth.j2 k2 l0 t232 true a1_0 a1_1)) else (hypercubelaw05_FaceTruth.j2 k2 l0 t232 true a1_0 a1_1)))) else (some true)) = some r := H
        have A43 := Aside0.mk A430
        clear A430
        by_cases c44 : t233 = 0
        ·rw [if_pos c44] at H
         have c44b0 : (t233 == 0) = true := beq_iff_eq.mpr c44
         have c44b1 : (t233 != 0) = false := bne_eq_false_iff_eq.mpr c44
         clear c44
         replace H := Option.bind_eq_some_iff.mp H
         obtain ⟨⟨t234, t235⟩, A450, H⟩ := H
         replace H : ((face_Holds.f t234 a1_0 a1_1).bind fun bt238 => (if t235 = 0 then (if bt238.2 = 0 then (hypercubelaw05_FaceTruth.j2 k2 l0 t232 (bt238.1 != (t232 == 1)) a1_0 a1_1) else (hypercubelaw05_FaceTruth.j2 k2 l0 t232 true a1_0 a1_1)) else (hypercubelaw05_FaceTruth.j2 k2 l0 t232 true a1_0 a1_1))) = some r := H
         have A45 := Aside0.mk A450
         clear A450
         replace H := Option.bind_eq_some_iff.mp H
         obtain ⟨⟨t238, t239⟩, A460, H⟩ := H
         replace H : (if t235 = 0 then (if t239 = 0 then (hypercubelaw05_FaceTruth.j2 k2 l0 t232 (t238 != (t232 == 1)) a1_0 a1_1) else (hypercubelaw05_FaceTruth.j2 k2 l0 t232 true a1_0 a1_1)) else (hypercubelaw05_FaceTruth.j2 k2 l0 t232 true a1_0 a1_1)) = some r := H
         have A46 := Aside0.mk A460
         clear A460
         have HC47 := Aside0.mk H
         clear H
         obtain ⟨Ao48, co48, eo48⟩ := Kd.R_slice HO_5.out
         subst eo48
         go_upto_region 21 with (first | ((with_reducible refine gate_callee (f := 21) rfl ?_); refine goesL_ (some 56) rfl rfl Tryd.func21 (by kernel_rfl) rfl #[.slice A0 l0.length c0, .slice Ao48 x5_2.length co48] rfl (by (try simp only [List.map_toArray, List.map_cons, List.map_nil]); first | done | rfl | (simp only [List.length_drop, List.length_take]; rfl)) ?_; (with_reducible refine (truth_Eval.calls (HT := ⟨TabT.below HT.out (by repeat (first | (with_reducible first | exact HB.out | apply below_alloc | apply pw_below_drewN | apply below_drew1 | refine below_set ?_ GE215.out) | exact HB.out))⟩) k2 _ _ l0 _ _ x5_2 t232 t233 _ ?side1 ?side2 ?side3 ?side4 A43.out).mono ?_); (case side1 => repeat (first | exact (Kd.C_below HR0.out HB.out) | (with_reducible refine Kd.C_alloc ?_ _) | (with_reducible refine Kd.C_drewN ?_ _) | (with_reducible refine Kd.C_drew ?_))); (case side2 => exact HC0.out); (case side3 => repeat (first | exact (Kd.R_reads' HO_5.out).2.2 | (with_reducible refine Kd.C_alloc ?_ _) | (with_reducible refine Kd.C_drewN ?_ _) | (with_reducible refine Kd.C_drew ?_))); (case side4 => exact (Kd.R_reads' HO_5.out).2.1); rintro e w49 ⟨rfl, hb⟩; refine ⟨_, rfl, ?_⟩; have n0_ := Aside0.mk (Kd.R_below (by (with_reducible repeat (first | apply Kd.R_alloc | apply Kd.R_drewN | apply Kd.R_drew)); exact HO_5.out) hb); have n1_ := Aside0.mk (blk_below (g := gb215) (o := .cells #[.int .u32 a1_0, .int .u32 a1_1] 60 (0, 0)) (by (with_reducible repeat (first | refine blk_drewN ?_ _ | refine blk_drew ?_ | refine blk_alloc ?_ _)); exact BK215.out) hb); have n2_ := Aside0.mk (below_step (by repeat (first | (with_reducible first | exact HB.out | apply below_alloc | apply pw_below_drewN | apply below_drew1 | refine below_set ?_ GE215.out) | exact HB.out)) hb); clear HO_5; clear BK215; clear HB; have HO_5 := n0_; have BK215 := n1_; have HB := n2_; clear n0_ n1_ n2_; (try clear hb); (try clear hb2); (try clear hk); (try clear hi)) | ((with_reducible refine gate_callee (f := 45) rfl ?_); refine goesL_ (some 63) rfl rfl Tryd.func45 (by kernel_rfl) rfl #[.slice A0 l0.length c0] rfl (by (try simp only [List.map_toArray, List.map_cons, List.map_nil]); first | done | rfl | (simp only [List.length_drop, List.length_take]; rfl)) ?_; (with_reducible refine (face_Of.calls _ _ l0 t234 t235 _ ?side1 ?side2 A45.out).mono ?_); (case side1 => repeat (first | exact (Kd.C_below HR0.out HB.out) | (with_reducible refine Kd.C_alloc ?_ _) | (with_reducible refine Kd.C_drewN ?_ _) | (with_reducible refine Kd.C_drew ?_))); (case side2 => exact HC0.out); rintro e w50 ⟨v236, rfl, ho0, hb⟩; refine ⟨_, rfl, ?_⟩; have n0_ := Aside0.mk (Kd.R_below (by (with_reducible repeat (first | apply Kd.R_alloc | apply Kd.R_drewN | apply Kd.R_drew)); exact HO_5.out) hb); have n1_ := Aside0.mk (Kd.R_lower (Kd.R_newB ho0 (g := gb215) (o := .cells #[.int .u32 a1_0, .int .u32 a1_1] 60 (0, 0)) (by (with_reducible repeat (first | refine blk_drewN ?_ _ | refine blk_drew ?_ | refine blk_alloc ?_ _)); exact BK215.out)) (below_size (by repeat (first | (with_reducible first | exact HB.out | apply below_alloc | apply pw_below_drewN | apply below_drew1 | refine below_set ?_ GE215.out) | exact HB.out)))); have n2_ := Aside0.mk (blk_below (g := gb215) (o := .cells #[.int .u32 a1_0, .int .u32 a1_1] 60 (0, 0)) (by (with_reducible repeat (first | refine blk_drewN ?_ _ | refine blk_drew ?_ | refine blk_alloc ?_ _)); exact BK215.out) hb); have n3_ := Aside0.mk (below_step (by repeat (first | (with_reducible first | exact HB.out | apply below_alloc | apply pw_below_drewN | apply below_drew1 | refine below_set ?_ GE215.out) | exact HB.out)) hb); clear HO_5; clear BK215; clear HB; have HO_5 := n0_; have HO237 := n1_; have BK215 := n2_; have HB := n3_; clear n0_ n1_ n2_ n3_; (try clear hb); (try clear hb2); (try clear hk); (try clear hi); (try clear ho0); have hcz51_0 : w50.cell? ⟨gb215, 0, none⟩ = some (.int .u32 a1_0) := (blk_cell BK215.out 0).trans rfl; have hcz51_1 : w50.cell? ⟨gb215, 1, none⟩ = some (.int .u32 a1_1) := (blk_cell BK215.out 1).trans rfl; have hfz51_0 := blk_frozen BK215.out 0; have hfz51_1 := blk_frozen BK215.out 1; obtain ⟨Ao52, co52, eo52⟩ := Kd.R_slice HO237.out; subst eo52) | ((with_reducible refine gate_callee (f := 46) rfl ?_); refine goesL_ (some 69) rfl rfl Tryd.func46 (by kernel_rfl) rfl #[.slice Ao52 t234.length co52, .agg #[.int .u32 a1_0, .int .u32 a1_1]] rfl (by (try simp only [List.map_toArray, List.map_cons, List.map_nil]); first | done | rfl | (simp only [List.length_drop, List.length_take]; rfl)) ?_; (with_reducible refine (face_Holds.calls _ _ t234 a1_0 a1_1 t238 t239 _ ?side1 ?side2 A46.out).mono ?_); (case side1 => repeat (first | exact (Kd.R_reads' HO237.out).2.2 | (with_reducible refine Kd.C_alloc ?_ _) | (with_reducible refine Kd.C_drewN ?_ _) | (with_reducible refine Kd.C_drew ?_))); (case side2 => exact (Kd.R_reads' HO237.out).2.1); rintro e w53 ⟨rfl, hb⟩; refine ⟨_, rfl, ?_⟩; have n0_ := Aside0.mk (Kd.R_below (by (with_reducible repeat (first | apply Kd.R_alloc | apply Kd.R_drewN | apply Kd.R_drew)); exact HO_5.out) hb); have n1_ := Aside0.mk (Kd.R_below (by (with_reducible repeat (first | apply Kd.R_alloc | apply Kd.R_drewN | apply Kd.R_drew)); exact HO237.out) hb); have n2_ := Aside0.mk (blk_below (g := gb215) (o := .cells #[.int .u32 a1_0, .int .u32 a1_1] 60 (0, 0)) (by (with_reducible repeat (first | refine blk_drewN ?_ _ | refine blk_drew ?_ | refine blk_alloc ?_ _)); exact BK215.out) hb); have n3_ := Aside0.mk (below_step (by repeat (first | (with_reducible first | exact HB.out | apply below_alloc | apply pw_below_drewN | apply below_drew1 | refine below_set ?_ GE215.out) | exact HB.out)) hb); clear HO_5; clear HO237; clear BK215; clear HB; have HO_5 := n0_; have HO237 := n1_; have BK215 := n2_; have HB := n3_; clear n0_ n1_ n2_ n3_; (try clear hb); (try clear hb2); (try clear hk); (try clear hi)))
         (try simp only [Act.put, List.setIfInBounds_toArray, List.set_cons_zero, List.set_cons_succ])
         go_cut [83] (fun v83 wc => ∃ (kq : Nat) (x83_46 : Bool), v83 = .bool x83_46 ∧ Aside0 (hypercubelaw05_FaceTruth.j2 kq l0 t232 x83_46 a1_0 a1_1 = some r) ∧ Aside0 (kq ≤ k2) ∧ Aside0 (wc.heap[gb215]? = some (.cells #[.int .u32 a1_0, .int .u32 a1_1] 60 (0, 0))) ∧ Aside0 (Below w.heap.size w wc))
         case first =>
          have H := HC47.out
          clear HC47
          by_cases c54 : t235 = 0
          ·rw [if_pos c54] at H
           have c54b0 : (t235 == 0) = true := beq_iff_eq.mpr c54
           have c54b1 : (t235 != 0) = false := bne_eq_false_iff_eq.mpr c54
           clear c54
           (first | rw [c54b0] | (simp only [i64_w, i32_w]; rw [c54b0]) | skip)
           by_cases c55 : t239 = 0
           ·rw [if_pos c55] at H
            have c55b0 : (t239 == 0) = true := beq_iff_eq.mpr c55
            have c55b1 : (t239 != 0) = false := bne_eq_false_iff_eq.mpr c55
            clear c55
            have H' := Aside0.mk H
            clear H
            go_wp2
            go_meet
            case rel => exact ⟨_, ((t238 != (t232 == 1))), (by first | rfl | (simp; done) | (simp [*]; done)), H', ⟨by have := HJ4.out; have := HK2.out; first | omega | exact Nat.le_refl _⟩, ⟨by (with_reducible repeat (first | refine blk_drewN ?_ _ | refine blk_drew ?_ | refine blk_alloc ?_ _)); exact BK215.out⟩, ⟨by repeat (first | (with_reducible first | exact HB.out | apply below_alloc | apply pw_below_drewN | apply below_drew1 | refine below_set ?_ GE215.out) | exact HB.out)⟩⟩
           ·rw [if_neg c55] at H
            have c55b0 : (t239 == 0) = false := beq_eq_false_iff_ne.mpr c55
            have c55b1 : (t239 != 0) = true := bne_iff_ne.mpr c55
            have H' := Aside0.mk H
            clear H
            go_wp2
            go_meet
            case rel => exact ⟨_, (true), (by first | rfl | (simp; done) | (simp [*]; done)), H', ⟨by have := HJ4.out; have := HK2.out; first | omega | exact Nat.le_refl _⟩, ⟨by (with_reducible repeat (first | refine blk_drewN ?_ _ | refine blk_drew ?_ | refine blk_alloc ?_ _)); exact BK215.out⟩, ⟨by repeat (first | (with_reducible first | exact HB.out | apply below_alloc | apply pw_below_drewN | apply below_drew1 | refine below_set ?_ GE215.out) | exact HB.out)⟩⟩
          ·rw [if_neg c54] at H
           have c54b0 : (t235 == 0) = false := beq_eq_false_iff_ne.mpr c54
           have c54b1 : (t235 != 0) = true := bne_iff_ne.mpr c54
           (first | rw [c54b0] | (simp only [i64_w, i32_w]; rw [c54b0]) | skip)
           have H' := Aside0.mk H
           clear H
           go_wp2
           go_meet
           case rel => exact ⟨_, (true), (by first | rfl | (simp; done) | (simp [*]; done)), H', ⟨by have := HJ4.out; have := HK2.out; first | omega | exact Nat.le_refl _⟩, ⟨by (with_reducible repeat (first | refine blk_drewN ?_ _ | refine blk_drew ?_ | refine blk_alloc ?_ _)); exact BK215.out⟩, ⟨by repeat (first | (with_reducible first | exact HB.out | apply below_alloc | apply pw_below_drewN | apply below_drew1 | refine below_set ?_ GE215.out) | exact HB.out)⟩⟩
         case rest =>
          clear HC47
          try clear c1
          try clear c2
          try clear p2
          try clear c3
          try clear c4
          try clear c5
          try clear p6
          try clear c9
          try clear c11
          try clear c19
          try clear c20
          try clear c20b0
          try clear c21
          try clear c22
          try clear c22b0
          try clear c22b1
          try clear c24
          try clear c24b0
          try clear c24b1
          try clear c25
          try clear c25b0
          try clear c27
          try clear c27b0
          try clear c27b1
          try clear c28
          try clear c31
          try clear c34
          try clear c34b0
          try clear c36
          try clear c36b0
          try clear c36b1
          try clear c37
          try clear c40
          try clear c41
          try clear c42
          try clear c44
          try clear c44b0
          try clear c44b1
          try clear c45
          try clear c46
          try clear c54
          try clear c54b0
          try clear c54b1
          try clear c55
          try clear c55b0
          try clear c55b1
          try clear hcz13_0
          try clear hcz13_1
          try clear hcz15_0
          try clear hcz15_1
          try clear hcz17_0
          try clear hcz17_1
          try clear hcz29_0
          try clear hcz29_1
          try clear hcz32_0
          try clear hcz32_1
          try clear hcz38_0
          try clear hcz38_1
          try clear hcz41_0
          try clear hcz41_1
          try clear hcz51_0
          try clear hcz51_1
          try clear hfz13_0
          try clear hfz13_1
          try clear hfz15_0
          try clear hfz15_1
          try clear hfz17_0
          try clear hfz17_1
          try clear hfz29_0
          try clear hfz29_1
          try clear hfz32_0
          try clear hfz32_1
          try clear hfz38_0
          try clear hfz38_1
          try clear hfz41_0
          try clear hfz41_1
          try clear hfz51_0
          try clear hfz51_1
          try clear p2
          obtain ⟨kq, x83_46, rfl, HA, HJ46, BK215, HB⟩ := hcut
          cases kq with
          | zero => exact absurd HA.out (by simp [hypercubelaw05_FaceTruth.j2])
          | succ kj46 =>
           have H := HA.out
           clear HA
           simp only [hypercubelaw05_FaceTruth.j2] at H
           by_cases c56 : x83_46 = true
           ·subst c56
            have H1 : (some false) = some r := by rw [if_pos rfl] at H; exact H
            clear H
            have H := H1
            clear H1
            exact absurd ((Option.some.inj H).trans hr_.out) Bool.false_ne_true
           ·replace c56 := Bool.eq_false_iff.mpr c56
            subst c56
            have H1 : ((face_OfZero.f l0).bind fun bt240 => (if bt240.2 = 0 then ((face_Holds.f bt240.1 a1_0 a1_1).bind fun bt244 => (if bt244.2 = 0 then (some (bt244.1 == (t232 == 0))) else (some false))) else (some (bt240.2 == 3)))) = some r := by rw [if_neg (show ¬ (false = true) by decide)] at H; exact H
            clear H
            have H := H1
            clear H1
            replace H := Option.bind_eq_some_iff.mp H
            obtain ⟨⟨t240, t241⟩, A570, H⟩ := H
            replace H : (if t241 = 0 then ((face_Holds.f t240 a1_0 a1_1).bind fun bt244 => (if bt244.2 = 0 then (some (bt244.1 == (t232 == 0))) else (some false))) else (some (t241 == 3))) = some r := H
            have A57 := Aside0.mk A570
            clear A570
            by_cases c58 : t241 = 0
            ·rw [if_pos c58] at H
             have c58b0 : (t241 == 0) = true := beq_iff_eq.mpr c58
             have c58b1 : (t241 != 0) = false := bne_eq_false_iff_eq.mpr c58
             clear c58
             replace H := Option.bind_eq_some_iff.mp H
             obtain ⟨⟨t244, t245⟩, A590, H⟩ := H
             replace H : (if t245 = 0 then (some (t244 == (t232 == 0))) else (some false)) = some r := H
             have A59 := Aside0.mk A590
             clear A590
             by_cases c60 : t245 = 0
             ·rw [if_pos c60] at H
              have c60b0 : (t245 == 0) = true := beq_iff_eq.mpr c60
              have c60b1 : (t245 != 0) = false := bne_eq_false_iff_eq.mpr c60
              clear c60
              obtain rfl := Option.some.inj H
              go_wp2_with (first | ((with_reducible refine gate_callee (f := 47) rfl ?_); refine goesL_ (some 86) rfl rfl Tryd.func47 (by kernel_rfl) rfl #[.slice A0 l0.length c0] rfl (by (try simp only [List.map_toArray, List.map_cons, List.map_nil]); first | done | rfl | (simp only [List.length_drop, List.length_take]; rfl)) ?_; (with_reducible refine (face_OfZero.calls (HT := ⟨Tab.below HT.out.lib (by repeat (first | (with_reducible first | exact HB.out | apply below_alloc | apply pw_below_drewN | apply below_drew1 | refine below_set ?_ GE215.out) | exact HB.out))⟩) _ _ l0 t240 t241 _ ?side1 ?side2 A57.out).mono ?_); (case side1 => repeat (first | exact (Kd.C_below HR0.out HB.out) | (with_reducible refine Kd.C_alloc ?_ _) | (with_reducible refine Kd.C_drewN ?_ _) | (with_reducible refine Kd.C_drew ?_))); (case side2 => exact HC0.out); rintro e w61 ⟨v242, rfl, ho0, hb⟩; refine ⟨_, rfl, ?_⟩; have n0_ := Aside0.mk (Kd.R_lower (Kd.R_newB ho0 (g := gb215) (o := .cells #[.int .u32 a1_0, .int .u32 a1_1] 60 (0, 0)) (by (with_reducible repeat (first | refine blk_drewN ?_ _ | refine blk_drew ?_ | refine blk_alloc ?_ _)); exact BK215.out)) (below_size (by repeat (first | (with_reducible first | exact HB.out | apply below_alloc | apply pw_below_drewN | apply below_drew1 | refine below_set ?_ GE215.out) | exact HB.out)))); have n1_ := Aside0.mk (blk_below (g := gb215) (o := .cells #[.int .u32 a1_0, .int .u32 a1_1] 60 (0, 0)) (by (with_reducible repeat (first | refine blk_drewN ?_ _ | refine blk_drew ?_ | refine blk_alloc ?_ _)); exact BK215.out) hb); have n2_ := Aside0.mk (below_step (by repeat (first | (with_reducible first | exact HB.out | apply below_alloc | apply pw_below_drewN | apply below_drew1 | refine below_set ?_ GE215.out) | exact HB.out)) hb); clear BK215; clear HB; have HO243 := n0_; have BK215 := n1_; have HB := n2_; clear n0_ n1_ n2_; (try clear hb); (try clear hb2); (try clear hk); (try clear hi); (try clear ho0); have hcz62_0 : w61.cell? ⟨gb215, 0, none⟩ = some (.int .u32 a1_0) := (blk_cell BK215.out 0).trans rfl; have hcz62_1 : w61.cell? ⟨gb215, 1, none⟩ = some (.int .u32 a1_1) := (blk_cell BK215.out 1).trans rfl; have hfz62_0 := blk_frozen BK215.out 0; have hfz62_1 := blk_frozen BK215.out 1; obtain ⟨Ao63, co63, eo63⟩ := Kd.R_slice HO243.out; subst eo63) | ((with_reducible refine gate_callee (f := 46) rfl ?_); refine goesL_ (some 96) rfl rfl Tryd.func46 (by kernel_rfl) rfl #[.slice Ao63 t240.length co63, .agg #[.int .u32 a1_0, .int .u32 a1_1]] rfl (by (try simp only [List.map_toArray, List.map_cons, List.map_nil]); first | done | rfl | (simp only [List.length_drop, List.length_take]; rfl)) ?_; (with_reducible refine (face_Holds.calls _ _ t240 a1_0 a1_1 t244 t245 _ ?side1 ?side2 A59.out).mono ?_); (case side1 => repeat (first | exact (Kd.R_reads' HO243.out).2.2 | (with_reducible refine Kd.C_alloc ?_ _) | (with_reducible refine Kd.C_drewN ?_ _) | (with_reducible refine Kd.C_drew ?_))); (case side2 => exact (Kd.R_reads' HO243.out).2.1); rintro e w64 ⟨rfl, hb⟩; refine ⟨_, rfl, ?_⟩; have n0_ := Aside0.mk (Kd.R_below (by (with_reducible repeat (first | apply Kd.R_alloc | apply Kd.R_drewN | apply Kd.R_drew)); exact HO243.out) hb); have n1_ := Aside0.mk (blk_below (g := gb215) (o := .cells #[.int .u32 a1_0, .int .u32 a1_1] 60 (0, 0)) (by (with_reducible repeat (first | refine blk_drewN ?_ _ | refine blk_drew ?_ | refine blk_alloc ?_ _)); exact BK215.out) hb); have n2_ := Aside0.mk (below_step (by repeat (first | (with_reducible first | exact HB.out | apply below_alloc | apply pw_below_drewN | apply below_drew1 | refine below_set ?_ GE215.out) | exact HB.out)) hb); clear HO243; clear BK215; clear HB; have HO243 := n0_; have BK215 := n1_; have HB := n2_; clear n0_ n1_ n2_; (try clear hb); (try clear hb2); (try clear hk); (try clear hi)))
              go_ret
              exact ⟨by first | rfl | (simp [errW_none, errW_some] <;> rfl) | (simp [*, errW_none, errW_some] <;> rfl), by repeat (first | (with_reducible first | exact HB.out | apply below_alloc | apply pw_below_drewN | apply below_drew1 | refine below_set ?_ GE215.out) | exact HB.out)⟩
             ·rw [if_neg c60] at H
              have c60b0 : (t245 == 0) = false := beq_eq_false_iff_ne.mpr c60
              have c60b1 : (t245 != 0) = true := bne_iff_ne.mpr c60
              exact absurd ((Option.some.inj H).trans hr_.out) Bool.false_ne_true
            ·rw [if_neg c58] at H
             have c58b0 : (t241 == 0) = false := beq_eq_false_iff_ne.mpr c58
             have c58b1 : (t241 != 0) = true := bne_iff_ne.mpr c58
             obtain rfl := Option.some.inj H
             go_wp2_with (first | ((with_reducible refine gate_callee (f := 47) rfl ?_); refine goesL_ (some 86) rfl rfl Tryd.func47 (by kernel_rfl) rfl #[.slice A0 l0.length c0] rfl (by (try simp only [List.map_toArray, List.map_cons, List.map_nil]); first | done | rfl | (simp only [List.length_drop, List.length_take]; rfl)) ?_; (with_reducible refine (face_OfZero.calls (HT := ⟨Tab.below HT.out.lib (by repeat (first | (with_reducible first | exact HB.out | apply below_alloc | apply pw_below_drewN | apply below_drew1 | refine below_set ?_ GE215.out) | exact HB.out))⟩) _ _ l0 t240 t241 _ ?side1 ?side2 A57.out).mono ?_); (case side1 => repeat (first | exact (Kd.C_below HR0.out HB.out) | (with_reducible refine Kd.C_alloc ?_ _) | (with_reducible refine Kd.C_drewN ?_ _) | (with_reducible refine Kd.C_drew ?_))); (case side2 => exact HC0.out); rintro e w65 ⟨v242, rfl, ho0, hb⟩; refine ⟨_, rfl, ?_⟩; have n0_ := Aside0.mk (Kd.R_lower (Kd.R_newB ho0 (g := gb215) (o := .cells #[.int .u32 a1_0, .int .u32 a1_1] 60 (0, 0)) (by (with_reducible repeat (first | refine blk_drewN ?_ _ | refine blk_drew ?_ | refine blk_alloc ?_ _)); exact BK215.out)) (below_size (by repeat (first | (with_reducible first | exact HB.out | apply below_alloc | apply pw_below_drewN | apply below_drew1 | refine below_set ?_ GE215.out) | exact HB.out)))); have n1_ := Aside0.mk (blk_below (g := gb215) (o := .cells #[.int .u32 a1_0, .int .u32 a1_1] 60 (0, 0)) (by (with_reducible repeat (first | refine blk_drewN ?_ _ | refine blk_drew ?_ | refine blk_alloc ?_ _)); exact BK215.out) hb); have n2_ := Aside0.mk (below_step (by repeat (first | (with_reducible first | exact HB.out | apply below_alloc | apply pw_below_drewN | apply below_drew1 | refine below_set ?_ GE215.out) | exact HB.out)) hb); clear BK215; clear HB; have HO243 := n0_; have BK215 := n1_; have HB := n2_; clear n0_ n1_ n2_; (try clear hb); (try clear hb2); (try clear hk); (try clear hi); (try clear ho0)))
             go_ret
             exact ⟨by first | rfl | (simp [errW_none, errW_some] <;> rfl) | (simp [*, errW_none, errW_some] <;> rfl), by repeat (first | (with_reducible first | exact HB.out | apply below_alloc | apply pw_below_drewN | apply below_drew1 | refine below_set ?_ GE215.out) | exact HB.out)⟩
        ·rw [if_neg c44] at H
         have c44b0 : (t233 == 0) = false := beq_eq_false_iff_ne.mpr c44
         have c44b1 : (t233 != 0) = true := bne_iff_ne.mpr c44
         obtain rfl := Option.some.inj H
         obtain ⟨Ao66, co66, eo66⟩ := Kd.R_slice HO_5.out
         subst eo66
         go_wp2_with (first | ((with_reducible refine gate_callee (f := 21) rfl ?_); refine goesL_ (some 56) rfl rfl Tryd.func21 (by kernel_rfl) rfl #[.slice A0 l0.length c0, .slice Ao66 x5_2.length co66] rfl (by (try simp only [List.map_toArray, List.map_cons, List.map_nil]); first | done | rfl | (simp only [List.length_drop, List.length_take]; rfl)) ?_; (with_reducible refine (truth_Eval.calls (HT := ⟨TabT.below HT.out (by repeat (first | (with_reducible first | exact HB.out | apply below_alloc | apply pw_below_drewN | apply below_drew1 | refine below_set ?_ GE215.out) | exact HB.out))⟩) k2 _ _ l0 _ _ x5_2 t232 t233 _ ?side1 ?side2 ?side3 ?side4 A43.out).mono ?_); (case side1 => repeat (first | exact (Kd.C_below HR0.out HB.out) | (with_reducible refine Kd.C_alloc ?_ _) | (with_reducible refine Kd.C_drewN ?_ _) | (with_reducible refine Kd.C_drew ?_))); (case side2 => exact HC0.out); (case side3 => repeat (first | exact (Kd.R_reads' HO_5.out).2.2 | (with_reducible refine Kd.C_alloc ?_ _) | (with_reducible refine Kd.C_drewN ?_ _) | (with_reducible refine Kd.C_drew ?_))); (case side4 => exact (Kd.R_reads' HO_5.out).2.1); rintro e w67 ⟨rfl, hb⟩; refine ⟨_, rfl, ?_⟩; have n0_ := Aside0.mk (Kd.R_below (by (with_reducible repeat (first | apply Kd.R_alloc | apply Kd.R_drewN | apply Kd.R_drew)); exact HO_5.out) hb); have n1_ := Aside0.mk (blk_below (g := gb215) (o := .cells #[.int .u32 a1_0, .int .u32 a1_1] 60 (0, 0)) (by (with_reducible repeat (first | refine blk_drewN ?_ _ | refine blk_drew ?_ | refine blk_alloc ?_ _)); exact BK215.out) hb); have n2_ := Aside0.mk (below_step (by repeat (first | (with_reducible first | exact HB.out | apply below_alloc | apply pw_below_drewN | apply below_drew1 | refine below_set ?_ GE215.out) | exact HB.out)) hb); clear HO_5; clear BK215; clear HB; have HO_5 := n0_; have BK215 := n1_; have HB := n2_; clear n0_ n1_ n2_; (try clear hb); (try clear hb2); (try clear hk); (try clear hi)))
         go_ret
         exact ⟨by first | rfl | (simp [errW_none, errW_some] <;> rfl) | (simp [*, errW_none, errW_some] <;> rfl), by repeat (first | (with_reducible first | exact HB.out | apply below_alloc | apply pw_below_drewN | apply below_drew1 | refine below_set ?_ GE215.out) | exact HB.out)⟩
 ·replace c4 := Bool.eq_false_iff.mpr c4
  subst c4
  have H1 : (some false) = some r := by rw [if_neg (show ¬ (false = true) by decide)] at H; exact H
  clear H
  have H := H1
  clear H1
  exact absurd ((Option.some.inj H).trans hr_.out) Bool.false_ne_true

end Go.Proofs.YtfbcgjkagdbckaaDoor.XTf
