-- Written for this claim by a program of ours (wip/xp.py), out of the translation and of hand-written contracts.
import Derived.Test.YtfbcgjkagdbckaaDoorXTmx0
import Derived.Test.YtfbcgjkagdbckaaDoorXTmx2
import Derived.Test.YtfbcgjkagdbckaaDoorXTmx5
namespace Go.Proofs.YtfbcgjkagdbckaaDoor.XTm
open Go.RowKit Go.Proofs.YtfbcgjkagdbckaaDoorW.PrintWords Go.Proofs.YtfbcgjkagdbckaaDoorW.PrintLast Go.Proofs.YtfbcgjkagdbckaaDoorW.PrintMore
attribute [local go_sem] max2_int min2_int max_two min_two max_three min_three max_four min_four   -- for this text's walks alone
set_option linter.unusedVariables false
set_option linter.unusedSimpArgs false

/-! ### formula_opposites: function 109 -/
mutual
def formula_opposites.l0 : Nat → List (S60) → List Int → Int → Int → Int → Int → Option ((List (S60)) × Int)
  | 0, _, _, _, _, _, _ => none
  | k + 1, x4, x11, x12, x13, x202000, x202001 => if x13 < x12 then (if 0 ≤ x13 then (if x13 < (x11.length : Int) then ((mask_With.f 0 (rd x11 x13)).bind fun t206 => (if x4.length < 17592186044416 then (formula_opposites.l0 k (x4 ++ [(⟨0, t206⟩ : S60)]) x11 x12 (wrap64 (x13 + 1)) x202000 x202001) else (none))) else (none)) else (none)) else ((mask_List.f x202001).bind fun t210 => (formula_opposites.l1 k x4 t210 (t210.length : Int) 0))
def formula_opposites.l1 : Nat → List (S60) → List Int → Int → Int → Option ((List (S60)) × Int)
  | 0, _, _, _, _ => none
  | k + 1, x4, x26, x27, x28 => if x28 < x27 then (if 0 ≤ x28 then (if x28 < (x26.length : Int) then ((mask_With.f 0 (rd x26 x28)).bind fun t214 => (if x4.length < 17592186044416 then (formula_opposites.l1 k (x4 ++ [(⟨t214, 0⟩ : S60)]) x26 x27 (wrap64 (x28 + 1))) else (none))) else (none)) else (none)) else ((clause_Least.f x4).bind fun bt218 => (some (bt218.1, bt218.2)))
end
def formula_opposites.f (k : Nat) (a0_0 : Int) (a0_1 : Int) : Option ((List (S60)) × Int) := (mask_List.f a0_0).bind fun t202 => (formula_opposites.l0 k ([] : List (S60)) t202 (t202.length : Int) 0 a0_0 a0_1)
theorem formula_opposites.mono_l : ∀ k, (∀ y0 y1 y2 y3 y4 y5, LeO (formula_opposites.l0 k y0 y1 y2 y3 y4 y5) (formula_opposites.l0 (k + 1) y0 y1 y2 y3 y4 y5)) ∧ (∀ y0 y1 y2 y3, LeO (formula_opposites.l1 k y0 y1 y2 y3) (formula_opposites.l1 (k + 1) y0 y1 y2 y3))
  | 0 => ⟨fun _ _ _ _ _ _ r h => by simp [formula_opposites.l0] at h, fun _ _ _ _ r h => by simp [formula_opposites.l1] at h⟩
  | k + 1 => by
    obtain ⟨ih0, ih1⟩ := formula_opposites.mono_l k
    refine ⟨?_, ?_⟩
    · intro y0 y1 y2 y3 y4 y5
      unfold formula_opposites.l0
      repeat' first
      | (with_reducible exact ih0 _ _ _ _ _ _)
      | (with_reducible exact ih1 _ _ _ _)
      | (with_reducible exact LeO.refl _)
      | (with_reducible exact LeO.none _)
      | (with_reducible refine LeO.ite ?_ ?_)
      | (with_reducible refine LeO.bind ?_ (fun _ => ?_))
      | exact ih0 _ _ _ _ _ _
      | exact ih1 _ _ _ _
      | exact LeO.none _
      | refine LeO.ite ?_ ?_
      | refine LeO.bind ?_ (fun _ => ?_)
    · intro y0 y1 y2 y3
      unfold formula_opposites.l1
      repeat' first
      | (with_reducible exact ih0 _ _ _ _ _ _)
      | (with_reducible exact ih1 _ _ _ _)
      | (with_reducible exact LeO.refl _)
      | (with_reducible exact LeO.none _)
      | (with_reducible refine LeO.ite ?_ ?_)
      | (with_reducible refine LeO.bind ?_ (fun _ => ?_))
      | exact ih0 _ _ _ _ _ _
      | exact ih1 _ _ _ _
      | exact LeO.none _
      | refine LeO.ite ?_ ?_
      | refine LeO.bind ?_ (fun _ => ?_)
theorem formula_opposites.mono : ∀ a0 a1 k, LeO (formula_opposites.f k a0 a1) (formula_opposites.f (k + 1) a0 a1) := by
  intro a0 a1 k
  obtain ⟨ih0, ih1⟩ := formula_opposites.mono_l k
  unfold formula_opposites.f
  repeat' first
      | (with_reducible exact ih0 _ _ _ _ _ _)
      | (with_reducible exact ih1 _ _ _ _)
      | (with_reducible exact LeO.refl _)
      | (with_reducible exact LeO.none _)
      | (with_reducible refine LeO.ite ?_ ?_)
      | (with_reducible refine LeO.bind ?_ (fun _ => ?_))
      | exact ih0 _ _ _ _ _ _
      | exact ih1 _ _ _ _
      | exact LeO.none _
      | refine LeO.ite ?_ ?_
      | refine LeO.bind ?_ (fun _ => ?_)
set_option maxHeartbeats 8000000 in
set_option maxRecDepth 100000 in
theorem formula_opposites.calls (k : Nat) (a0_0 : Int) (a0_1 : Int) (r1 : List (S60)) (r2 : Int) (w : World) (HT : Aside0 (Tab w)) (h : formula_opposites.f k a0_0 a0_1 = some (r1, r2)) :
  Calls Tryd.prog 109 #[.agg #[.int .u32 a0_0, .int .u32 a0_1]] w fun e w' => ∃ v0_ : Value, e = .returned (.tuple #[v0_, .int .i64 r2]) ∧ Kd.R k60 60 w' w.heap.size (fun _ => True) v0_ r1 ∧ Below w.heap.size w w' := by
 have hu60 := Tryd.underlying60
 have HB := Aside0.mk (Below.refl w.heap.size w)
 have H : ((mask_List.f a0_0).bind fun t202 => (formula_opposites.l0 k ([] : List (S60)) t202 (t202.length : Int) 0 a0_0 a0_1)) = some (r1, r2) := h
 clear h
 replace H := Option.bind_eq_some_iff.mp H
 obtain ⟨t202, A20, H⟩ := H
 replace H : (formula_opposites.l0 k ([] : List (S60)) t202 (t202.length : Int) 0 a0_0 a0_1) = some (r1, r2) := H
 have A2 := Aside0.mk A20
 clear A20
 have H' := Aside0.mk H
 clear H
 go_enter Tryd.func109, Tryd.ntmps109
 go_wp2_with (first | ((with_reducible refine gate_dst (N := 1) rfl ?_); refine box_event ?hg (N := 1) ?hd (cs := #[.int .u32 a0_0, .int .u32 a0_1]) (t := 60) ?hr ?_; (case hd => rfl); (case hg => rfl); (case hr => first | (go_simp; done) | (go_simp; rfl)); intro gb201 hg w3 hbox hb; have n0_ := Aside0.mk (below_step (by repeat (first | (with_reducible first | exact HB.out | apply below_alloc | apply pw_below_drewN | apply below_drew1) | exact HB.out)) hb); have n1_ := Aside0.mk (hbox); have n2_ := Aside0.mk ((by rw [hg]; exact (below_size (by repeat (first | (with_reducible first | exact HB.out | apply below_alloc | apply pw_below_drewN | apply below_drew1) | exact HB.out))) : w.heap.size ≤ gb201)); have n3_ := Aside0.mk ((by rw [hg]; exact (below_size (by repeat (first | (with_reducible first | exact HB.out | apply below_alloc | apply pw_below_drewN | apply below_drew1) | exact HB.out))) : w.heap.size ≤ gb201)); clear HB; have HB := n0_; have BK201 := n1_; have GW201 := n2_; have GE201 := n3_; clear n0_ n1_ n2_ n3_; clear hb hbox hg; have hcz4_0 : w3.cell? ⟨gb201, 0, none⟩ = some (.int .u32 a0_0) := (blk_cell BK201.out 0).trans rfl; have hcz4_1 : w3.cell? ⟨gb201, 1, none⟩ = some (.int .u32 a0_1) := (blk_cell BK201.out 1).trans rfl; have hfz4_0 := blk_frozen BK201.out 0; have hfz4_1 := blk_frozen BK201.out 1) | ((with_reducible refine gate_callee (f := 59) rfl ?_); refine goesL_ (some 11) rfl rfl Tryd.func59 (by kernel_rfl) rfl #[.int .u32 a0_0] rfl (by (try simp only [List.map_toArray, List.map_cons, List.map_nil]); first | done | rfl | (simp only [List.length_drop, List.length_take]; rfl)) ?_; (with_reducible refine (mask_List.calls (HT := ⟨Tab.below HT.out (by repeat (first | (with_reducible first | exact HB.out | apply below_alloc | apply pw_below_drewN | apply below_drew1 | refine below_set ?_ GE201.out) | exact HB.out))⟩) a0_0 t202 _ A2.out).mono ?_); rintro e w5 ⟨v203, rfl, ho0, hb⟩; refine ⟨_, rfl, ?_⟩; have n0_ := Aside0.mk (Kd.R_lower ho0 (below_size (by repeat (first | (with_reducible first | exact HB.out | apply below_alloc | apply pw_below_drewN | apply below_drew1 | refine below_set ?_ GE201.out) | exact HB.out)))); have n1_ := Aside0.mk (blk_below (g := gb201) (o := .cells #[.int .u32 a0_0, .int .u32 a0_1] 60 (0, 0)) (by (with_reducible repeat (first | refine blk_drewN ?_ _ | refine blk_drew ?_ | refine blk_alloc ?_ _)); exact BK201.out) hb); have n2_ := Aside0.mk (below_step (by repeat (first | (with_reducible first | exact HB.out | apply below_alloc | apply pw_below_drewN | apply below_drew1 | refine below_set ?_ GE201.out) | exact HB.out)) hb); clear BK201; clear HB; have HO204 := n0_; have BK201 := n1_; have HB := n2_; clear n0_ n1_ n2_; (try clear hb); (try clear hb2); (try clear hk); (try clear hi); (try clear ho0); obtain ⟨Ao6, co6, eo6⟩ := Kd.R_slice HO204.out; subst eo6))
 go_loopg [4, 13] k (fun kq v4 v13 w' => ∃ (x4_1 : List (S60)) (x13_1 : Int), v13 = .int .i64 x13_1 ∧ Aside0 (formula_opposites.l0 kq x4_1 t202 (t202.length : Int) x13_1 a0_0 a0_1 = some (r1, r2)) ∧ Aside0 (kq ≤ k) ∧ Aside0 (Kd.R k60 60 w' w.heap.size (fun k_ => k_ ≠ gb201) v4 x4_1) ∧ Aside0 (Kd.R (Kd.int .i64) 3 w' w.heap.size (fun _ => True) (.slice Ao6 t202.length co6) t202) ∧ Aside0 (w'.heap[gb201]? = some (.cells #[.int .u32 a0_0, .int .u32 a0_1] 60 (0, 0))) ∧ Aside0 (Below w.heap.size w w'))
 case atStart => exact ⟨(([] : List (S60))), (0), (by first | rfl | (simp; done) | (simp [*]; done)), H', ⟨Nat.le_refl _⟩, ⟨by first | exact Kd.R_nil _ _ _ _ _ | exact Kd.N_nil _ _ _ _ _ | exact Kd.V_nil _ _ _ _ _ | exact Kd.Q_nil _ _ _ _ _ | exact Kd.S_nil _ _ _ _ _⟩, ⟨by (with_reducible repeat (first | apply Kd.R_alloc | apply Kd.R_drewN | apply Kd.R_drew)); exact HO204.out⟩, ⟨by (with_reducible repeat (first | refine blk_drewN ?_ _ | refine blk_drew ?_ | refine blk_alloc ?_ _)); exact BK201.out⟩, ⟨by repeat (first | (with_reducible first | exact HB.out | apply below_alloc | apply pw_below_drewN | apply below_drew1 | refine below_set ?_ GE201.out) | exact HB.out)⟩⟩
 case round =>
  clear H'
  try clear c1
  try clear p2
  try clear c5
  try clear hcz4_0
  try clear hcz4_1
  try clear hfz4_0
  try clear hfz4_1
  obtain ⟨x4_1, x13_1, rfl, HA, HK1, HO_4, HO_11, BK201, HB⟩ := hrel
  cases gk with
  | zero => exact absurd HA.out (by simp [formula_opposites.l0])
  | succ k1 =>
   have H := HA.out
   clear HA
   simp only [formula_opposites.l0] at H
   by_cases c7 : x13_1 < (t202.length : Int)
   ·rw [if_pos c7] at H
    have c7b0 : decide (x13_1 < (t202.length : Int)) = true := decide_eq_true c7
    clear c7
    by_cases c8 : 0 ≤ x13_1
    ·rw [if_pos c8] at H
     have c8b0 : decide (0 ≤ x13_1) = true := decide_eq_true c8
     clear c8
     by_cases c9 : x13_1 < (t202.length : Int)
     ·rw [if_pos c9] at H
      have c9b0 : decide (x13_1 < (t202.length : Int)) = true := decide_eq_true c9
      clear c9
      replace H := Option.bind_eq_some_iff.mp H
      obtain ⟨t206, A100, H⟩ := H
      replace H : (if x4_1.length < 17592186044416 then (formula_opposites.l0 k1 (x4_1 ++ [(⟨0, t206⟩ : S60)]) t202 (t202.length : Int) (wrap64 (x13_1 + 1)) a0_0 a0_1) else (none)) = some (r1, r2) := H
      have A10 := Aside0.mk A100
      clear A100
      by_cases c11 : x4_1.length < 17592186044416
      ·rw [if_pos c11] at H
       have LMc11 := Aside0.mk c11
       clear c11
       obtain ⟨y207, hy207⟩ : ∃ y_ : List (S60), y_ = (x4_1 ++ [(⟨0, t206⟩ : S60)]) := ⟨_, rfl⟩
       replace H : (formula_opposites.l0 k1 y207 t202 (t202.length : Int) (wrap64 (x13_1 + 1)) a0_0 a0_1) = some (r1, r2) := by first | (rw [hy207]; with_reducible exact H) | (have H2_ := (Option.bind_some _ _).symm.trans H; rw [hy207]; with_reducible exact H2_) | (have H2_ := (Option.bind_some _ _).symm.trans H; with_reducible exact H2_) | with_reducible exact H | (rw [hy207]; exact H) | exact H
       have Ny207 := Aside0.mk hy207
       clear hy207
       have H' := Aside0.mk H
       clear H
       have p205 : 0 ≤ (x13_1 : Int) := of_decide_eq_true (by first | (with_reducible assumption) | assumption)
       have q205 : x13_1 < (t202.length : Int) := of_decide_eq_true (by first | (with_reducible assumption) | assumption)
       obtain ⟨ad205, e205, hx205_0⟩ := Kd.at_int (Kd.R_reads' HO_11.out).2.2 x13_1 p205 q205
       cases e205
       replace p205 := eq_true p205
       replace q205 := eq_true q205
       go_wp2_with (first | ((with_reducible refine gate_callee (f := 68) rfl ?_); refine goesL_ (some 19) rfl rfl Tryd.func68 (by kernel_rfl) rfl #[.int .u32 0, .int .i64 (rd t202 x13_1)] rfl (by (try simp only [List.map_toArray, List.map_cons, List.map_nil]); first | done | rfl | (simp only [List.length_drop, List.length_take]; rfl)) ?_; (with_reducible refine (mask_With.calls 0 (rd t202 x13_1) t206 _ A10.out).mono ?_); rintro e w' ⟨rfl, ⟨nd, rfl⟩⟩; refine ⟨_, rfl, ?_⟩) | ((with_reducible refine gate_builtin (b := .append) (xs := #[.tmp 17, .tmp 21]) rfl ?_); at_builtin; refine Kd.R_append k60 (w0 := w) w.heap.size rfl (.tmp 17) (.tmp 21) 26 60 (.agg #[(.int .u32 0), (.int .u32 0)]) 8 rfl Tryd.underlying26 info60 rfl (by decide) (by omega) u4 x4_1 (⟨0, t206⟩ : S60) [.int .u32 0, .int .u32 t206] (fun k_ => k_ ≠ gb201) (fun _ => False) rfl rfl ?aP (fun _ hk => hk.elim) ?aF ?aO ?aB ?aS ?aL ?_; (case aP => exact k60_mkM _ _ _ (⟨0, t206⟩ : S60)); (case aB => exact (by repeat (first | (with_reducible first | exact HB.out | apply below_alloc | apply pw_below_drewN | apply below_drew1 | refine below_set ?_ GE201.out) | exact HB.out))); (case aF => exact (fun k_ hk => Kd.freshB (g := gb201) (o := .cells #[.int .u32 a0_0, .int .u32 a0_1] 60 (0, 0)) (by (with_reducible repeat (first | refine blk_drewN ?_ _ | refine blk_drew ?_ | refine blk_alloc ?_ _)); exact BK201.out) k_ hk)); (case aO => exact (by (with_reducible repeat (first | apply Kd.R_alloc | apply Kd.R_drewN | apply Kd.R_drew)); exact HO_4.out)); (case aS => exact (below_size (by repeat (first | (with_reducible first | exact HB.out | apply below_alloc | apply pw_below_drewN | apply below_drew1 | refine below_set ?_ GE201.out) | exact HB.out)))); (case aL => have := LMc11.out; omega); intro v208 w12 ho hb hg hat; rw [← Ny207.out] at ho; have n0_ := Aside0.mk (Kd.R_over' (by (with_reducible repeat (first | apply Kd.R_alloc | apply Kd.R_drewN | apply Kd.R_drew)); exact HO_11.out) (Kd.R_typed (by (with_reducible repeat (first | apply Kd.R_alloc | apply Kd.R_drewN | apply Kd.R_drew)); exact HO_4.out)) (by decide) hg); have n1_ := Aside0.mk (blk_grown (g := gb201) (o := .cells #[.int .u32 a0_0, .int .u32 a0_1] 60 (0, 0)) (by (with_reducible repeat (first | refine blk_drewN ?_ _ | refine blk_drew ?_ | refine blk_alloc ?_ _)); exact BK201.out) hg (Kd.R_away HO_4.out (fun _ hk => hk))); have n2_ := Aside0.mk (hb); have n3_ := Aside0.mk (ho); clear HO_11; clear BK201; clear HB; clear HO_4; have HO_11 := n0_; have BK201 := n1_; have HB := n2_; have HO209 := n3_; clear n0_ n1_ n2_ n3_; clear ho hb hg hat))
       go_roundg k1
       case measure => have := HK1.out; omega
       case rel => exact ⟨(y207), (wrap64 (x13_1 + 1)), (by first | rfl | (simp; done) | (simp [*]; done)), H', ⟨by have := HK1.out; omega⟩, ⟨by (with_reducible repeat (first | apply Kd.R_alloc | apply Kd.R_drewN | apply Kd.R_drew)); exact HO209.out⟩, ⟨by (with_reducible repeat (first | apply Kd.R_alloc | apply Kd.R_drewN | apply Kd.R_drew)); exact HO_11.out⟩, ⟨by (with_reducible repeat (first | refine blk_drewN ?_ _ | refine blk_drew ?_ | refine blk_alloc ?_ _)); exact BK201.out⟩, ⟨by repeat (first | (with_reducible first | exact HB.out | apply below_alloc | apply pw_below_drewN | apply below_drew1 | refine below_set ?_ GE201.out) | exact HB.out)⟩⟩
      ·rw [if_neg c11] at H
       exact absurd H (by simp)
     ·rw [if_neg c9] at H
      exact absurd H (by simp)
    ·rw [if_neg c8] at H
     exact absurd H (by simp)
   ·rw [if_neg c7] at H
    have c7b0 : decide (x13_1 < (t202.length : Int)) = false := decide_eq_false c7
    clear c7
    replace H := Option.bind_eq_some_iff.mp H
    obtain ⟨t210, A130, H⟩ := H
    replace H : (formula_opposites.l1 k1 x4_1 t210 (t210.length : Int) 0) = some (r1, r2) := H
    have A13 := Aside0.mk A130
    clear A130
    have H' := Aside0.mk H
    clear H
    have hcz14_0 : wr.cell? ⟨gb201, 0, none⟩ = some (.int .u32 a0_0) := (blk_cell BK201.out 0).trans rfl
    have hcz14_1 : wr.cell? ⟨gb201, 1, none⟩ = some (.int .u32 a0_1) := (blk_cell BK201.out 1).trans rfl
    have hfz14_0 := blk_frozen BK201.out 0
    have hfz14_1 := blk_frozen BK201.out 1
    go_wp2_with (first | ((with_reducible refine gate_callee (f := 59) rfl ?_); refine goesL_ (some 26) rfl rfl Tryd.func59 (by kernel_rfl) rfl #[.int .u32 a0_1] rfl (by (try simp only [List.map_toArray, List.map_cons, List.map_nil]); first | done | rfl | (simp only [List.length_drop, List.length_take]; rfl)) ?_; (with_reducible refine (mask_List.calls (HT := ⟨Tab.below HT.out (by repeat (first | (with_reducible first | exact HB.out | apply below_alloc | apply pw_below_drewN | apply below_drew1 | refine below_set ?_ GE201.out) | exact HB.out))⟩) a0_1 t210 _ A13.out).mono ?_); rintro e w15 ⟨v211, rfl, ho0, hb⟩; refine ⟨_, rfl, ?_⟩; have n0_ := Aside0.mk (Kd.R_below (by (with_reducible repeat (first | apply Kd.R_alloc | apply Kd.R_drewN | apply Kd.R_drew)); exact HO_4.out) hb); have n1_ := Aside0.mk (Kd.R_elder' (by (with_reducible repeat (first | apply Kd.R_alloc | apply Kd.R_drewN | apply Kd.R_drew)); exact HO_11.out) (Kd.R_base ho0) hb); have n2_ := Aside0.mk (Kd.R_lower (Kd.R_new' ho0 (Kd.R_lt (by (with_reducible repeat (first | apply Kd.R_alloc | apply Kd.R_drewN | apply Kd.R_drew)); exact HO_11.out))) (below_size (by repeat (first | (with_reducible first | exact HB.out | apply below_alloc | apply pw_below_drewN | apply below_drew1 | refine below_set ?_ GE201.out) | exact HB.out)))); have n3_ := Aside0.mk (blk_below (g := gb201) (o := .cells #[.int .u32 a0_0, .int .u32 a0_1] 60 (0, 0)) (by (with_reducible repeat (first | refine blk_drewN ?_ _ | refine blk_drew ?_ | refine blk_alloc ?_ _)); exact BK201.out) hb); have n4_ := Aside0.mk (below_step (by repeat (first | (with_reducible first | exact HB.out | apply below_alloc | apply pw_below_drewN | apply below_drew1 | refine below_set ?_ GE201.out) | exact HB.out)) hb); clear HO_4; clear HO_11; clear BK201; clear HB; have HO_4 := n0_; have HO_11 := n1_; have HO212 := n2_; have BK201 := n3_; have HB := n4_; clear n0_ n1_ n2_ n3_ n4_; (try clear hb); (try clear hb2); (try clear hk); (try clear hi); (try clear ho0); obtain ⟨Ao16, co16, eo16⟩ := Kd.R_slice HO212.out; subst eo16))
    go_loopg [4, 28] k1 (fun kq v4 v28 w' => ∃ (x4_2 : List (S60)) (x28_2 : Int), v28 = .int .i64 x28_2 ∧ Aside0 (formula_opposites.l1 kq x4_2 t210 (t210.length : Int) x28_2 = some (r1, r2)) ∧ Aside0 (kq ≤ k1) ∧ Aside0 (Kd.R k60 60 w' w.heap.size (fun k_ => k_ ≠ gb201) v4 x4_2) ∧ Aside0 (Kd.R (Kd.int .i64) 3 w' w.heap.size (fun _ => True) (.slice Ao16 t210.length co16) t210) ∧ Aside0 (w'.heap[gb201]? = some (.cells #[.int .u32 a0_0, .int .u32 a0_1] 60 (0, 0))) ∧ Aside0 (Below w.heap.size w w'))
    case atStart => exact ⟨(x4_1), (0), (by first | rfl | (simp; done) | (simp [*]; done)), H', ⟨Nat.le_refl _⟩, ⟨by (with_reducible repeat (first | apply Kd.R_alloc | apply Kd.R_drewN | apply Kd.R_drew)); exact HO_4.out⟩, ⟨by (with_reducible repeat (first | apply Kd.R_alloc | apply Kd.R_drewN | apply Kd.R_drew)); exact Kd.R_mono HO212.out (fun _ hk => trivial)⟩, ⟨by (with_reducible repeat (first | refine blk_drewN ?_ _ | refine blk_drew ?_ | refine blk_alloc ?_ _)); exact BK201.out⟩, ⟨by repeat (first | (with_reducible first | exact HB.out | apply below_alloc | apply pw_below_drewN | apply below_drew1 | refine below_set ?_ GE201.out) | exact HB.out)⟩⟩
    case round =>
     clear H'
     try clear c1
     try clear p2
     try clear q2
     try clear hx2
     try clear c5
     try clear c6
     try clear p6
     try clear c7
     try clear c7b0
     try clear c8
     try clear c8b0
     try clear c9
     try clear c9b0
     try clear c10
     try clear c11
     try clear hcz14_0
     try clear hcz14_1
     try clear hcz4_0
     try clear hcz4_1
     try clear hfz14_0
     try clear hfz14_1
     try clear hfz4_0
     try clear hfz4_1
     try clear hx205_0
     try clear p2
     try clear p205
     try clear q205
     obtain ⟨x4_2, x28_2, rfl, HA, HK2, HO_4, HO_26, BK201, HB⟩ := hrel
     cases gk with
     | zero => exact absurd HA.out (by simp [formula_opposites.l1])
     | succ k2 =>
      have H := HA.out
      clear HA
      simp only [formula_opposites.l1] at H
      by_cases c17 : x28_2 < (t210.length : Int)
      ·rw [if_pos c17] at H
       have c17b0 : decide (x28_2 < (t210.length : Int)) = true := decide_eq_true c17
       clear c17
       by_cases c18 : 0 ≤ x28_2
       ·rw [if_pos c18] at H
        have c18b0 : decide (0 ≤ x28_2) = true := decide_eq_true c18
        clear c18
        by_cases c19 : x28_2 < (t210.length : Int)
        ·rw [if_pos c19] at H
         have c19b0 : decide (x28_2 < (t210.length : Int)) = true := decide_eq_true c19
         clear c19
         replace H := Option.bind_eq_some_iff.mp H
         obtain ⟨t214, A200, H⟩ := H
         replace H : (if x4_2.length < 17592186044416 then (formula_opposites.l1 k2 (x4_2 ++ [(⟨t214, 0⟩ : S60)]) t210 (t210.length : Int) (wrap64 (x28_2 + 1))) else (none)) = some (r1, r2) := H
         have A20 := Aside0.mk A200
         clear A200
         by_cases c21 : x4_2.length < 17592186044416
         ·rw [if_pos c21] at H
          have LMc21 := Aside0.mk c21
          clear c21
          obtain ⟨y215, hy215⟩ : ∃ y_ : List (S60), y_ = (x4_2 ++ [(⟨t214, 0⟩ : S60)]) := ⟨_, rfl⟩
          replace H : (formula_opposites.l1 k2 y215 t210 (t210.length : Int) (wrap64 (x28_2 + 1))) = some (r1, r2) := by first | (rw [hy215]; with_reducible exact H) | (have H2_ := (Option.bind_some _ _).symm.trans H; rw [hy215]; with_reducible exact H2_) | (have H2_ := (Option.bind_some _ _).symm.trans H; with_reducible exact H2_) | with_reducible exact H | (rw [hy215]; exact H) | exact H
          have Ny215 := Aside0.mk hy215
          clear hy215
          have H' := Aside0.mk H
          clear H
          have p213 : 0 ≤ (x28_2 : Int) := of_decide_eq_true (by first | (with_reducible assumption) | assumption)
          have q213 : x28_2 < (t210.length : Int) := of_decide_eq_true (by first | (with_reducible assumption) | assumption)
          obtain ⟨ad213, e213, hx213_0⟩ := Kd.at_int (Kd.R_reads' HO_26.out).2.2 x28_2 p213 q213
          cases e213
          replace p213 := eq_true p213
          replace q213 := eq_true q213
          go_wp2_with (first | ((with_reducible refine gate_callee (f := 68) rfl ?_); refine goesL_ (some 34) rfl rfl Tryd.func68 (by kernel_rfl) rfl #[.int .u32 0, .int .i64 (rd t210 x28_2)] rfl (by (try simp only [List.map_toArray, List.map_cons, List.map_nil]); first | done | rfl | (simp only [List.length_drop, List.length_take]; rfl)) ?_; (with_reducible refine (mask_With.calls 0 (rd t210 x28_2) t214 _ A20.out).mono ?_); rintro e w' ⟨rfl, ⟨nd, rfl⟩⟩; refine ⟨_, rfl, ?_⟩) | ((with_reducible refine gate_builtin (b := .append) (xs := #[.tmp 32, .tmp 36]) rfl ?_); at_builtin; refine Kd.R_append k60 (w0 := w) w.heap.size rfl (.tmp 32) (.tmp 36) 26 60 (.agg #[(.int .u32 0), (.int .u32 0)]) 8 rfl Tryd.underlying26 info60 rfl (by decide) (by omega) u4 x4_2 (⟨t214, 0⟩ : S60) [.int .u32 t214, .int .u32 0] (fun k_ => k_ ≠ gb201) (fun _ => False) rfl rfl ?aP (fun _ hk => hk.elim) ?aF ?aO ?aB ?aS ?aL ?_; (case aP => exact k60_mkM _ _ _ (⟨t214, 0⟩ : S60)); (case aB => exact (by repeat (first | (with_reducible first | exact HB.out | apply below_alloc | apply pw_below_drewN | apply below_drew1 | refine below_set ?_ GE201.out) | exact HB.out))); (case aF => exact (fun k_ hk => Kd.freshB (g := gb201) (o := .cells #[.int .u32 a0_0, .int .u32 a0_1] 60 (0, 0)) (by (with_reducible repeat (first | refine blk_drewN ?_ _ | refine blk_drew ?_ | refine blk_alloc ?_ _)); exact BK201.out) k_ hk)); (case aO => exact (by (with_reducible repeat (first | apply Kd.R_alloc | apply Kd.R_drewN | apply Kd.R_drew)); exact HO_4.out)); (case aS => exact (below_size (by repeat (first | (with_reducible first | exact HB.out | apply below_alloc | apply pw_below_drewN | apply below_drew1 | refine below_set ?_ GE201.out) | exact HB.out)))); (case aL => have := LMc21.out; omega); intro v216 w22 ho hb hg hat; rw [← Ny215.out] at ho; have n0_ := Aside0.mk (Kd.R_over' (by (with_reducible repeat (first | apply Kd.R_alloc | apply Kd.R_drewN | apply Kd.R_drew)); exact HO_26.out) (Kd.R_typed (by (with_reducible repeat (first | apply Kd.R_alloc | apply Kd.R_drewN | apply Kd.R_drew)); exact HO_4.out)) (by decide) hg); have n1_ := Aside0.mk (blk_grown (g := gb201) (o := .cells #[.int .u32 a0_0, .int .u32 a0_1] 60 (0, 0)) (by (with_reducible repeat (first | refine blk_drewN ?_ _ | refine blk_drew ?_ | refine blk_alloc ?_ _)); exact BK201.out) hg (Kd.R_away HO_4.out (fun _ hk => hk))); have n2_ := Aside0.mk (hb); have n3_ := Aside0.mk (ho); clear HO_26; clear BK201; clear HB; clear HO_4; have HO_26 := n0_; have BK201 := n1_; have HB := n2_; have HO217 := n3_; clear n0_ n1_ n2_ n3_; clear ho hb hg hat))
          go_roundg k2
          case measure => have := HK1.out; have := HK2.out; omega
          case rel => exact ⟨(y215), (wrap64 (x28_2 + 1)), (by first | rfl | (simp; done) | (simp [*]; done)), H', ⟨by have := HK1.out; have := HK2.out; omega⟩, ⟨by (with_reducible repeat (first | apply Kd.R_alloc | apply Kd.R_drewN | apply Kd.R_drew)); exact HO217.out⟩, ⟨by (with_reducible repeat (first | apply Kd.R_alloc | apply Kd.R_drewN | apply Kd.R_drew)); exact HO_26.out⟩, ⟨by (with_reducible repeat (first | refine blk_drewN ?_ _ | refine blk_drew ?_ | refine blk_alloc ?_ _)); exact BK201.out⟩, ⟨by repeat (first | (with_reducible first | exact HB.out | apply below_alloc | apply pw_below_drewN | apply below_drew1 | refine below_set ?_ GE201.out) | exact HB.out)⟩⟩
         ·rw [if_neg c21] at H
          exact absurd H (by simp)
        ·rw [if_neg c19] at H
         exact absurd H (by simp)
       ·rw [if_neg c18] at H
        exact absurd H (by simp)
      ·rw [if_neg c17] at H
       have c17b0 : decide (x28_2 < (t210.length : Int)) = false := decide_eq_false c17
       clear c17
       replace H := Option.bind_eq_some_iff.mp H
       obtain ⟨⟨t218, t219⟩, A230, H⟩ := H
       replace H : (some (t218, t219)) = some (r1, r2) := H
       have A23 := Aside0.mk A230
       clear A230
       simp only [Option.some.injEq, Prod.mk.injEq] at H
       obtain ⟨rfl, rfl⟩ := H
       obtain ⟨Ao24, co24, eo24⟩ := Kd.R_slice HO_4.out
       subst eo24
       go_wp2_with (first | ((with_reducible refine gate_callee (f := 70) rfl ?_); refine goesL_ (some 40) rfl rfl Tryd.func70 (by kernel_rfl) rfl #[.slice Ao24 x4_2.length co24] rfl (by (try simp only [List.map_toArray, List.map_cons, List.map_nil]); first | done | rfl | (simp only [List.length_drop, List.length_take]; rfl)) ?_; (with_reducible refine (clause_Least.calls _ _ x4_2 t218 t219 _ ?side1 ?side2 A23.out).mono ?_); (case side1 => repeat (first | exact (Kd.R_reads' HO_4.out).2.2 | (with_reducible refine Kd.C_alloc ?_ _) | (with_reducible refine Kd.C_drewN ?_ _) | (with_reducible refine Kd.C_drew ?_))); (case side2 => exact (Kd.R_reads' HO_4.out).2.1); rintro e w25 ⟨v220, rfl, ho0, hb⟩; refine ⟨_, rfl, ?_⟩; have n0_ := Aside0.mk (Kd.R_elder' (by (with_reducible repeat (first | apply Kd.R_alloc | apply Kd.R_drewN | apply Kd.R_drew)); exact HO_4.out) (Kd.R_base ho0) hb); have n1_ := Aside0.mk (Kd.R_below (by (with_reducible repeat (first | apply Kd.R_alloc | apply Kd.R_drewN | apply Kd.R_drew)); exact HO_26.out) hb); have n2_ := Aside0.mk (Kd.R_lower (Kd.R_newB (Kd.R_new' ho0 (Kd.R_lt (by (with_reducible repeat (first | apply Kd.R_alloc | apply Kd.R_drewN | apply Kd.R_drew)); exact HO_4.out))) (g := gb201) (o := .cells #[.int .u32 a0_0, .int .u32 a0_1] 60 (0, 0)) (by (with_reducible repeat (first | refine blk_drewN ?_ _ | refine blk_drew ?_ | refine blk_alloc ?_ _)); exact BK201.out)) (below_size (by repeat (first | (with_reducible first | exact HB.out | apply below_alloc | apply pw_below_drewN | apply below_drew1 | refine below_set ?_ GE201.out) | exact HB.out)))); have n3_ := Aside0.mk (blk_below (g := gb201) (o := .cells #[.int .u32 a0_0, .int .u32 a0_1] 60 (0, 0)) (by (with_reducible repeat (first | refine blk_drewN ?_ _ | refine blk_drew ?_ | refine blk_alloc ?_ _)); exact BK201.out) hb); have n4_ := Aside0.mk (below_step (by repeat (first | (with_reducible first | exact HB.out | apply below_alloc | apply pw_below_drewN | apply below_drew1 | refine below_set ?_ GE201.out) | exact HB.out)) hb); clear HO_4; clear HO_26; clear BK201; clear HB; have HO_4 := n0_; have HO_26 := n1_; have HO221 := n2_; have BK201 := n3_; have HB := n4_; clear n0_ n1_ n2_ n3_ n4_; (try clear hb); (try clear hb2); (try clear hk); (try clear hi); (try clear ho0)))
       go_ret2
       exact ⟨_, by first | rfl | (simp [errW_none, errW_some] <;> rfl) | (simp [*, errW_none, errW_some] <;> rfl), by (with_reducible repeat (first | apply Kd.R_alloc | apply Kd.R_drewN | apply Kd.R_drew)); exact Kd.R_mono HO221.out (fun _ hk => trivial), by repeat (first | (with_reducible first | exact HB.out | apply below_alloc | apply pw_below_drewN | apply below_drew1 | refine below_set ?_ GE201.out) | exact HB.out)⟩

/-! ### hypercube/formula.Not: by hand -/
theorem ownOf24 {w : World} {base : Nat} {ok : Nat → Prop} {v : Value} {l : List H.C} (h : Kd.R k60 60 w base ok v (l.map ofC24)) (hl : l.length ≤ 1000000) : Own w base v l := by
  obtain ⟨_, inner, ho, hlen, hr⟩ := h
  rw [List.length_map] at ho hlen
  have e : inner = flat l := by
    refine List.ext_getElem? fun j => ?_
    have hlen2 : inner.length = l.length * 2 := hlen
    by_cases hj : j / 2 < l.length
    · obtain ⟨g0, g1⟩ := flat_get l (j / 2) hj
      have hM := hr (j / 2) (ofC24 l[j / 2]) (by rw [List.getElem?_map, List.getElem?_eq_getElem hj]; rfl)
      have hc : ((inner.drop (j / 2 * 2)).take 2) = [.int .u32 (un l[j / 2].1), .int .u32 (un l[j / 2].2)] := k60_openM hM
      have h0 : inner[j / 2 * 2]? = some (.int .u32 (un l[j / 2].1)) := by
        have := congrArg (fun z => z[0]?) hc
        simp only [List.getElem?_take, List.getElem?_drop, Nat.add_zero] at this
        simpa using this
      have h1 : inner[j / 2 * 2 + 1]? = some (.int .u32 (un l[j / 2].2)) := by
        have := congrArg (fun z => z[1]?) hc
        simp only [List.getElem?_take, List.getElem?_drop] at this
        simpa using this
      rcases Nat.mod_two_eq_zero_or_one j with hm | hm
      · rw [show j = j / 2 * 2 by omega, h0, g0]
      · rw [show j = j / 2 * 2 + 1 by omega, h1, g1]
    · rw [List.getElem?_eq_none (by omega), List.getElem?_eq_none (by rw [flat_length]; omega)]
  rw [e] at ho
  exact ⟨ho, by omega⟩
theorem with_fin24 : ∀ n : Fin 24, mask_With.f 0 ((n.val : Nat) : Int) = some ((2 ^ n.val : Nat) : Int) := by decide +kernel
theorem with24 (i : Nat) (h : i < 24) : mask_With.f 0 (i : Int) = some (un (H.one i)) := by
  have h1 := with_fin24 ⟨i, h⟩
  rw [show un (H.one i) = ((2 ^ i : Nat) : Int) by unfold un; rw [H.toNat_one (by omega)]]
  exact h1
theorem list24 (x : UInt32) : mask_List.f (un x) = some ((H.dims x).map fun i : Nat => (i : Int)) := by
  have h := un_range x
  unfold mask_List.f
  rw [if_pos h, show UInt32.ofNat (un x).toNat = x by unfold un; simp]
theorem rd_nat24 (D : List Nat) (i : Nat) (h : i < D.length) : rd (D.map fun i : Nat => (i : Int)) (i : Int) = ((D[i] : Nat) : Int) := by
  unfold rd
  rw [Int.toNat_natCast, List.getD_eq_getElem?_getD, List.getElem?_map, List.getElem?_eq_getElem h]
  rfl
theorem opp_l1 (D : List Nat) (hD : ∀ x ∈ D, x < 24) (hl : D.length ≤ 24) : ∀ (d k i : Nat) (A : List H.C), i + d = D.length → d < k → A.length + d ≤ 100 →
    formula_opposites.l1 k (A.map ofC24) (D.map fun i : Nat => (i : Int)) (D.length : Int) (i : Int) = some ((H.least (A ++ (D.drop i).map fun j => (H.one j, 0))).1.map ofC24, (H.least (A ++ (D.drop i).map fun j => (H.one j, 0))).2)
  | d, 0, _, _, _, hk, _ => absurd hk (by omega)
  | 0, k + 1, i, A, hi, _, hA => by
    rw [formula_opposites.l1, if_neg (by omega), leastx24 A (by omega), Option.bind_some, List.drop_eq_nil_of_le (by omega), List.map_nil, List.append_nil]
  | d + 1, k + 1, i, A, hi, hk, hA => by
    have hil : i < D.length := by omega
    have e2 : wrap64 ((i : Int) + 1) = ((i + 1 : Nat) : Int) := by
      unfold wrap64
      omega
    have e3 : (A.map ofC24) ++ [(⟨un (H.one D[i]), 0⟩ : S60)] = (A ++ [(H.one D[i], 0)]).map ofC24 := by rw [List.map_append]; rfl
    rw [formula_opposites.l1, if_pos (by omega), if_pos (by omega), if_pos (by rw [List.length_map]; omega), rd_nat24 D i hil, with24 _ (hD _ (List.getElem_mem _)), Option.bind_some, if_pos (by rw [List.length_map]; omega), e2, e3,
      opp_l1 D hD hl d k (i + 1) _ (by omega) (by omega) (by rw [List.length_append, List.length_singleton]; omega), List.drop_eq_getElem_cons hil, List.map_cons, List.append_assoc]
    rfl
theorem opp_l0 (D E : List Nat) (x y : UInt32) (hy : H.dims y = E) (hD : ∀ x ∈ D, x < 24) (hE : ∀ x ∈ E, x < 24) (hl : D.length ≤ 24) (hlE : E.length ≤ 24) : ∀ (d k i : Nat) (A : List H.C), i + d = D.length → d + 30 < k → A.length + d ≤ 60 →
    formula_opposites.l0 k (A.map ofC24) (D.map fun i : Nat => (i : Int)) (D.length : Int) (i : Int) (un x) (un y) = some ((H.least ((A ++ (D.drop i).map fun j => (0, H.one j)) ++ E.map fun j => (H.one j, 0))).1.map ofC24, (H.least ((A ++ (D.drop i).map fun j => (0, H.one j)) ++ E.map fun j => (H.one j, 0))).2)
  | d, 0, _, _, _, hk, _ => absurd hk (by omega)
  | 0, k + 1, i, A, hi, hk, hA => by
    have h1 := opp_l1 E hE hlE E.length k 0 A (by omega) (by omega) (by omega)
    rw [List.drop_zero] at h1
    rw [formula_opposites.l0, if_neg (by omega), list24, hy, Option.bind_some, List.length_map, List.drop_eq_nil_of_le (by omega), List.map_nil, List.append_nil]
    exact h1
  | d + 1, k + 1, i, A, hi, hk, hA => by
    have hil : i < D.length := by omega
    have e2 : wrap64 ((i : Int) + 1) = ((i + 1 : Nat) : Int) := by
      unfold wrap64
      omega
    have e3 : (A.map ofC24) ++ [(⟨0, un (H.one D[i])⟩ : S60)] = (A ++ [(0, H.one D[i])]).map ofC24 := by rw [List.map_append]; rfl
    rw [formula_opposites.l0, if_pos (by omega), if_pos (by omega), if_pos (by rw [List.length_map]; omega), rd_nat24 D i hil, with24 _ (hD _ (List.getElem_mem _)), Option.bind_some, if_pos (by rw [List.length_map]; omega), e2, e3,
      opp_l0 D E x y hy hD hE hl hlE d k (i + 1) _ (by omega) (by omega) (by rw [List.length_append, List.length_singleton]; omega), List.drop_eq_getElem_cons hil, List.map_cons, List.append_assoc A]
    rfl
theorem opp24 (c : H.C) : formula_opposites.f 60 (un c.1) (un c.2) = some ((H.least (H.opps c)).1.map ofC24, 0) := by
  have h1 := opp_l0 (H.dims c.1) (H.dims c.2) c.1 c.2 rfl (fun x hx => (H.mem_dims.1 hx).1) (fun x hx => (H.mem_dims.1 hx).1) (H.length_dims _) (H.length_dims _) (H.dims c.1).length 60 0 [] (by omega) (by have := H.length_dims c.1; omega) (by have := H.length_dims c.1; simp; omega)
  have h2 := H.opps_told c
  unfold formula_opposites.f
  rw [list24, Option.bind_some, List.length_map]
  have h3 : (H.least ((H.dims c.1).map (fun j => ((0 : UInt32), H.one j)) ++ (H.dims c.2).map fun j => (H.one j, (0 : UInt32)))).2 = 0 := h2
  rw [List.drop_zero, List.nil_append, h3] at h1
  exact h1
theorem smallN24 : SmallN where
  toSmallP := smallP24
  opp c w HT := by
    refine (formula_opposites.calls 60 (un c.1) (un c.2) _ _ w ⟨HT⟩ (opp24 c)).mono ?_
    rintro e w' ⟨v, rfl, hr, hb⟩
    exact ⟨v, rfl, ownOf24 hr (Nat.le_trans (least_len _) (by decide)), hb⟩
def formula_Not.f (l0 : List S60) : Option (List S60 × Int) := if okL24 l0 then some ((fNot (l0.map toC24)).1.map ofC24, (fNot (l0.map toC24)).2) else none
theorem formula_Not.calls (A0 : Option Addr) (c0 : Nat) (l0 : List (S60)) (r1 : List (S60)) (r2 : Int) (w : World) (HT : Aside0 (Tab w)) (hr0 : Kd.C k60 w A0 l0.length l0) (hc0 : l0.length ≤ c0) (h : formula_Not.f l0 = some (r1, r2)) :
    Calls Tryd.prog 40 #[.slice A0 l0.length c0] w fun e w' => ∃ v0_ : Value, e = .returned (.tuple #[v0_, .int .i64 r2]) ∧ Kd.R k60 60 w' w.heap.size (fun _ => True) v0_ r1 ∧ Below w.heap.size w w' := by
  unfold formula_Not.f at h
  by_cases hr : okL24 l0
  · rw [if_pos hr] at h
    simp only [Option.some.injEq, Prod.mk.injEq] at h
    obtain ⟨rfl, rfl⟩ := h
    have hk0 := hr
    have hc := form_Not smallN24 A0 c0 (l0.map toC24) w (rd24 hr0 hk0.1 hk0.2) (by rw [List.length_map]; exact hc0) (by rw [List.length_map]; exact hk0.2) HT.out
    simp only [List.length_map] at hc
    refine hc.mono ?_
    rintro e w' ⟨v, rfl, ho, hb⟩
    exact ⟨v, rfl, own24 ho, hb⟩
  · rw [if_neg hr] at h
    exact absurd h (by simp)

end Go.Proofs.YtfbcgjkagdbckaaDoor.XTm
