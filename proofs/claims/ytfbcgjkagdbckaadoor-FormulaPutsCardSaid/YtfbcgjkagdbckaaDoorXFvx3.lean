-- Written for this claim by a program of ours (wip/xp.py), out of the translation and of hand-written contracts.
import Derived.Test.YtfbcgjkagdbckaaDoorXFvx0
import Derived.Test.YtfbcgjkagdbckaaDoorXFvx2
namespace Go.Proofs.YtfbcgjkagdbckaaDoor.XFv
open Go.RowKit Go.Proofs.YtfbcgjkagdbckaaDoorW.PrintWords Go.Proofs.YtfbcgjkagdbckaaDoorW.PrintLast Go.Proofs.YtfbcgjkagdbckaaDoorW.PrintMore
attribute [local go_sem] max2_int min2_int max_two min_two max_three min_three max_four min_four   -- for this text's walks alone
set_option linter.unusedVariables false
set_option linter.unusedSimpArgs false

/-! ### mask_dimension: function 100 -/
def mask_dimension.f (a0 : Int) : Option (Bool) := if a0 ≥ 0 then (some (decide (a0 < 24))) else (some false)
set_option maxHeartbeats 8000000 in
set_option maxRecDepth 100000 in
theorem mask_dimension.calls (a0 : Int) (r : Bool) (w : World) (h : mask_dimension.f a0 = some r) :
  Calls Tryd.prog 100 #[.int .i64 a0] w fun e w' => e = .returned (.bool r) ∧ Drawn0 w w' := by
 have H : (if a0 ≥ 0 then (some (decide (a0 < 24))) else (some false)) = some r := h
 clear h
 by_cases c2 : a0 ≥ 0
 ·rw [if_pos c2] at H
  have c2b0 : decide (0 ≤ a0) = true := decide_eq_true c2
  clear c2
  obtain rfl := Option.some.inj H
  go_enter Tryd.func100, Tryd.ntmps100
  go_wp2
  go_ret
  exact ⟨by first | rfl | (simp; done) | (simp [*]; done), by repeat (first | exact Drawn0.refl _ | apply Drawn0.step)⟩
 ·rw [if_neg c2] at H
  have c2b0 : decide (0 ≤ a0) = false := decide_eq_false c2
  clear c2
  obtain rfl := Option.some.inj H
  go_enter Tryd.func100, Tryd.ntmps100
  go_wp2
  go_ret
  exact ⟨by first | rfl | (simp; done) | (simp [*]; done), by repeat (first | exact Drawn0.refl _ | apply Drawn0.step)⟩

/-! ### mask_With: function 68 -/
def mask_With.f (a0 : Int) (a1 : Int) : Option (Int) := (mask_dimension.f a1).bind fun t122 => (if t122 = true then (if 0 ≤ (IntKind.u64.wrap (a1)) then (some (Go.bits .or .u32 (Go.bits .and .u32 a0 16777215) (shl .u32 1 (IntKind.u64.wrap (a1))))) else (none)) else (some (Go.bits .and .u32 a0 16777215)))
set_option maxHeartbeats 8000000 in
set_option maxRecDepth 100000 in
theorem mask_With.calls (a0 : Int) (a1 : Int) (r : Int) (w : World) (h : mask_With.f a0 a1 = some r) :
  Calls Tryd.prog 68 #[.int .u32 a0, .int .i64 a1] w fun e w' => e = .returned (.int .u32 r) ∧ Drawn0 w w' := by
 have H : ((mask_dimension.f a1).bind fun t122 => (if t122 = true then (if 0 ≤ (IntKind.u64.wrap (a1)) then (some (Go.bits .or .u32 (Go.bits .and .u32 a0 16777215) (shl .u32 1 (IntKind.u64.wrap (a1))))) else (none)) else (some (Go.bits .and .u32 a0 16777215)))) = some r := h
 clear h
 replace H := Option.bind_eq_some_iff.mp H
 obtain ⟨t122, A30, H⟩ := H
 replace H : (if t122 = true then (if 0 ≤ (IntKind.u64.wrap (a1)) then (some (Go.bits .or .u32 (Go.bits .and .u32 a0 16777215) (shl .u32 1 (IntKind.u64.wrap (a1))))) else (none)) else (some (Go.bits .and .u32 a0 16777215))) = some r := H
 have A3 := Aside0.mk A30
 clear A30
 by_cases c4 : t122 = true
 ·subst c4
  have H1 : (if 0 ≤ (IntKind.u64.wrap (a1)) then (some (Go.bits .or .u32 (Go.bits .and .u32 a0 16777215) (shl .u32 1 (IntKind.u64.wrap (a1))))) else (none)) = some r := by rw [if_pos rfl] at H; exact H
  clear H
  have H := H1
  clear H1
  obtain ⟨ji5, hji5⟩ : ∃ j_ : Int, (IntKind.u64.wrap (a1)) = j_ := ⟨_, rfl⟩
  replace H : (if 0 ≤ (ji5) then (some (Go.bits .or .u32 (Go.bits .and .u32 a0 16777215) (shl .u32 1 (ji5)))) else (none)) = some r := by first | (rw [hji5] at H; exact H) | (simp only [hji5] at H ⊢; exact H)
  (try rw [hji5] at A3)
  by_cases c6 : 0 ≤ (ji5)
  ·rw [if_pos c6] at H
   have c6b0 := eq_true c6
   have c6b1 : decide (0 ≤ (ji5)) = true := decide_eq_true c6
   clear c6
   obtain ⟨ji7, hji7⟩ : ∃ j_ : Int, (shl .u32 1 (ji5)) = j_ := ⟨_, rfl⟩
   replace H : (some (Go.bits .or .u32 (Go.bits .and .u32 a0 16777215) (ji7))) = some r := by first | (rw [hji7] at H; exact H) | (simp only [hji7] at H ⊢; exact H)
   (try rw [hji7] at A3)
   have hji7_ : (IntKind.u32.wrap (1 * 2 ^ min (ji5).toNat 32)) = ji7 := hji7
   have hji7z : (ji5) ≤ 32 → (IntKind.u32.wrap (1 * 2 ^ (ji5).toNat)) = ji7 := shl_small hji7
   have hji7u : (IntKind.u32.wrap (2 ^ min (ji5).toNat 32)) = ji7 := by have h_ := hji7_; rw [Int.one_mul] at h_; exact h_
   have hji7v : (ji5) ≤ 32 → (IntKind.u32.wrap (2 ^ (ji5).toNat)) = ji7 := fun hle_ => by have h_ := hji7z hle_; rw [Int.one_mul] at h_; exact h_
   obtain rfl := Option.some.inj H
   go_enter Tryd.func68, Tryd.ntmps68
   go_wp2_with (first | ((with_reducible refine gate_callee (f := 100) rfl ?_); refine goesL_ (some 8) rfl rfl Tryd.func100 (by kernel_rfl) rfl #[.int .i64 a1] rfl (by (try simp only [List.map_toArray, List.map_cons, List.map_nil]); first | done | rfl | (simp only [List.length_drop, List.length_take]; rfl)) ?_; (with_reducible refine (mask_dimension.calls a1 true _ A3.out).mono ?_); rintro e w' ⟨rfl, ⟨nd, rfl⟩⟩; refine ⟨_, rfl, ?_⟩))
   go_ret
   exact ⟨by first | rfl | (simp; done) | (simp only [← hji5, ← hji7] <;> (first | rfl | simp)) | (simp [*]; done), by repeat (first | exact Drawn0.refl _ | apply Drawn0.step)⟩
  ·rw [if_neg c6] at H
   exact absurd H (by simp)
 ·replace c4 := Bool.eq_false_iff.mpr c4
  subst c4
  have H1 : (some (Go.bits .and .u32 a0 16777215)) = some r := by rw [if_neg (show ¬ (false = true) by decide)] at H; exact H
  clear H
  have H := H1
  clear H1
  obtain rfl := Option.some.inj H
  go_enter Tryd.func68, Tryd.ntmps68
  go_wp2_with (first | ((with_reducible refine gate_callee (f := 100) rfl ?_); refine goesL_ (some 8) rfl rfl Tryd.func100 (by kernel_rfl) rfl #[.int .i64 a1] rfl (by (try simp only [List.map_toArray, List.map_cons, List.map_nil]); first | done | rfl | (simp only [List.length_drop, List.length_take]; rfl)) ?_; (with_reducible refine (mask_dimension.calls a1 false _ A3.out).mono ?_); rintro e w' ⟨rfl, ⟨nd, rfl⟩⟩; refine ⟨_, rfl, ?_⟩))
  go_ret
  exact ⟨by first | rfl | (simp; done) | (simp [*]; done), by repeat (first | exact Drawn0.refl _ | apply Drawn0.step)⟩

/-! ### formula_Dim: function 34 -/
def formula_Dim.f (a0 : Int) : Option ((List (S60)) × Int) := (mask_With.f 0 a0).bind fun t123 => ((mask_Count.f t123).bind fun t124 => (if t124 = 0 then (some (([] : List (S60)), 2)) else ((mask_With.f 0 a0).bind fun t125 => (some ((([(⟨t125, 0⟩ : S60)] : List (S60))), 0)))))
set_option maxHeartbeats 8000000 in
set_option maxRecDepth 100000 in
theorem formula_Dim.calls (a0 : Int) (r1 : List (S60)) (r2 : Int) (w : World) (h : formula_Dim.f a0 = some (r1, r2)) :
  Calls Tryd.prog 34 #[.int .i64 a0] w fun e w' => ∃ v0_ : Value, e = .returned (.tuple #[v0_, .int .i64 r2]) ∧ Kd.R k60 60 w' w.heap.size (fun _ => True) v0_ r1 ∧ Below w.heap.size w w' := by
 have hu60 := Tryd.underlying60
 have HB := Aside0.mk (Below.refl w.heap.size w)
 have H : ((mask_With.f 0 a0).bind fun t123 => ((mask_Count.f t123).bind fun t124 => (if t124 = 0 then (some (([] : List (S60)), 2)) else ((mask_With.f 0 a0).bind fun t125 => (some ((([(⟨t125, 0⟩ : S60)] : List (S60))), 0)))))) = some (r1, r2) := h
 clear h
 replace H := Option.bind_eq_some_iff.mp H
 obtain ⟨t123, A20, H⟩ := H
 replace H : ((mask_Count.f t123).bind fun t124 => (if t124 = 0 then (some (([] : List (S60)), 2)) else ((mask_With.f 0 a0).bind fun t125 => (some ((([(⟨t125, 0⟩ : S60)] : List (S60))), 0))))) = some (r1, r2) := H
 have A2 := Aside0.mk A20
 clear A20
 replace H := Option.bind_eq_some_iff.mp H
 obtain ⟨t124, A30, H⟩ := H
 replace H : (if t124 = 0 then (some (([] : List (S60)), 2)) else ((mask_With.f 0 a0).bind fun t125 => (some ((([(⟨t125, 0⟩ : S60)] : List (S60))), 0)))) = some (r1, r2) := H
 have A3 := Aside0.mk A30
 clear A30
 by_cases c4 : t124 = 0
 ·rw [if_pos c4] at H
  have c4b0 : (t124 == 0) = true := beq_iff_eq.mpr c4
  have c4b1 : (t124 != 0) = false := bne_eq_false_iff_eq.mpr c4
  clear c4
  simp only [Option.some.injEq, Prod.mk.injEq] at H
  obtain ⟨rfl, rfl⟩ := H
  go_enter Tryd.func34, Tryd.ntmps34
  go_wp2_with (first | ((with_reducible refine gate_callee (f := 68) rfl ?_); refine goesL_ (some 5) rfl rfl Tryd.func68 (by kernel_rfl) rfl #[.int .u32 0, .int .i64 a0] rfl (by (try simp only [List.map_toArray, List.map_cons, List.map_nil]); first | done | rfl | (simp only [List.length_drop, List.length_take]; rfl)) ?_; (with_reducible refine (mask_With.calls 0 a0 t123 _ A2.out).mono ?_); rintro e w' ⟨rfl, ⟨nd, rfl⟩⟩; refine ⟨_, rfl, ?_⟩) | ((with_reducible refine gate_callee (f := 67) rfl ?_); refine goesL_ (some 6) rfl rfl Tryd.func67 (by kernel_rfl) rfl #[.int .u32 t123] rfl (by (try simp only [List.map_toArray, List.map_cons, List.map_nil]); first | done | rfl | (simp only [List.length_drop, List.length_take]; rfl)) ?_; (with_reducible refine (mask_Count.calls t123 t124 _ A3.out).mono ?_); rintro e w5 ⟨rfl, hb⟩; refine ⟨_, rfl, ?_⟩; have n0_ := Aside0.mk (below_step (by repeat (first | (with_reducible first | exact HB.out | apply below_alloc | apply pw_below_drewN | apply below_drew1) | exact HB.out)) hb); clear HB; have HB := n0_; clear n0_; (try clear hb); (try clear hb2); (try clear hk); (try clear hi)))
  go_ret2
  exact ⟨_, by first | rfl | (simp [errW_none, errW_some] <;> rfl) | (simp [*, errW_none, errW_some] <;> rfl), by first | exact Kd.R_nil _ _ _ _ _ | exact Kd.N_nil _ _ _ _ _ | exact Kd.V_nil _ _ _ _ _ | exact Kd.Q_nil _ _ _ _ _ | exact Kd.S_nil _ _ _ _ _, by repeat (first | (with_reducible first | exact HB.out | apply below_alloc | apply pw_below_drewN | apply below_drew1) | exact HB.out)⟩
 ·rw [if_neg c4] at H
  have c4b0 : (t124 == 0) = false := beq_eq_false_iff_ne.mpr c4
  have c4b1 : (t124 != 0) = true := bne_iff_ne.mpr c4
  replace H := Option.bind_eq_some_iff.mp H
  obtain ⟨t125, A60, H⟩ := H
  replace H : (some ((([(⟨t125, 0⟩ : S60)] : List (S60))), 0)) = some (r1, r2) := H
  have A6 := Aside0.mk A60
  clear A60
  obtain ⟨y126, hy126⟩ : ∃ y_ : List (S60), y_ = (([(⟨t125, 0⟩ : S60)] : List (S60))) := ⟨_, rfl⟩
  replace H : (some (y126, 0)) = some (r1, r2) := by first | (rw [hy126]; with_reducible exact H) | (have H2_ := (Option.bind_some _ _).symm.trans H; rw [hy126]; with_reducible exact H2_) | (have H2_ := (Option.bind_some _ _).symm.trans H; with_reducible exact H2_) | with_reducible exact H | (rw [hy126]; exact H) | exact H
  have Ny126 := Aside0.mk hy126
  clear hy126
  simp only [Option.some.injEq, Prod.mk.injEq] at H
  obtain ⟨rfl, rfl⟩ := H
  go_enter Tryd.func34, Tryd.ntmps34
  obtain rfl := Option.some.inj (A2.out.symm.trans A6.out)
  go_wp2_with (first | ((with_reducible refine gate_callee (f := 68) rfl ?_); refine goesL_ (some 5) rfl rfl Tryd.func68 (by kernel_rfl) rfl #[.int .u32 0, .int .i64 a0] rfl (by (try simp only [List.map_toArray, List.map_cons, List.map_nil]); first | done | rfl | (simp only [List.length_drop, List.length_take]; rfl)) ?_; (with_reducible refine (mask_With.calls 0 a0 t123 _ A2.out).mono ?_); rintro e w' ⟨rfl, ⟨nd, rfl⟩⟩; refine ⟨_, rfl, ?_⟩) | ((with_reducible refine gate_callee (f := 67) rfl ?_); refine goesL_ (some 6) rfl rfl Tryd.func67 (by kernel_rfl) rfl #[.int .u32 t123] rfl (by (try simp only [List.map_toArray, List.map_cons, List.map_nil]); first | done | rfl | (simp only [List.length_drop, List.length_take]; rfl)) ?_; (with_reducible refine (mask_Count.calls t123 t124 _ A3.out).mono ?_); rintro e w7 ⟨rfl, hb⟩; refine ⟨_, rfl, ?_⟩; have n0_ := Aside0.mk (below_step (by repeat (first | (with_reducible first | exact HB.out | apply below_alloc | apply pw_below_drewN | apply below_drew1) | exact HB.out)) hb); clear HB; have HB := n0_; clear n0_; (try clear hb); (try clear hb2); (try clear hk); (try clear hi)) | ((with_reducible refine gate_callee (f := 68) rfl ?_); refine goesL_ (some 9) rfl rfl Tryd.func68 (by kernel_rfl) rfl #[.int .u32 0, .int .i64 a0] rfl (by (try simp only [List.map_toArray, List.map_cons, List.map_nil]); first | done | rfl | (simp only [List.length_drop, List.length_take]; rfl)) ?_; (with_reducible refine (mask_With.calls 0 a0 t123 _ A6.out).mono ?_); rintro e w' ⟨rfl, ⟨nd, rfl⟩⟩; refine ⟨_, rfl, ?_⟩) | ((with_reducible refine gate_dst (N := 11) rfl ?_); refine Kd.R_lit k60 _ 60 ?hg (N := 11) ?hd (xs := ([(⟨t123, 0⟩ : S60)] : List (S60))) (inner := [.int .u32 t123, .int .u32 0]) (ok := fun _ => True) (okp := fun _ => True) ?hr ?hp (fun _ hk => hk) trivial (Below.refl _ _) (Nat.le_refl _) (by simp) ?_; (case hd => rfl); (case hg => rfl); (case hr => first | (go_simp; done) | (go_simp; rfl)); (case hp => exact (Reps.c2 (show Kd.M k60 _ _ _ (⟨t123, 0⟩ : S60) [.int .u32 t123, .int .u32 0] from (k60_mkM _ _ _ (⟨t123, 0⟩ : S60) )) (Reps.none _ _))); intro v127 w8 ho9 hb hg_ hnew_; clear hg_ hnew_; (first | rw [← Ny126.out] at ho9 | (simp only [Int.reduceToNat] at ho9; rw [← Ny126.out] at ho9)); have n0_ := Aside0.mk (Kd.R_lower ho9 (below_size (by repeat (first | (with_reducible first | exact HB.out | apply below_alloc | apply pw_below_drewN | apply below_drew1) | exact HB.out)))); have n1_ := Aside0.mk (below_step (by repeat (first | (with_reducible first | exact HB.out | apply below_alloc | apply pw_below_drewN | apply below_drew1) | exact HB.out)) hb); clear HB; have HO128 := n0_; have HB := n1_; clear n0_ n1_; clear hb ho9))
  go_ret2
  exact ⟨_, by first | rfl | (simp [errW_none, errW_some] <;> rfl) | (simp [*, errW_none, errW_some] <;> rfl), by (with_reducible repeat (first | apply Kd.R_alloc | apply Kd.R_drewN | apply Kd.R_drew)); exact HO128.out, by repeat (first | (with_reducible first | exact HB.out | apply below_alloc | apply pw_below_drewN | apply below_drew1) | exact HB.out)⟩

/-! ### hypercube/mask.List: by hand -/
def mask_List.f (a0 : Int) : Option (List Int) := if 0 ≤ a0 ∧ a0 < 4294967296 then some ((H.dims (UInt32.ofNat a0.toNat)).map fun i : Nat => (i : Int)) else none
theorem mask_List.calls (a0 : Int) (r : List Int) (w : World) (HT : Aside0 (Tab w)) (h : mask_List.f a0 = some r) :
    Calls Tryd.prog 59 #[.int .u32 a0] w fun e w' => ∃ v0_ : Value, e = .returned (v0_) ∧ Kd.R (Kd.int .i64) 3 w' w.heap.size (fun _ => True) v0_ r ∧ Below w.heap.size w w' := by
  unfold mask_List.f at h
  by_cases hr : 0 ≤ a0 ∧ a0 < 4294967296
  · rw [if_pos hr] at h
    obtain rfl := Option.some.inj h
    have e : a0 = un (UInt32.ofNat a0.toNat) := by
      unfold un
      rw [UInt32.toNat_ofNat', Nat.mod_eq_of_lt (by omega)]
      omega
    generalize UInt32.ofNat a0.toNat = s at e ⊢
    subst e
    refine (mask_List s w HT.out).mono ?_
    rintro e w' ⟨v, rfl, ho, hb⟩
    refine ⟨v, rfl, Kd.R_of_own (by rw [List.length_map]; unfold encs; rw [List.map_map]; exact ho) (fun _ _ => trivial), hb⟩
  · rw [if_neg hr] at h
    exact absurd h (by simp)

/-! ### formula_opposites: function 109 -/
mutual
def formula_opposites.l0 : Nat → List (S60) → List Int → Int → Int → Int → Int → Option ((List (S60)) × Int)
  | 0, _, _, _, _, _, _ => none
  | k + 1, x4, x11, x12, x13, x130000, x130001 => if x13 < x12 then (if 0 ≤ x13 then (if x13 < (x11.length : Int) then ((mask_With.f 0 (rd x11 x13)).bind fun t134 => (if x4.length < 17592186044416 then (formula_opposites.l0 k (x4 ++ [(⟨0, t134⟩ : S60)]) x11 x12 (wrap64 (x13 + 1)) x130000 x130001) else (none))) else (none)) else (none)) else ((mask_List.f x130001).bind fun t138 => (formula_opposites.l1 k x4 t138 (t138.length : Int) 0))
def formula_opposites.l1 : Nat → List (S60) → List Int → Int → Int → Option ((List (S60)) × Int)
  | 0, _, _, _, _ => none
  | k + 1, x4, x26, x27, x28 => if x28 < x27 then (if 0 ≤ x28 then (if x28 < (x26.length : Int) then ((mask_With.f 0 (rd x26 x28)).bind fun t142 => (if x4.length < 17592186044416 then (formula_opposites.l1 k (x4 ++ [(⟨t142, 0⟩ : S60)]) x26 x27 (wrap64 (x28 + 1))) else (none))) else (none)) else (none)) else ((clause_Least.f x4).bind fun bt146 => (some (bt146.1, bt146.2)))
end
def formula_opposites.f (k : Nat) (a0_0 : Int) (a0_1 : Int) : Option ((List (S60)) × Int) := (mask_List.f a0_0).bind fun t130 => (formula_opposites.l0 k ([] : List (S60)) t130 (t130.length : Int) 0 a0_0 a0_1)
theorem formula_opposites.mono_l : ∀ k, (∀ y0 y1 y2 y3 y4 y5, LeO (formula_opposites.l0 k y0 y1 y2 y3 y4 y5) (formula_opposites.l0 (k + 1) y0 y1 y2 y3 y4 y5)) ∧ (∀ y0 y1 y2 y3, LeO (formula_opposites.l1 k y0 y1 y2 y3) (formula_opposites.l1 (k + 1) y0 y1 y2 y3))
  | 0 => ⟨fun _ _ _ _ _ _ r h => by simp [formula_opposites.l0] at h, fun _ _ _ _ r h => by simp [formula_opposites.l1] at h⟩
  | k + 1 => by
    obtain ⟨ih0, ih1⟩ := formula_opposites.mono_l k
    refine ⟨?_, ?_⟩
    · intro y0 y1 y2 y3 y4 y5
      unfold formula_opposites.l0
      repeat' first
      | (with_reducible exact ih0 _ _ _ _ _ _)
      | (with_reducible exact ih1 _ _ _ _)
      | (with_reducible exact LeO.refl _)
      | (with_reducible exact LeO.none _)
      | (with_reducible refine LeO.ite ?_ ?_)
      | (with_reducible refine LeO.bind ?_ (fun _ => ?_))
      | exact ih0 _ _ _ _ _ _
      | exact ih1 _ _ _ _
      | exact LeO.none _
      | refine LeO.ite ?_ ?_
      | refine LeO.bind ?_ (fun _ => ?_)
    · intro y0 y1 y2 y3
      unfold formula_opposites.l1
      repeat' first
      | (with_reducible exact ih0 _ _ _ _ _ _)
      | (with_reducible exact ih1 _ _ _ _)
      | (with_reducible exact LeO.refl _)
      | (with_reducible exact LeO.none _)
      | (with_reducible refine LeO.ite ?_ ?_)
      | (with_reducible refine LeO.bind ?_ (fun _ => ?_))
      | exact ih0 _ _ _ _ _ _
      | exact ih1 _ _ _ _
      | exact LeO.none _
      | refine LeO.ite ?_ ?_
      | refine LeO.bind ?_ (fun _ => ?_)
theorem formula_opposites.mono : ∀ a0 a1 k, LeO (formula_opposites.f k a0 a1) (formula_opposites.f (k + 1) a0 a1) := by
  intro a0 a1 k
  obtain ⟨ih0, ih1⟩ := formula_opposites.mono_l k
  unfold formula_opposites.f
  repeat' first
      | (with_reducible exact ih0 _ _ _ _ _ _)
      | (with_reducible exact ih1 _ _ _ _)
      | (with_reducible exact LeO.refl _)
      | (with_reducible exact LeO.none _)
      | (with_reducible refine LeO.ite ?_ ?_)
      | (with_reducible refine LeO.bind ?_ (fun _ => ?_))
      | exact ih0 _ _ _ _ _ _
      | exact ih1 _ _ _ _
      | exact LeO.none _
      | refine LeO.ite ?_ ?_
      | refine LeO.bind ?_ (fun _ => ?_)
set_option maxHeartbeats 8000000 in
set_option maxRecDepth 100000 in
theorem formula_opposites.calls (k : Nat) (a0_0 : Int) (a0_1 : Int) (r1 : List (S60)) (r2 : Int) (w : World) (HT : Aside0 (Tab w)) (h : formula_opposites.f k a0_0 a0_1 = some (r1, r2)) :
  Calls Tryd.prog 109 #[.agg #[.int .u32 a0_0, .int .u32 a0_1]] w fun e w' => ∃ v0_ : Value, e = .returned (.tuple #[v0_, .int .i64 r2]) ∧ Kd.R k60 60 w' w.heap.size (fun _ => True) v0_ r1 ∧ Below w.heap.size w w' := by
 have hu60 := Tryd.underlying60
 have HB := Aside0.mk (Below.refl w.heap.size w)
 have H : ((mask_List.f a0_0).bind fun t130 => (formula_opposites.l0 k ([] : List (S60)) t130 (t130.length : Int) 0 a0_0 a0_1)) = some (r1, r2) := h
 clear h
 replace H := Option.bind_eq_some_iff.mp H
 obtain ⟨t130, A20, H⟩ := H
 replace H : (formula_opposites.l0 k ([] : List (S60)) t130 (t130.length : Int) 0 a0_0 a0_1) = some (r1, r2) := H
 have A2 := Aside0.mk A20
 clear A20
 have H' := Aside0.mk H
 clear H
 go_enter Tryd.func109, Tryd.ntmps109
 go_wp2_with (first | ((with_reducible refine gate_dst (N := 1) rfl ?_); refine box_event ?hg (N := 1) ?hd (cs := #[.int .u32 a0_0, .int .u32 a0_1]) (t := 60) ?hr ?_; (case hd => rfl); (case hg => rfl); (case hr => first | (go_simp; done) | (go_simp; rfl)); intro gb129 hg w3 hbox hb; have n0_ := Aside0.mk (below_step (by repeat (first | (with_reducible first | exact HB.out | apply below_alloc | apply pw_below_drewN | apply below_drew1) | exact HB.out)) hb); have n1_ := Aside0.mk (hbox); have n2_ := Aside0.mk ((by rw [hg]; exact (below_size (by repeat (first | (with_reducible first | exact HB.out | apply below_alloc | apply pw_below_drewN | apply below_drew1) | exact HB.out))) : w.heap.size ≤ gb129)); have n3_ := Aside0.mk ((by rw [hg]; exact (below_size (by repeat (first | (with_reducible first | exact HB.out | apply below_alloc | apply pw_below_drewN | apply below_drew1) | exact HB.out))) : w.heap.size ≤ gb129)); clear HB; have HB := n0_; have BK129 := n1_; have GW129 := n2_; have GE129 := n3_; clear n0_ n1_ n2_ n3_; clear hb hbox hg; have hcz4_0 : w3.cell? ⟨gb129, 0, none⟩ = some (.int .u32 a0_0) := (blk_cell BK129.out 0).trans rfl; have hcz4_1 : w3.cell? ⟨gb129, 1, none⟩ = some (.int .u32 a0_1) := (blk_cell BK129.out 1).trans rfl; have hfz4_0 := blk_frozen BK129.out 0; have hfz4_1 := blk_frozen BK129.out 1) | ((with_reducible refine gate_callee (f := 59) rfl ?_); refine goesL_ (some 11) rfl rfl Tryd.func59 (by kernel_rfl) rfl #[.int .u32 a0_0] rfl (by (try simp only [List.map_toArray, List.map_cons, List.map_nil]); first | done | rfl | (simp only [List.length_drop, List.length_take]; rfl)) ?_; (with_reducible refine (mask_List.calls (HT := ⟨Tab.below HT.out (by repeat (first | (with_reducible first | exact HB.out | apply below_alloc | apply pw_below_drewN | apply below_drew1 | refine below_set ?_ GE129.out) | exact HB.out))⟩) a0_0 t130 _ A2.out).mono ?_); rintro e w5 ⟨v131, rfl, ho0, hb⟩; refine ⟨_, rfl, ?_⟩; have n0_ := Aside0.mk (Kd.R_lower ho0 (below_size (by repeat (first | (with_reducible first | exact HB.out | apply below_alloc | apply pw_below_drewN | apply below_drew1 | refine below_set ?_ GE129.out) | exact HB.out)))); have n1_ := Aside0.mk (blk_below (g := gb129) (o := .cells #[.int .u32 a0_0, .int .u32 a0_1] 60 (0, 0)) (by (with_reducible repeat (first | refine blk_drewN ?_ _ | refine blk_drew ?_ | refine blk_alloc ?_ _)); exact BK129.out) hb); have n2_ := Aside0.mk (below_step (by repeat (first | (with_reducible first | exact HB.out | apply below_alloc | apply pw_below_drewN | apply below_drew1 | refine below_set ?_ GE129.out) | exact HB.out)) hb); clear BK129; clear HB; have HO132 := n0_; have BK129 := n1_; have HB := n2_; clear n0_ n1_ n2_; (try clear hb); (try clear hb2); (try clear hk); (try clear hi); (try clear ho0); obtain ⟨Ao6, co6, eo6⟩ := Kd.R_slice HO132.out; subst eo6))
 go_loopg [4, 13] k (fun kq v4 v13 w' => ∃ (x4_1 : List (S60)) (x13_1 : Int), v13 = .int .i64 x13_1 ∧ Aside0 (formula_opposites.l0 kq x4_1 t130 (t130.length : Int) x13_1 a0_0 a0_1 = some (r1, r2)) ∧ Aside0 (kq ≤ k) ∧ Aside0 (Kd.R k60 60 w' w.heap.size (fun k_ => k_ ≠ gb129) v4 x4_1) ∧ Aside0 (Kd.R (Kd.int .i64) 3 w' w.heap.size (fun _ => True) (.slice Ao6 t130.length co6) t130) ∧ Aside0 (w'.heap[gb129]? = some (.cells #[.int .u32 a0_0, .int .u32 a0_1] 60 (0, 0))) ∧ Aside0 (Below w.heap.size w w'))
 case atStart => exact ⟨(([] : List (S60))), (0), (by first | rfl | (simp; done) | (simp [*]; done)), H', ⟨Nat.le_refl _⟩, ⟨by first | exact Kd.R_nil _ _ _ _ _ | exact Kd.N_nil _ _ _ _ _ | exact Kd.V_nil _ _ _ _ _ | exact Kd.Q_nil _ _ _ _ _ | exact Kd.S_nil _ _ _ _ _⟩, ⟨by (with_reducible repeat (first | apply Kd.R_alloc | apply Kd.R_drewN | apply Kd.R_drew)); exact HO132.out⟩, ⟨by (with_reducible repeat (first | refine blk_drewN ?_ _ | refine blk_drew ?_ | refine blk_alloc ?_ _)); exact BK129.out⟩, ⟨by repeat (first | (with_reducible first | exact HB.out | apply below_alloc | apply pw_below_drewN | apply below_drew1 | refine below_set ?_ GE129.out) | exact HB.out)⟩⟩
 case round =>
  clear H'
  try clear c1
  try clear p2
  try clear c5
  try clear hcz4_0
  try clear hcz4_1
  try clear hfz4_0
  try clear hfz4_1
  obtain ⟨x4_1, x13_1, rfl, HA, HK1, HO_4, HO_11, BK129, HB⟩ := hrel
  cases gk with
  | zero => exact absurd HA.out (by simp [formula_opposites.l0])
  | succ k1 =>
   have H := HA.out
   clear HA
   simp only [formula_opposites.l0] at H
   by_cases c7 : x13_1 < (t130.length : Int)
   ·rw [if_pos c7] at H
    have c7b0 : decide (x13_1 < (t130.length : Int)) = true := decide_eq_true c7
    clear c7
    by_cases c8 : 0 ≤ x13_1
    ·rw [if_pos c8] at H
     have c8b0 : decide (0 ≤ x13_1) = true := decide_eq_true c8
     clear c8
     by_cases c9 : x13_1 < (t130.length : Int)
     ·rw [if_pos c9] at H
      have c9b0 : decide (x13_1 < (t130.length : Int)) = true := decide_eq_true c9
      clear c9
      replace H := Option.bind_eq_some_iff.mp H
      obtain ⟨t134, A100, H⟩ := H
      replace H : (if x4_1.length < 17592186044416 then (formula_opposites.l0 k1 (x4_1 ++ [(⟨0, t134⟩ : S60)]) t130 (t130.length : Int) (wrap64 (x13_1 + 1)) a0_0 a0_1) else (none)) = some (r1, r2) := H
      have A10 := Aside0.mk A100
      clear A100
      by_cases c11 : x4_1.length < 17592186044416
      ·rw [if_pos c11] at H
       have LMc11 := Aside0.mk c11
       clear c11
       obtain ⟨y135, hy135⟩ : ∃ y_ : List (S60), y_ = (x4_1 ++ [(⟨0, t134⟩ : S60)]) := ⟨_, rfl⟩
       replace H : (formula_opposites.l0 k1 y135 t130 (t130.length : Int) (wrap64 (x13_1 + 1)) a0_0 a0_1) = some (r1, r2) := by first | (rw [hy135]; with_reducible exact H) | (have H2_ := (Option.bind_some _ _).symm.trans H; rw [hy135]; with_reducible exact H2_) | (have H2_ := (Option.bind_some _ _).symm.trans H; with_reducible exact H2_) | with_reducible exact H | (rw [hy135]; exact H) | exact H
       have Ny135 := Aside0.mk hy135
       clear hy135
       have H' := Aside0.mk H
       clear H
       have p133 : 0 ≤ (x13_1 : Int) := of_decide_eq_true (by first | (with_reducible assumption) | assumption)
       have q133 : x13_1 < (t130.length : Int) := of_decide_eq_true (by first | (with_reducible assumption) | assumption)
       obtain ⟨ad133, e133, hx133_0⟩ := Kd.at_int (Kd.R_reads' HO_11.out).2.2 x13_1 p133 q133
       cases e133
       replace p133 := eq_true p133
       replace q133 := eq_true q133
       go_wp2_with (first | ((with_reducible refine gate_callee (f := 68) rfl ?_); refine goesL_ (some 19) rfl rfl Tryd.func68 (by kernel_rfl) rfl #[.int .u32 0, .int .i64 (rd t130 x13_1)] rfl (by (try simp only [List.map_toArray, List.map_cons, List.map_nil]); first | done | rfl | (simp only [List.length_drop, List.length_take]; rfl)) ?_; (with_reducible refine (mask_With.calls 0 (rd t130 x13_1) t134 _ A10.out).mono ?_); rintro e w' ⟨rfl, ⟨nd, rfl⟩⟩; refine ⟨_, rfl, ?_⟩) | ((with_reducible refine gate_builtin (b := .append) (xs := #[.tmp 17, .tmp 21]) rfl ?_); at_builtin; refine Kd.R_append k60 (w0 := w) w.heap.size rfl (.tmp 17) (.tmp 21) 26 60 (.agg #[(.int .u32 0), (.int .u32 0)]) 8 rfl Tryd.underlying26 info60 rfl (by decide) (by omega) u4 x4_1 (⟨0, t134⟩ : S60) [.int .u32 0, .int .u32 t134] (fun k_ => k_ ≠ gb129) (fun _ => False) rfl rfl ?aP (fun _ hk => hk.elim) ?aF ?aO ?aB ?aS ?aL ?_; (case aP => exact k60_mkM _ _ _ (⟨0, t134⟩ : S60)); (case aB => exact (by repeat (first | (with_reducible first | exact HB.out | apply below_alloc | apply pw_below_drewN | apply below_drew1 | refine below_set ?_ GE129.out) | exact HB.out))); (case aF => exact (fun k_ hk => Kd.freshB (g := gb129) (o := .cells #[.int .u32 a0_0, .int .u32 a0_1] 60 (0, 0)) (by (with_reducible repeat (first | refine blk_drewN ?_ _ | refine blk_drew ?_ | refine blk_alloc ?_ _)); exact BK129.out) k_ hk)); (case aO => exact (by (with_reducible repeat (first | apply Kd.R_alloc | apply Kd.R_drewN | apply Kd.R_drew)); exact HO_4.out)); (case aS => exact (below_size (by repeat (first | (with_reducible first | exact HB.out | apply below_alloc | apply pw_below_drewN | apply below_drew1 | refine below_set ?_ GE129.out) | exact HB.out)))); (case aL => have := LMc11.out; omega); intro v136 w12 ho hb hg hat; rw [← Ny135.out] at ho; have n0_ := Aside0.mk (Kd.R_over' (by (with_reducible repeat (first | apply Kd.R_alloc | apply Kd.R_drewN | apply Kd.R_drew)); exact HO_11.out) (Kd.R_typed (by (with_reducible repeat (first | apply Kd.R_alloc | apply Kd.R_drewN | apply Kd.R_drew)); exact HO_4.out)) (by decide) hg); have n1_ := Aside0.mk (blk_grown (g := gb129) (o := .cells #[.int .u32 a0_0, .int .u32 a0_1] 60 (0, 0)) (by (with_reducible repeat (first | refine blk_drewN ?_ _ | refine blk_drew ?_ | refine blk_alloc ?_ _)); exact BK129.out) hg (Kd.R_away HO_4.out (fun _ hk => hk))); have n2_ := Aside0.mk (hb); have n3_ := Aside0.mk (ho); clear HO_11; clear BK129; clear HB; clear HO_4; have HO_11 := n0_; have BK129 := n1_; have HB := n2_; have HO137 := n3_; clear n0_ n1_ n2_ n3_; clear ho hb hg hat))
       go_roundg k1
       case measure => have := HK1.out; omega
       case rel => exact ⟨(y135), (wrap64 (x13_1 + 1)), (by first | rfl | (simp; done) | (simp [*]; done)), H', ⟨by have := HK1.out; omega⟩, ⟨by (with_reducible repeat (first | apply Kd.R_alloc | apply Kd.R_drewN | apply Kd.R_drew)); exact HO137.out⟩, ⟨by (with_reducible repeat (first | apply Kd.R_alloc | apply Kd.R_drewN | apply Kd.R_drew)); exact HO_11.out⟩, ⟨by (with_reducible repeat (first | refine blk_drewN ?_ _ | refine blk_drew ?_ | refine blk_alloc ?_ _)); exact BK129.out⟩, ⟨by repeat (first | (with_reducible first | exact HB.out | apply below_alloc | apply pw_below_drewN | apply below_drew1 | refine below_set ?_ GE129.out) | exact HB.out)⟩⟩
      ·rw [if_neg c11] at H
       exact absurd H (by simp)
     ·rw [if_neg c9] at H
      exact absurd H (by simp)
    ·rw [if_neg c8] at H
     exact absurd H (by simp)
   ·rw [if_neg c7] at H
    have c7b0 : decide (x13_1 < (t130.length : Int)) = false := decide_eq_false c7
    clear c7
    replace H := Option.bind_eq_some_iff.mp H
    obtain ⟨t138, A130, H⟩ := H
    replace H : (formula_opposites.l1 k1 x4_1 t138 (t138.length : Int) 0) = some (r1, r2) := H
    have A13 := Aside0.mk A130
    clear A130
    have H' := Aside0.mk H
    clear H
    have hcz14_0 : wr.cell? ⟨gb129, 0, none⟩ = some (.int .u32 a0_0) := (blk_cell BK129.out 0).trans rfl
    have hcz14_1 : wr.cell? ⟨gb129, 1, none⟩ = some (.int .u32 a0_1) := (blk_cell BK129.out 1).trans rfl
    have hfz14_0 := blk_frozen BK129.out 0
    have hfz14_1 := blk_frozen BK129.out 1
    go_wp2_with (first | ((with_reducible refine gate_callee (f := 59) rfl ?_); refine goesL_ (some 26) rfl rfl Tryd.func59 (by kernel_rfl) rfl #[.int .u32 a0_1] rfl (by (try simp only [List.map_toArray, List.map_cons, List.map_nil]); first | done | rfl | (simp only [List.length_drop, List.length_take]; rfl)) ?_; (with_reducible refine (mask_List.calls (HT := ⟨Tab.below HT.out (by repeat (first | (with_reducible first | exact HB.out | apply below_alloc | apply pw_below_drewN | apply below_drew1 | refine below_set ?_ GE129.out) | exact HB.out))⟩) a0_1 t138 _ A13.out).mono ?_); rintro e w15 ⟨v139, rfl, ho0, hb⟩; refine ⟨_, rfl, ?_⟩; have n0_ := Aside0.mk (Kd.R_below (by (with_reducible repeat (first | apply Kd.R_alloc | apply Kd.R_drewN | apply Kd.R_drew)); exact HO_4.out) hb); have n1_ := Aside0.mk (Kd.R_elder' (by (with_reducible repeat (first | apply Kd.R_alloc | apply Kd.R_drewN | apply Kd.R_drew)); exact HO_11.out) (Kd.R_base ho0) hb); have n2_ := Aside0.mk (Kd.R_lower (Kd.R_new' ho0 (Kd.R_lt (by (with_reducible repeat (first | apply Kd.R_alloc | apply Kd.R_drewN | apply Kd.R_drew)); exact HO_11.out))) (below_size (by repeat (first | (with_reducible first | exact HB.out | apply below_alloc | apply pw_below_drewN | apply below_drew1 | refine below_set ?_ GE129.out) | exact HB.out)))); have n3_ := Aside0.mk (blk_below (g := gb129) (o := .cells #[.int .u32 a0_0, .int .u32 a0_1] 60 (0, 0)) (by (with_reducible repeat (first | refine blk_drewN ?_ _ | refine blk_drew ?_ | refine blk_alloc ?_ _)); exact BK129.out) hb); have n4_ := Aside0.mk (below_step (by repeat (first | (with_reducible first | exact HB.out | apply below_alloc | apply pw_below_drewN | apply below_drew1 | refine below_set ?_ GE129.out) | exact HB.out)) hb); clear HO_4; clear HO_11; clear BK129; clear HB; have HO_4 := n0_; have HO_11 := n1_; have HO140 := n2_; have BK129 := n3_; have HB := n4_; clear n0_ n1_ n2_ n3_ n4_; (try clear hb); (try clear hb2); (try clear hk); (try clear hi); (try clear ho0); obtain ⟨Ao16, co16, eo16⟩ := Kd.R_slice HO140.out; subst eo16))
    go_loopg [4, 28] k1 (fun kq v4 v28 w' => ∃ (x4_2 : List (S60)) (x28_2 : Int), v28 = .int .i64 x28_2 ∧ Aside0 (formula_opposites.l1 kq x4_2 t138 (t138.length : Int) x28_2 = some (r1, r2)) ∧ Aside0 (kq ≤ k1) ∧ Aside0 (Kd.R k60 60 w' w.heap.size (fun k_ => k_ ≠ gb129) v4 x4_2) ∧ Aside0 (Kd.R (Kd.int .i64) 3 w' w.heap.size (fun _ => True) (.slice Ao16 t138.length co16) t138) ∧ Aside0 (w'.heap[gb129]? = some (.cells #[.int .u32 a0_0, .int .u32 a0_1] 60 (0, 0))) ∧ Aside0 (Below w.heap.size w w'))
    case atStart => exact ⟨(x4_1), (0), (by first | rfl | (simp; done) | (simp [*]; done)), H', ⟨Nat.le_refl _⟩, ⟨by (with_reducible repeat (first | apply Kd.R_alloc | apply Kd.R_drewN | apply Kd.R_drew)); exact HO_4.out⟩, ⟨by (with_reducible repeat (first | apply Kd.R_alloc | apply Kd.R_drewN | apply Kd.R_drew)); exact Kd.R_mono HO140.out (fun _ hk => trivial)⟩, ⟨by (with_reducible repeat (first | refine blk_drewN ?_ _ | refine blk_drew ?_ | refine blk_alloc ?_ _)); exact BK129.out⟩, ⟨by repeat (first | (with_reducible first | exact HB.out | apply below_alloc | apply pw_below_drewN | apply below_drew1 | refine below_set ?_ GE129.out) | exact HB.out)⟩⟩
    case round =>
     clear H'
     try clear c1
     try clear p1
     try clear q1
     try clear hx1
     try clear p2
     try clear c5
     try clear c6
     try clear p6
     try clear c7
     try clear c7b0
     try clear c8
     try clear c8b0
     try clear c9
     try clear c9b0
     try clear c10
     try clear c11
     try clear p13
     try clear q13
     try clear hx13
     try clear hcz14_0
     try clear hcz14_1
     try clear hcz4_0
     try clear hcz4_1
     try clear hfz14_0
     try clear hfz14_1
     try clear hfz4_0
     try clear hfz4_1
     try clear hx133_0
     try clear p133
     try clear p2
     try clear q133
     obtain ⟨x4_2, x28_2, rfl, HA, HK2, HO_4, HO_26, BK129, HB⟩ := hrel
     cases gk with
     | zero => exact absurd HA.out (by simp [formula_opposites.l1])
     | succ k2 =>
      have H := HA.out
      clear HA
      simp only [formula_opposites.l1] at H
      by_cases c17 : x28_2 < (t138.length : Int)
      ·rw [if_pos c17] at H
       have c17b0 : decide (x28_2 < (t138.length : Int)) = true := decide_eq_true c17
       clear c17
       by_cases c18 : 0 ≤ x28_2
       ·rw [if_pos c18] at H
        have c18b0 : decide (0 ≤ x28_2) = true := decide_eq_true c18
        clear c18
        by_cases c19 : x28_2 < (t138.length : Int)
        ·rw [if_pos c19] at H
         have c19b0 : decide (x28_2 < (t138.length : Int)) = true := decide_eq_true c19
         clear c19
         replace H := Option.bind_eq_some_iff.mp H
         obtain ⟨t142, A200, H⟩ := H
         replace H : (if x4_2.length < 17592186044416 then (formula_opposites.l1 k2 (x4_2 ++ [(⟨t142, 0⟩ : S60)]) t138 (t138.length : Int) (wrap64 (x28_2 + 1))) else (none)) = some (r1, r2) := H
         have A20 := Aside0.mk A200
         clear A200
         by_cases c21 : x4_2.length < 17592186044416
         ·rw [if_pos c21] at H
          have LMc21 := Aside0.mk c21
          clear c21
          obtain ⟨y143, hy143⟩ : ∃ y_ : List (S60), y_ = (x4_2 ++ [(⟨t142, 0⟩ : S60)]) := ⟨_, rfl⟩
          replace H : (formula_opposites.l1 k2 y143 t138 (t138.length : Int) (wrap64 (x28_2 + 1))) = some (r1, r2) := by first | (rw [hy143]; with_reducible exact H) | (have H2_ := (Option.bind_some _ _).symm.trans H; rw [hy143]; with_reducible exact H2_) | (have H2_ := (Option.bind_some _ _).symm.trans H; with_reducible exact H2_) | with_reducible exact H | (rw [hy143]; exact H) | exact H
          have Ny143 := Aside0.mk hy143
          clear hy143
          have H' := Aside0.mk H
          clear H
          have p141 : 0 ≤ (x28_2 : Int) := of_decide_eq_true (by first | (with_reducible assumption) | assumption)
          have q141 : x28_2 < (t138.length : Int) := of_decide_eq_true (by first | (with_reducible assumption) | assumption)
          obtain ⟨ad141, e141, hx141_0⟩ := Kd.at_int (Kd.R_reads' HO_26.out).2.2 x28_2 p141 q141
          cases e141
          replace p141 := eq_true p141
          replace q141 := eq_true q141
          go_wp2_with (first | ((with_reducible refine gate_callee (f := 68) rfl ?_); refine goesL_ (some 34) rfl rfl Tryd.func68 (by kernel_rfl) rfl #[.int .u32 0, .int .i64 (rd t138 x28_2)] rfl (by (try simp only [List.map_toArray, List.map_cons, List.map_nil]); first | done | rfl | (simp only [List.length_drop, List.length_take]; rfl)) ?_; (with_reducible refine (mask_With.calls 0 (rd t138 x28_2) t142 _ A20.out).mono ?_); rintro e w' ⟨rfl, ⟨nd, rfl⟩⟩; refine ⟨_, rfl, ?_⟩) | ((with_reducible refine gate_builtin (b := .append) (xs := #[.tmp 32, .tmp 36]) rfl ?_); at_builtin; refine Kd.R_append k60 (w0 := w) w.heap.size rfl (.tmp 32) (.tmp 36) 26 60 (.agg #[(.int .u32 0), (.int .u32 0)]) 8 rfl Tryd.underlying26 info60 rfl (by decide) (by omega) u4 x4_2 (⟨t142, 0⟩ : S60) [.int .u32 t142, .int .u32 0] (fun k_ => k_ ≠ gb129) (fun _ => False) rfl rfl ?aP (fun _ hk => hk.elim) ?aF ?aO ?aB ?aS ?aL ?_; (case aP => exact k60_mkM _ _ _ (⟨t142, 0⟩ : S60)); (case aB => exact (by repeat (first | (with_reducible first | exact HB.out | apply below_alloc | apply pw_below_drewN | apply below_drew1 | refine below_set ?_ GE129.out) | exact HB.out))); (case aF => exact (fun k_ hk => Kd.freshB (g := gb129) (o := .cells #[.int .u32 a0_0, .int .u32 a0_1] 60 (0, 0)) (by (with_reducible repeat (first | refine blk_drewN ?_ _ | refine blk_drew ?_ | refine blk_alloc ?_ _)); exact BK129.out) k_ hk)); (case aO => exact (by (with_reducible repeat (first | apply Kd.R_alloc | apply Kd.R_drewN | apply Kd.R_drew)); exact HO_4.out)); (case aS => exact (below_size (by repeat (first | (with_reducible first | exact HB.out | apply below_alloc | apply pw_below_drewN | apply below_drew1 | refine below_set ?_ GE129.out) | exact HB.out)))); (case aL => have := LMc21.out; omega); intro v144 w22 ho hb hg hat; rw [← Ny143.out] at ho; have n0_ := Aside0.mk (Kd.R_over' (by (with_reducible repeat (first | apply Kd.R_alloc | apply Kd.R_drewN | apply Kd.R_drew)); exact HO_26.out) (Kd.R_typed (by (with_reducible repeat (first | apply Kd.R_alloc | apply Kd.R_drewN | apply Kd.R_drew)); exact HO_4.out)) (by decide) hg); have n1_ := Aside0.mk (blk_grown (g := gb129) (o := .cells #[.int .u32 a0_0, .int .u32 a0_1] 60 (0, 0)) (by (with_reducible repeat (first | refine blk_drewN ?_ _ | refine blk_drew ?_ | refine blk_alloc ?_ _)); exact BK129.out) hg (Kd.R_away HO_4.out (fun _ hk => hk))); have n2_ := Aside0.mk (hb); have n3_ := Aside0.mk (ho); clear HO_26; clear BK129; clear HB; clear HO_4; have HO_26 := n0_; have BK129 := n1_; have HB := n2_; have HO145 := n3_; clear n0_ n1_ n2_ n3_; clear ho hb hg hat))
          go_roundg k2
          case measure => have := HK1.out; have := HK2.out; omega
          case rel => exact ⟨(y143), (wrap64 (x28_2 + 1)), (by first | rfl | (simp; done) | (simp [*]; done)), H', ⟨by have := HK1.out; have := HK2.out; omega⟩, ⟨by (with_reducible repeat (first | apply Kd.R_alloc | apply Kd.R_drewN | apply Kd.R_drew)); exact HO145.out⟩, ⟨by (with_reducible repeat (first | apply Kd.R_alloc | apply Kd.R_drewN | apply Kd.R_drew)); exact HO_26.out⟩, ⟨by (with_reducible repeat (first | refine blk_drewN ?_ _ | refine blk_drew ?_ | refine blk_alloc ?_ _)); exact BK129.out⟩, ⟨by repeat (first | (with_reducible first | exact HB.out | apply below_alloc | apply pw_below_drewN | apply below_drew1 | refine below_set ?_ GE129.out) | exact HB.out)⟩⟩
         ·rw [if_neg c21] at H
          exact absurd H (by simp)
        ·rw [if_neg c19] at H
         exact absurd H (by simp)
       ·rw [if_neg c18] at H
        exact absurd H (by simp)
      ·rw [if_neg c17] at H
       have c17b0 : decide (x28_2 < (t138.length : Int)) = false := decide_eq_false c17
       clear c17
       replace H := Option.bind_eq_some_iff.mp H
       obtain ⟨⟨t146, t147⟩, A230, H⟩ := H
       replace H : (some (t146, t147)) = some (r1, r2) := H
       have A23 := Aside0.mk A230
       clear A230
       simp only [Option.some.injEq, Prod.mk.injEq] at H
       obtain ⟨rfl, rfl⟩ := H
       obtain ⟨Ao24, co24, eo24⟩ := Kd.R_slice HO_4.out
       subst eo24
       go_wp2_with (first | ((with_reducible refine gate_callee (f := 70) rfl ?_); refine goesL_ (some 40) rfl rfl Tryd.func70 (by kernel_rfl) rfl #[.slice Ao24 x4_2.length co24] rfl (by (try simp only [List.map_toArray, List.map_cons, List.map_nil]); first | done | rfl | (simp only [List.length_drop, List.length_take]; rfl)) ?_; (with_reducible refine (clause_Least.calls _ _ x4_2 t146 t147 _ ?side1 ?side2 A23.out).mono ?_); (case side1 => repeat (first | exact (Kd.R_reads' HO_4.out).2.2 | (with_reducible refine Kd.C_alloc ?_ _) | (with_reducible refine Kd.C_drewN ?_ _) | (with_reducible refine Kd.C_drew ?_))); (case side2 => exact (Kd.R_reads' HO_4.out).2.1); rintro e w25 ⟨v148, rfl, ho0, hb⟩; refine ⟨_, rfl, ?_⟩; have n0_ := Aside0.mk (Kd.R_elder' (by (with_reducible repeat (first | apply Kd.R_alloc | apply Kd.R_drewN | apply Kd.R_drew)); exact HO_4.out) (Kd.R_base ho0) hb); have n1_ := Aside0.mk (Kd.R_below (by (with_reducible repeat (first | apply Kd.R_alloc | apply Kd.R_drewN | apply Kd.R_drew)); exact HO_26.out) hb); have n2_ := Aside0.mk (Kd.R_lower (Kd.R_newB (Kd.R_new' ho0 (Kd.R_lt (by (with_reducible repeat (first | apply Kd.R_alloc | apply Kd.R_drewN | apply Kd.R_drew)); exact HO_4.out))) (g := gb129) (o := .cells #[.int .u32 a0_0, .int .u32 a0_1] 60 (0, 0)) (by (with_reducible repeat (first | refine blk_drewN ?_ _ | refine blk_drew ?_ | refine blk_alloc ?_ _)); exact BK129.out)) (below_size (by repeat (first | (with_reducible first | exact HB.out | apply below_alloc | apply pw_below_drewN | apply below_drew1 | refine below_set ?_ GE129.out) | exact HB.out)))); have n3_ := Aside0.mk (blk_below (g := gb129) (o := .cells #[.int .u32 a0_0, .int .u32 a0_1] 60 (0, 0)) (by (with_reducible repeat (first | refine blk_drewN ?_ _ | refine blk_drew ?_ | refine blk_alloc ?_ _)); exact BK129.out) hb); have n4_ := Aside0.mk (below_step (by repeat (first | (with_reducible first | exact HB.out | apply below_alloc | apply pw_below_drewN | apply below_drew1 | refine below_set ?_ GE129.out) | exact HB.out)) hb); clear HO_4; clear HO_26; clear BK129; clear HB; have HO_4 := n0_; have HO_26 := n1_; have HO149 := n2_; have BK129 := n3_; have HB := n4_; clear n0_ n1_ n2_ n3_ n4_; (try clear hb); (try clear hb2); (try clear hk); (try clear hi); (try clear ho0)))
       go_ret2
       exact ⟨_, by first | rfl | (simp [errW_none, errW_some] <;> rfl) | (simp [*, errW_none, errW_some] <;> rfl), by (with_reducible repeat (first | apply Kd.R_alloc | apply Kd.R_drewN | apply Kd.R_drew)); exact Kd.R_mono HO149.out (fun _ hk => trivial), by repeat (first | (with_reducible first | exact HB.out | apply below_alloc | apply pw_below_drewN | apply below_drew1 | refine below_set ?_ GE129.out) | exact HB.out)⟩

/-! ### hypercube/formula.Not: by hand -/
theorem ownOf24 {w : World} {base : Nat} {ok : Nat → Prop} {v : Value} {l : List H.C} (h : Kd.R k60 60 w base ok v (l.map ofC24)) (hl : l.length ≤ 1000000) : Own w base v l := by
  obtain ⟨_, inner, ho, hlen, hr⟩ := h
  rw [List.length_map] at ho hlen
  have e : inner = flat l := by
    refine List.ext_getElem? fun j => ?_
    have hlen2 : inner.length = l.length * 2 := hlen
    by_cases hj : j / 2 < l.length
    · obtain ⟨g0, g1⟩ := flat_get l (j / 2) hj
      have hM := hr (j / 2) (ofC24 l[j / 2]) (by rw [List.getElem?_map, List.getElem?_eq_getElem hj]; rfl)
      have hc : ((inner.drop (j / 2 * 2)).take 2) = [.int .u32 (un l[j / 2].1), .int .u32 (un l[j / 2].2)] := k60_openM hM
      have h0 : inner[j / 2 * 2]? = some (.int .u32 (un l[j / 2].1)) := by
        have := congrArg (fun z => z[0]?) hc
        simp only [List.getElem?_take, List.getElem?_drop, Nat.add_zero] at this
        simpa using this
      have h1 : inner[j / 2 * 2 + 1]? = some (.int .u32 (un l[j / 2].2)) := by
        have := congrArg (fun z => z[1]?) hc
        simp only [List.getElem?_take, List.getElem?_drop] at this
        simpa using this
      rcases Nat.mod_two_eq_zero_or_one j with hm | hm
      · rw [show j = j / 2 * 2 by omega, h0, g0]
      · rw [show j = j / 2 * 2 + 1 by omega, h1, g1]
    · rw [List.getElem?_eq_none (by omega), List.getElem?_eq_none (by rw [flat_length]; omega)]
  rw [e] at ho
  exact ⟨ho, by omega⟩
theorem with_fin24 : ∀ n : Fin 24, mask_With.f 0 ((n.val : Nat) : Int) = some ((2 ^ n.val : Nat) : Int) := by decide +kernel
theorem with24 (i : Nat) (h : i < 24) : mask_With.f 0 (i : Int) = some (un (H.one i)) := by
  have h1 := with_fin24 ⟨i, h⟩
  rw [show un (H.one i) = ((2 ^ i : Nat) : Int) by unfold un; rw [H.toNat_one (by omega)]]
  exact h1
theorem list24 (x : UInt32) : mask_List.f (un x) = some ((H.dims x).map fun i : Nat => (i : Int)) := by
  have h := un_range x
  unfold mask_List.f
  rw [if_pos h, show UInt32.ofNat (un x).toNat = x by unfold un; simp]
theorem rd_nat24 (D : List Nat) (i : Nat) (h : i < D.length) : rd (D.map fun i : Nat => (i : Int)) (i : Int) = ((D[i] : Nat) : Int) := by
  unfold rd
  rw [Int.toNat_natCast, List.getD_eq_getElem?_getD, List.getElem?_map, List.getElem?_eq_getElem h]
  rfl
theorem opp_l1 (D : List Nat) (hD : ∀ x ∈ D, x < 24) (hl : D.length ≤ 24) : ∀ (d k i : Nat) (A : List H.C), i + d = D.length → d < k → A.length + d ≤ 100 →
    formula_opposites.l1 k (A.map ofC24) (D.map fun i : Nat => (i : Int)) (D.length : Int) (i : Int) = some ((H.least (A ++ (D.drop i).map fun j => (H.one j, 0))).1.map ofC24, (H.least (A ++ (D.drop i).map fun j => (H.one j, 0))).2)
  | d, 0, _, _, _, hk, _ => absurd hk (by omega)
  | 0, k + 1, i, A, hi, _, hA => by
    rw [formula_opposites.l1, if_neg (by omega), leastx24 A (by omega), Option.bind_some, List.drop_eq_nil_of_le (by omega), List.map_nil, List.append_nil]
  | d + 1, k + 1, i, A, hi, hk, hA => by
    have hil : i < D.length := by omega
    have e2 : wrap64 ((i : Int) + 1) = ((i + 1 : Nat) : Int) := by
      unfold wrap64
      omega
    have e3 : (A.map ofC24) ++ [(⟨un (H.one D[i]), 0⟩ : S60)] = (A ++ [(H.one D[i], 0)]).map ofC24 := by rw [List.map_append]; rfl
    rw [formula_opposites.l1, if_pos (by omega), if_pos (by omega), if_pos (by rw [List.length_map]; omega), rd_nat24 D i hil, with24 _ (hD _ (List.getElem_mem _)), Option.bind_some, if_pos (by rw [List.length_map]; omega), e2, e3,
      opp_l1 D hD hl d k (i + 1) _ (by omega) (by omega) (by rw [List.length_append, List.length_singleton]; omega), List.drop_eq_getElem_cons hil, List.map_cons, List.append_assoc]
    rfl
theorem opp_l0 (D E : List Nat) (x y : UInt32) (hy : H.dims y = E) (hD : ∀ x ∈ D, x < 24) (hE : ∀ x ∈ E, x < 24) (hl : D.length ≤ 24) (hlE : E.length ≤ 24) : ∀ (d k i : Nat) (A : List H.C), i + d = D.length → d + 30 < k → A.length + d ≤ 60 →
    formula_opposites.l0 k (A.map ofC24) (D.map fun i : Nat => (i : Int)) (D.length : Int) (i : Int) (un x) (un y) = some ((H.least ((A ++ (D.drop i).map fun j => (0, H.one j)) ++ E.map fun j => (H.one j, 0))).1.map ofC24, (H.least ((A ++ (D.drop i).map fun j => (0, H.one j)) ++ E.map fun j => (H.one j, 0))).2)
  | d, 0, _, _, _, hk, _ => absurd hk (by omega)
  | 0, k + 1, i, A, hi, hk, hA => by
    have h1 := opp_l1 E hE hlE E.length k 0 A (by omega) (by omega) (by omega)
    rw [List.drop_zero] at h1
    rw [formula_opposites.l0, if_neg (by omega), list24, hy, Option.bind_some, List.length_map, List.drop_eq_nil_of_le (by omega), List.map_nil, List.append_nil]
    exact h1
  | d + 1, k + 1, i, A, hi, hk, hA => by
    have hil : i < D.length := by omega
    have e2 : wrap64 ((i : Int) + 1) = ((i + 1 : Nat) : Int) := by
      unfold wrap64
      omega
    have e3 : (A.map ofC24) ++ [(⟨0, un (H.one D[i])⟩ : S60)] = (A ++ [(0, H.one D[i])]).map ofC24 := by rw [List.map_append]; rfl
    rw [formula_opposites.l0, if_pos (by omega), if_pos (by omega), if_pos (by rw [List.length_map]; omega), rd_nat24 D i hil, with24 _ (hD _ (List.getElem_mem _)), Option.bind_some, if_pos (by rw [List.length_map]; omega), e2, e3,
      opp_l0 D E x y hy hD hE hl hlE d k (i + 1) _ (by omega) (by omega) (by rw [List.length_append, List.length_singleton]; omega), List.drop_eq_getElem_cons hil, List.map_cons, List.append_assoc A]
    rfl
theorem opp24 (c : H.C) : formula_opposites.f 60 (un c.1) (un c.2) = some ((H.least (H.opps c)).1.map ofC24, 0) := by
  have h1 := opp_l0 (H.dims c.1) (H.dims c.2) c.1 c.2 rfl (fun x hx => (H.mem_dims.1 hx).1) (fun x hx => (H.mem_dims.1 hx).1) (H.length_dims _) (H.length_dims _) (H.dims c.1).length 60 0 [] (by omega) (by have := H.length_dims c.1; omega) (by have := H.length_dims c.1; simp; omega)
  have h2 := H.opps_told c
  unfold formula_opposites.f
  rw [list24, Option.bind_some, List.length_map]
  have h3 : (H.least ((H.dims c.1).map (fun j => ((0 : UInt32), H.one j)) ++ (H.dims c.2).map fun j => (H.one j, (0 : UInt32)))).2 = 0 := h2
  rw [List.drop_zero, List.nil_append, h3] at h1
  exact h1
theorem smallN24 : SmallN where
  toSmallP := smallP24
  opp c w HT := by
    refine (formula_opposites.calls 60 (un c.1) (un c.2) _ _ w ⟨HT⟩ (opp24 c)).mono ?_
    rintro e w' ⟨v, rfl, hr, hb⟩
    exact ⟨v, rfl, ownOf24 hr (Nat.le_trans (least_len _) (by decide)), hb⟩
def formula_Not.f (l0 : List S60) : Option (List S60 × Int) := if okL24 l0 then some ((fNot (l0.map toC24)).1.map ofC24, (fNot (l0.map toC24)).2) else none
theorem formula_Not.calls (A0 : Option Addr) (c0 : Nat) (l0 : List (S60)) (r1 : List (S60)) (r2 : Int) (w : World) (HT : Aside0 (Tab w)) (hr0 : Kd.C k60 w A0 l0.length l0) (hc0 : l0.length ≤ c0) (h : formula_Not.f l0 = some (r1, r2)) :
    Calls Tryd.prog 40 #[.slice A0 l0.length c0] w fun e w' => ∃ v0_ : Value, e = .returned (.tuple #[v0_, .int .i64 r2]) ∧ Kd.R k60 60 w' w.heap.size (fun _ => True) v0_ r1 ∧ Below w.heap.size w w' := by
  unfold formula_Not.f at h
  by_cases hr : okL24 l0
  · rw [if_pos hr] at h
    simp only [Option.some.injEq, Prod.mk.injEq] at h
    obtain ⟨rfl, rfl⟩ := h
    have hk0 := hr
    have hc := form_Not smallN24 A0 c0 (l0.map toC24) w (rd24 hr0 hk0.1 hk0.2) (by rw [List.length_map]; exact hc0) (by rw [List.length_map]; exact hk0.2) HT.out
    simp only [List.length_map] at hc
    refine hc.mono ?_
    rintro e w' ⟨v, rfl, ho, hb⟩
    exact ⟨v, rfl, own24 ho, hb⟩
  · rw [if_neg hr] at h
    exact absurd h (by simp)

/-! ### mask_Without: function 83 -/
def mask_Without.f (a0 : Int) (a1 : Int) : Option (Int) := (mask_dimension.f a1).bind fun t150 => (if t150 = true then (if 0 ≤ (IntKind.u64.wrap (a1)) then (some (Go.bits .andNot .u32 (Go.bits .and .u32 a0 16777215) (shl .u32 1 (IntKind.u64.wrap (a1))))) else (none)) else (some (Go.bits .and .u32 a0 16777215)))
set_option maxHeartbeats 8000000 in
set_option maxRecDepth 100000 in
theorem mask_Without.calls (a0 : Int) (a1 : Int) (r : Int) (w : World) (h : mask_Without.f a0 a1 = some r) :
  Calls Tryd.prog 83 #[.int .u32 a0, .int .i64 a1] w fun e w' => e = .returned (.int .u32 r) ∧ Drawn0 w w' := by
 have H : ((mask_dimension.f a1).bind fun t150 => (if t150 = true then (if 0 ≤ (IntKind.u64.wrap (a1)) then (some (Go.bits .andNot .u32 (Go.bits .and .u32 a0 16777215) (shl .u32 1 (IntKind.u64.wrap (a1))))) else (none)) else (some (Go.bits .and .u32 a0 16777215)))) = some r := h
 clear h
 replace H := Option.bind_eq_some_iff.mp H
 obtain ⟨t150, A30, H⟩ := H
 replace H : (if t150 = true then (if 0 ≤ (IntKind.u64.wrap (a1)) then (some (Go.bits .andNot .u32 (Go.bits .and .u32 a0 16777215) (shl .u32 1 (IntKind.u64.wrap (a1))))) else (none)) else (some (Go.bits .and .u32 a0 16777215))) = some r := H
 have A3 := Aside0.mk A30
 clear A30
 by_cases c4 : t150 = true
 ·subst c4
  have H1 : (if 0 ≤ (IntKind.u64.wrap (a1)) then (some (Go.bits .andNot .u32 (Go.bits .and .u32 a0 16777215) (shl .u32 1 (IntKind.u64.wrap (a1))))) else (none)) = some r := by rw [if_pos rfl] at H; exact H
  clear H
  have H := H1
  clear H1
  obtain ⟨ji5, hji5⟩ : ∃ j_ : Int, (IntKind.u64.wrap (a1)) = j_ := ⟨_, rfl⟩
  replace H : (if 0 ≤ (ji5) then (some (Go.bits .andNot .u32 (Go.bits .and .u32 a0 16777215) (shl .u32 1 (ji5)))) else (none)) = some r := by first | (rw [hji5] at H; exact H) | (simp only [hji5] at H ⊢; exact H)
  (try rw [hji5] at A3)
  by_cases c6 : 0 ≤ (ji5)
  ·rw [if_pos c6] at H
   have c6b0 := eq_true c6
   have c6b1 : decide (0 ≤ (ji5)) = true := decide_eq_true c6
   clear c6
   obtain ⟨ji7, hji7⟩ : ∃ j_ : Int, (shl .u32 1 (ji5)) = j_ := ⟨_, rfl⟩
   replace H : (some (Go.bits .andNot .u32 (Go.bits .and .u32 a0 16777215) (ji7))) = some r := by first | (rw [hji7] at H; exact H) | (simp only [hji7] at H ⊢; exact H)
   (try rw [hji7] at A3)
   have hji7_ : (IntKind.u32.wrap (1 * 2 ^ min (ji5).toNat 32)) = ji7 := hji7
   have hji7z : (ji5) ≤ 32 → (IntKind.u32.wrap (1 * 2 ^ (ji5).toNat)) = ji7 := shl_small hji7
   have hji7u : (IntKind.u32.wrap (2 ^ min (ji5).toNat 32)) = ji7 := by have h_ := hji7_; rw [Int.one_mul] at h_; exact h_
   have hji7v : (ji5) ≤ 32 → (IntKind.u32.wrap (2 ^ (ji5).toNat)) = ji7 := fun hle_ => by have h_ := hji7z hle_; rw [Int.one_mul] at h_; exact h_
   obtain rfl := Option.some.inj H
   go_enter Tryd.func83, Tryd.ntmps83
   go_wp2_with (first | ((with_reducible refine gate_callee (f := 100) rfl ?_); refine goesL_ (some 8) rfl rfl Tryd.func100 (by kernel_rfl) rfl #[.int .i64 a1] rfl (by (try simp only [List.map_toArray, List.map_cons, List.map_nil]); first | done | rfl | (simp only [List.length_drop, List.length_take]; rfl)) ?_; (with_reducible refine (mask_dimension.calls a1 true _ A3.out).mono ?_); rintro e w' ⟨rfl, ⟨nd, rfl⟩⟩; refine ⟨_, rfl, ?_⟩))
   go_ret
   exact ⟨by first | rfl | (simp; done) | (simp only [← hji5, ← hji7] <;> (first | rfl | simp)) | (simp [*]; done), by repeat (first | exact Drawn0.refl _ | apply Drawn0.step)⟩
  ·rw [if_neg c6] at H
   exact absurd H (by simp)
 ·replace c4 := Bool.eq_false_iff.mpr c4
  subst c4
  have H1 : (some (Go.bits .and .u32 a0 16777215)) = some r := by rw [if_neg (show ¬ (false = true) by decide)] at H; exact H
  clear H
  have H := H1
  clear H1
  obtain rfl := Option.some.inj H
  go_enter Tryd.func83, Tryd.ntmps83
  go_wp2_with (first | ((with_reducible refine gate_callee (f := 100) rfl ?_); refine goesL_ (some 8) rfl rfl Tryd.func100 (by kernel_rfl) rfl #[.int .i64 a1] rfl (by (try simp only [List.map_toArray, List.map_cons, List.map_nil]); first | done | rfl | (simp only [List.length_drop, List.length_take]; rfl)) ?_; (with_reducible refine (mask_dimension.calls a1 false _ A3.out).mono ?_); rintro e w' ⟨rfl, ⟨nd, rfl⟩⟩; refine ⟨_, rfl, ?_⟩))
  go_ret
  exact ⟨by first | rfl | (simp; done) | (simp [*]; done), by repeat (first | exact Drawn0.refl _ | apply Drawn0.step)⟩

/-! ### mask_Has: function 84 -/
def mask_Has.f (a0 : Int) (a1 : Int) : Option (Bool) := (mask_dimension.f a1).bind fun t151 => (if t151 = true then (if 0 ≤ (IntKind.u64.wrap (a1)) then (some ((Go.bits .and .u32 (shr .u32 a0 (IntKind.u64.wrap (a1))) 1) == 1)) else (none)) else (some false))
set_option maxHeartbeats 8000000 in
set_option maxRecDepth 100000 in
theorem mask_Has.calls (a0 : Int) (a1 : Int) (r : Bool) (w : World) (h : mask_Has.f a0 a1 = some r) :
  Calls Tryd.prog 84 #[.int .u32 a0, .int .i64 a1] w fun e w' => e = .returned (.bool r) ∧ Drawn0 w w' := by
 have H : ((mask_dimension.f a1).bind fun t151 => (if t151 = true then (if 0 ≤ (IntKind.u64.wrap (a1)) then (some ((Go.bits .and .u32 (shr .u32 a0 (IntKind.u64.wrap (a1))) 1) == 1)) else (none)) else (some false))) = some r := h
 clear h
 replace H := Option.bind_eq_some_iff.mp H
 obtain ⟨t151, A30, H⟩ := H
 replace H : (if t151 = true then (if 0 ≤ (IntKind.u64.wrap (a1)) then (some ((Go.bits .and .u32 (shr .u32 a0 (IntKind.u64.wrap (a1))) 1) == 1)) else (none)) else (some false)) = some r := H
 have A3 := Aside0.mk A30
 clear A30
 by_cases c4 : t151 = true
 ·subst c4
  have H1 : (if 0 ≤ (IntKind.u64.wrap (a1)) then (some ((Go.bits .and .u32 (shr .u32 a0 (IntKind.u64.wrap (a1))) 1) == 1)) else (none)) = some r := by rw [if_pos rfl] at H; exact H
  clear H
  have H := H1
  clear H1
  obtain ⟨ji5, hji5⟩ : ∃ j_ : Int, (IntKind.u64.wrap (a1)) = j_ := ⟨_, rfl⟩
  replace H : (if 0 ≤ (ji5) then (some ((Go.bits .and .u32 (shr .u32 a0 (ji5)) 1) == 1)) else (none)) = some r := by first | (rw [hji5] at H; exact H) | (simp only [hji5] at H ⊢; exact H)
  (try rw [hji5] at A3)
  by_cases c6 : 0 ≤ (ji5)
  ·rw [if_pos c6] at H
   have c6b0 := eq_true c6
   have c6b1 : decide (0 ≤ (ji5)) = true := decide_eq_true c6
   clear c6
   obtain ⟨ji7, hji7⟩ : ∃ j_ : Int, (shr .u32 a0 (ji5)) = j_ := ⟨_, rfl⟩
   replace H : (some ((Go.bits .and .u32 (ji7) 1) == 1)) = some r := by first | (rw [hji7] at H; exact H) | (simp only [hji7] at H ⊢; exact H)
   (try rw [hji7] at A3)
   have hji7_ : (a0 / 2 ^ min (ji5).toNat 32) = ji7 := hji7
   have hji7z : (ji5) ≤ 32 → (a0 / 2 ^ (ji5).toNat) = ji7 := shr_small hji7
   obtain rfl := Option.some.inj H
   go_enter Tryd.func84, Tryd.ntmps84
   go_wp2_with (first | ((with_reducible refine gate_callee (f := 100) rfl ?_); refine goesL_ (some 6) rfl rfl Tryd.func100 (by kernel_rfl) rfl #[.int .i64 a1] rfl (by (try simp only [List.map_toArray, List.map_cons, List.map_nil]); first | done | rfl | (simp only [List.length_drop, List.length_take]; rfl)) ?_; (with_reducible refine (mask_dimension.calls a1 true _ A3.out).mono ?_); rintro e w' ⟨rfl, ⟨nd, rfl⟩⟩; refine ⟨_, rfl, ?_⟩))
   go_ret
   exact ⟨by first | rfl | (simp; done) | (simp only [← hji5, ← hji7] <;> (first | rfl | simp)) | (simp [*]; done), by repeat (first | exact Drawn0.refl _ | apply Drawn0.step)⟩
  ·rw [if_neg c6] at H
   exact absurd H (by simp)
 ·replace c4 := Bool.eq_false_iff.mpr c4
  subst c4
  have H1 : (some false) = some r := by rw [if_neg (show ¬ (false = true) by decide)] at H; exact H
  clear H
  have H := H1
  clear H1
  obtain rfl := Option.some.inj H
  go_enter Tryd.func84, Tryd.ntmps84
  go_wp2_with (first | ((with_reducible refine gate_callee (f := 100) rfl ?_); refine goesL_ (some 6) rfl rfl Tryd.func100 (by kernel_rfl) rfl #[.int .i64 a1] rfl (by (try simp only [List.map_toArray, List.map_cons, List.map_nil]); first | done | rfl | (simp only [List.length_drop, List.length_take]; rfl)) ?_; (with_reducible refine (mask_dimension.calls a1 false _ A3.out).mono ?_); rintro e w' ⟨rfl, ⟨nd, rfl⟩⟩; refine ⟨_, rfl, ?_⟩))
  go_ret
  exact ⟨by first | rfl | (simp; done) | (simp [*]; done), by repeat (first | exact Drawn0.refl _ | apply Drawn0.step)⟩

/-! ### hypercube/formula.Put: by hand -/
theorem mdim24 (i : Int) : mask_dimension.f i = some (dimI i) := by
  unfold mask_dimension.f dimI
  by_cases h : i ≥ 0
  · rw [if_pos h, Option.some.injEq, Bool.eq_iff_iff]
    simp
    omega
  · rw [if_neg h, Option.some.injEq, Bool.eq_iff_iff]
    simp
    omega
theorem shl_fin24 : ∀ n : Fin 24, shl .u32 1 ((n.val : Nat) : Int) = ((2 ^ n.val : Nat) : Int) := by decide +kernel
theorem u64_dim24 {i : Int} (h : dimI i = true) : IntKind.u64.wrap i = i := by
  have := of_decide_eq_true h
  rw [IntKind.wrap_u64]
  omega
theorem shl24 {i : Int} (h : dimI i = true) : shl .u32 1 i = un (H.one i.toNat) := by
  have h24 := of_decide_eq_true h
  have h1 := shl_fin24 ⟨i.toNat, by omega⟩
  rw [show ((i.toNat : Nat) : Int) = i by omega] at h1
  rw [h1]
  unfold un
  rw [H.toNat_one (by omega)]
theorem without24 (x : UInt32) (i : Int) : mask_Without.f (un x) i = some (un (wo x i)) := by
  unfold mask_Without.f wo
  rw [mdim24, Option.bind_some]
  cases h : dimI i
  · rw [if_neg Bool.false_ne_true, if_neg Bool.false_ne_true, un_all, un_and]
    rfl
  · have h24 := of_decide_eq_true h
    rw [if_pos rfl, if_pos rfl, u64_dim24 h, if_pos h24.1, shl24 h, un_all, un_and, un_andNot]
    rfl
theorem has24 (x : UInt32) (i : Int) : mask_Has.f (un x) i = some (hasI x i) := by
  unfold mask_Has.f hasI
  rw [mdim24, Option.bind_some]
  cases h : dimI i
  · rfl
  · have h24 := of_decide_eq_true h
    have hlt : x.toNat / 2 ^ i.toNat < 4294967296 := Nat.lt_of_le_of_lt (Nat.div_le_self _ _) x.toNat_lt
    have hx : shr .u32 (un x) i = un (UInt32.ofNat (x.toNat / 2 ^ i.toNat)) := by
      unfold shr un
      rw [UInt32.toNat_ofNat', Nat.mod_eq_of_lt hlt, show min i.toNat (IntKind.bits .u32) = i.toNat from Nat.min_eq_left (by show i.toNat ≤ 32; omega)]
      simp
    have hb : (Go.bits .and .u32 (shr .u32 (un x) i) 1 == 1) = x.toNat.testBit i.toNat := by
      have e1 : (1 : Int) = un 1 := rfl
      rw [hx, e1, un_and, un_beq, Nat.testBit_eq_decide_div_mod_eq, Bool.eq_iff_iff]
      simp only [decide_eq_true_eq]
      rw [← UInt32.toNat_inj, UInt32.toNat_and, UInt32.toNat_ofNat', Nat.mod_eq_of_lt hlt]
      show _ &&& 1 = 1 ↔ _
      rw [Nat.and_one_is_mod]
    rw [if_pos rfl, u64_dim24 h, if_pos h24.1, hb, Bool.true_and]
theorem count_fin24 : ∀ n : Fin 24, mask_Count.f ((2 ^ n.val : Nat) : Int) = some 1 := by decide +kernel
theorem fdim24 (i : Int) : formula_Dim.f i = some ((fDim i).1.map ofC24, (fDim i).2) := by
  unfold formula_Dim.f fDim
  cases h : dimI i
  · have hw : mask_With.f 0 i = some 0 := by
      unfold mask_With.f
      rw [mdim24, h, Option.bind_some, if_neg Bool.false_ne_true]
      decide +kernel
    have hc : mask_Count.f 0 = some 0 := by decide +kernel
    rw [hw, Option.bind_some, hc, Option.bind_some, if_pos rfl, if_neg Bool.false_ne_true]
    rfl
  · have h24 := of_decide_eq_true h
    have hw := with24 i.toNat (by omega)
    rw [show ((i.toNat : Nat) : Int) = i by omega] at hw
    have hc := count_fin24 ⟨i.toNat, by omega⟩
    have e : ((2 ^ i.toNat : Nat) : Int) = un (H.one i.toNat) := by unfold un; rw [H.toNat_one (by omega)]
    have hc' : mask_Count.f (un (H.one i.toNat)) = some 1 := by rw [← e]; exact hc
    rw [hw, Option.bind_some, hc', Option.bind_some, if_neg (by decide), Option.bind_some, if_pos rfl]
    rfl
theorem smallV24 : SmallV where
  toSmallN := smallN24
  without x i w := (mask_Without.calls (un x) i _ w (without24 x i)).mono fun e w' h => ⟨h.1, h.2.below⟩
  has x i w := (mask_Has.calls (un x) i _ w (has24 x i)).mono fun e w' h => ⟨h.1, h.2.below⟩
  dim i w := by
    refine (formula_Dim.calls i _ _ w (fdim24 i)).mono ?_
    rintro e w' ⟨v, rfl, hr, hb⟩
    exact ⟨v, rfl, ownOf24 hr (by unfold fDim; split <;> simp), hb⟩
def formula_Put.f (l0 : List S60) (a1 : Int) (l2 : List S60) : Option (List S60 × Int) := if okL24 l0 ∧ okL24 l2 then some ((fPut (l0.map toC24) a1 (l2.map toC24)).1.map ofC24, (fPut (l0.map toC24) a1 (l2.map toC24)).2) else none
theorem formula_Put.calls (A0 : Option Addr) (c0 : Nat) (l0 : List (S60)) (a1 : Int) (A2 : Option Addr) (c2 : Nat) (l2 : List (S60)) (r1 : List (S60)) (r2 : Int) (w : World) (HT : Aside0 (Tab w)) (hr0 : Kd.C k60 w A0 l0.length l0) (hc0 : l0.length ≤ c0) (hr2 : Kd.C k60 w A2 l2.length l2) (hc2 : l2.length ≤ c2) (h : formula_Put.f l0 a1 l2 = some (r1, r2)) :
    Calls Tryd.prog 48 #[.slice A0 l0.length c0, .int .i64 a1, .slice A2 l2.length c2] w fun e w' => ∃ v0_ : Value, e = .returned (.tuple #[v0_, .int .i64 r2]) ∧ Kd.R k60 60 w' w.heap.size (fun _ => True) v0_ r1 ∧ Below w.heap.size w w' := by
  unfold formula_Put.f at h
  by_cases hr : okL24 l0 ∧ okL24 l2
  · rw [if_pos hr] at h
    simp only [Option.some.injEq, Prod.mk.injEq] at h
    obtain ⟨rfl, rfl⟩ := h
    obtain ⟨hk0, hk1⟩ := hr
    have hc := form_Put smallV24 A0 A2 c0 c2 (l0.map toC24) (l2.map toC24) a1 w (rd24 hr0 hk0.1 hk0.2) (rd24 hr2 hk1.1 hk1.2) (by rw [List.length_map]; exact hc0) (by rw [List.length_map]; exact hc2) (by rw [List.length_map]; exact hk0.2) (by rw [List.length_map]; exact hk1.2) HT.out
    simp only [List.length_map] at hc
    refine hc.mono ?_
    rintro e w' ⟨v, rfl, ho, hb⟩
    exact ⟨v, rfl, own24 ho, hb⟩
  · rw [if_neg hr] at h
    exact absurd h (by simp)

/-! ### formula_One: function 56 -/
def formula_One.f  : Option ((List (S60))) := some (([(⟨0, 0⟩ : S60)] : List (S60)))
set_option maxHeartbeats 8000000 in
set_option maxRecDepth 100000 in
theorem formula_One.calls  (r : List (S60)) (w : World) (h : formula_One.f  = some r) :
  Calls Tryd.prog 56 #[] w fun e w' => ∃ v0_ : Value, e = .returned (v0_) ∧ Kd.R k60 60 w' w.heap.size (fun _ => True) v0_ r ∧ Below w.heap.size w w' := by
 have hu60 := Tryd.underlying60
 have HB := Aside0.mk (Below.refl w.heap.size w)
 have H : (some (([(⟨0, 0⟩ : S60)] : List (S60)))) = some r := h
 clear h
 obtain ⟨y152, hy152⟩ : ∃ y_ : List (S60), y_ = (([(⟨0, 0⟩ : S60)] : List (S60))) := ⟨_, rfl⟩
 replace H : (some y152) = some r := by first | (rw [hy152]; with_reducible exact H) | (have H2_ := (Option.bind_some _ _).symm.trans H; rw [hy152]; with_reducible exact H2_) | (have H2_ := (Option.bind_some _ _).symm.trans H; with_reducible exact H2_) | with_reducible exact H | (rw [hy152]; exact H) | exact H
 have Ny152 := Aside0.mk hy152
 clear hy152
 obtain rfl := Option.some.inj H
 go_enter Tryd.func56, Tryd.ntmps56
 go_wp2_with (first | ((with_reducible refine gate_dst (N := 2) rfl ?_); refine Kd.R_lit k60 _ 60 ?hg (N := 2) ?hd (xs := ([(⟨0, 0⟩ : S60)] : List (S60))) (inner := [.int .u32 0, .int .u32 0]) (ok := fun _ => True) (okp := fun _ => True) ?hr ?hp (fun _ hk => hk) trivial (Below.refl _ _) (Nat.le_refl _) (by simp) ?_; (case hd => rfl); (case hg => rfl); (case hr => first | (go_simp; done) | (go_simp; rfl)); (case hp => exact (Reps.c2 (show Kd.M k60 _ _ _ (⟨0, 0⟩ : S60) [.int .u32 0, .int .u32 0] from (k60_mkM _ _ _ (⟨0, 0⟩ : S60) )) (Reps.none _ _))); intro v153 w1 ho2 hb hg_ hnew_; clear hg_ hnew_; (first | rw [← Ny152.out] at ho2 | (simp only [Int.reduceToNat] at ho2; rw [← Ny152.out] at ho2)); have n0_ := Aside0.mk (Kd.R_lower ho2 (below_size (by repeat (first | (with_reducible first | exact HB.out | apply below_alloc | apply pw_below_drewN | apply below_drew1) | exact HB.out)))); have n1_ := Aside0.mk (below_step (by repeat (first | (with_reducible first | exact HB.out | apply below_alloc | apply pw_below_drewN | apply below_drew1) | exact HB.out)) hb); clear HB; have HO154 := n0_; have HB := n1_; clear n0_ n1_; clear hb ho2))
 go_ret
 exact ⟨_, by first | rfl | (simp [errW_none, errW_some] <;> rfl) | (simp [*, errW_none, errW_some] <;> rfl), by (with_reducible repeat (first | apply Kd.R_alloc | apply Kd.R_drewN | apply Kd.R_drew)); exact HO154.out, by repeat (first | (with_reducible first | exact HB.out | apply below_alloc | apply pw_below_drewN | apply below_drew1) | exact HB.out)⟩

/-! ### hypercube/formula.Zero: by hand -/
def formula_Zero.f : Option (List S60) := some []
theorem formula_Zero.calls (r1 : List (S60)) (w : World) (h : formula_Zero.f = some r1) :
    Calls Tryd.prog 61 #[] w fun e w' => ∃ v0_ : Value, e = .returned (v0_) ∧ Kd.R k60 60 w' w.heap.size (fun _ => True) v0_ r1 ∧ Below w.heap.size w w' := by
  obtain rfl := Option.some.inj h
  refine (form_Zero w).mono ?_
  rintro e w' ⟨rfl, hb⟩
  exact ⟨_, rfl, own24 (Own.nil _ _), hb⟩

end Go.Proofs.YtfbcgjkagdbckaaDoor.XFv
