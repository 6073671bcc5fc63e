-- Written for this claim by a program of ours (wip/xp.py), out of the translation and of hand-written contracts.
import Derived.Test.YtahdjajdaggmjaaGreatDoorSx
import Derived.Test.YtahdjajdaggmjaaGreatDoorYrec
import Derived.Test.YtahdjajdaggmjaaGreatDoorYdec
import Derived.Test.YtahdjajdaggmjaaGreatDoorZrall
import Derived.Test.YtahdjajdaggmjaaGreatDoorZwr
import Derived.Test.YtahdjajdaggmjaaGreatDoorXPax13
import Derived.Test.YtahdjajdaggmjaaGreatDoorXPax17
namespace Go.Proofs.YtahdjajdaggmjaaGreatDoor.XPa
noncomputable section
open Go.RowKit Go.Proofs.YtahdjajdaggmjaaGreatDoorW.PrintWords Go.Proofs.YtahdjajdaggmjaaGreatDoorW.PrintLast Go.Proofs.YtahdjajdaggmjaaGreatDoorW.PrintMore
attribute [local go_sem] max2_int min2_int max_two min_two max_three min_three max_four min_four
set_option linter.unusedVariables false
set_option linter.unusedSimpArgs false
mutual
def r36term.j0 : Nat → List Int → Int → Int → ByteArray → List (S113) → List (S49) → List (S90) → Option (List Int)
  | 0, _, _, _, _, _, _, _ => none
  | k + 1, x3, x314000, x314001, x314002, x314003, x314004, x314005 => if x314000 = 2 then ((r36text.f x314002).bind fun t323 => (if x3.length + t323.length < 140737488355328 then (r36term.j1 k (x3 ++ t323) x314000 x314001 x314002 x314003 x314004 x314005) else (none))) else (r36term.j1 k x3 x314000 x314001 x314002 x314003 x314004 x314005)
def r36term.j1 : Nat → List Int → Int → Int → ByteArray → List (S113) → List (S49) → List (S90) → Option (List Int)
  | 0, _, _, _, _, _, _, _ => none
  | k + 1, x3, x314000, x314001, x314002, x314003, x314004, x314005 => (r36rowed.f x314000).bind fun t329 => (if t329 = true then ((r36row.f k x314003).bind fun t330 => (if x3.length + t330.length < 140737488355328 then (r36term.j2 k (x3 ++ t330) x314000 x314001 x314002 x314003 x314004 x314005) else (none))) else (r36term.j2 k x3 x314000 x314001 x314002 x314003 x314004 x314005))
def r36term.j2 : Nat → List Int → Int → Int → ByteArray → List (S113) → List (S49) → List (S90) → Option (List Int)
  | 0, _, _, _, _, _, _, _ => none
  | k + 1, x3, x314000, x314001, x314002, x314003, x314004, x314005 => r36term.l0 k x3 0 x314000 x314001 x314002 x314003 x314004 x314005
def r36term.l0 : Nat → List Int → Int → Int → Int → ByteArray → List (S113) → List (S49) → List (S90) → Option (List Int)
  | 0, _, _, _, _, _, _, _, _ => none
  | k + 1, x3, x4, x314000, x314001, x314002, x314003, x314004, x314005 => if x4 < (x314004.length : Int) then (if 0 ≤ x4 then ((r36term.f k ((rd_T49 x314004 x4).f0) ((rd_T49 x314004 x4).f1) ((rd_T49 x314004 x4).f2) ((rd_T49 x314004 x4).f3) ((rd_T49 x314004 x4).f4) ((rd_T49 x314004 x4).f5)).bind fun t337 => (if x3.length + t337.length < 140737488355328 then (r36term.l0 k (x3 ++ t337) (wrap64 (x4 + 1)) x314000 x314001 x314002 x314003 x314004 x314005) else (none))) else (none)) else ((r10Parts.f x314000).bind fun t343 => (if t343 = 0 then (some x3) else ((r36number.f k (x314005.length : Int)).bind fun t344 => (if x3.length + t344.length < 140737488355328 then (r36term.l1 k (x3 ++ t344) 0 x314000 x314001 x314002 x314003 x314004 x314005) else (none)))))
def r36term.l1 : Nat → List Int → Int → Int → Int → ByteArray → List (S113) → List (S49) → List (S90) → Option (List Int)
  | 0, _, _, _, _, _, _, _, _ => none
  | k + 1, x3, x5, x314000, x314001, x314002, x314003, x314004, x314005 => if x5 < (x314005.length : Int) then (if 0 ≤ x5 then ((r36row.f k ((rd_T90 x314005 x5).f0)).bind fun t351 => (if x3.length + t351.length < 140737488355328 then (r36term.l2 k (x3 ++ t351) x5 0 x314000 x314001 x314002 x314003 x314004 x314005) else (none))) else (none)) else (some x3)
def r36term.l2 : Nat → List Int → Int → Int → Int → Int → ByteArray → List (S113) → List (S49) → List (S90) → Option (List Int)
  | 0, _, _, _, _, _, _, _, _, _ => none
  | k + 1, x3, x5, x6, x314000, x314001, x314002, x314003, x314004, x314005 => if 0 ≤ x5 then (if x5 < (x314005.length : Int) then (if x6 < (((rd_T90 x314005 x5).f1).length : Int) then (if 0 ≤ x6 then ((r36term.f k ((rd_T49 ((rd_T90 x314005 x5).f1) x6).f0) ((rd_T49 ((rd_T90 x314005 x5).f1) x6).f1) ((rd_T49 ((rd_T90 x314005 x5).f1) x6).f2) ((rd_T49 ((rd_T90 x314005 x5).f1) x6).f3) ((rd_T49 ((rd_T90 x314005 x5).f1) x6).f4) ((rd_T49 ((rd_T90 x314005 x5).f1) x6).f5)).bind fun t360 => (if x3.length + t360.length < 140737488355328 then (r36term.l2 k (x3 ++ t360) x5 (wrap64 (x6 + 1)) x314000 x314001 x314002 x314003 x314004 x314005) else (none))) else (none)) else (r36term.l1 k x3 (wrap64 (x5 + 1)) x314000 x314001 x314002 x314003 x314004 x314005)) else (none)) else (none)
def r36term.f : Nat → Int → Int → ByteArray → List (S113) → List (S49) → List (S90) → Option (List Int)
  | 0, _, _, _, _, _, _ => none
  | k + 1, a0_0, a0_1, a0_2, l0_3, l0_4, l0_5 => (some (([(a0_0) % 256] : List Int) : List Int)).bind fun y314 => (if a0_0 = 1 then ((r36number.f k a0_1).bind fun t317 => (if y314.length + t317.length < 140737488355328 then (r36term.j0 k (y314 ++ t317) a0_0 a0_1 a0_2 l0_3 l0_4 l0_5) else (none))) else (r36term.j0 k y314 a0_0 a0_1 a0_2 l0_3 l0_4 l0_5))
end
set_option maxHeartbeats 8000000 in
set_option maxRecDepth 100000 in
theorem r36term.calls (k : Nat) : ∀ (a0_0 : Int) (a0_1 : Int) (a0_2 : ByteArray) (A0_3 : Option Addr) (c0_3 : Nat) (l0_3 : List (S113)) (A0_4 : Option Addr) (c0_4 : Nat) (l0_4 : List (S49)) (A0_5 : Option Addr) (c0_5 : Nat) (l0_5 : List (S90)) (r : List Int) (w : World) (hr0_3 : Kd.C k113 w A0_3 l0_3.length l0_3) (hc0_3 : l0_3.length ≤ c0_3) (hr0_4 : Kd.C k49 w A0_4 l0_4.length l0_4) (hc0_4 : l0_4.length ≤ c0_4) (hr0_5 : Kd.C k90 w A0_5 l0_5.length l0_5) (hc0_5 : l0_5.length ≤ c0_5) (h : r36term.f k a0_0 a0_1 a0_2 l0_3 l0_4 l0_5 = some r),
  Calls Tryz.prog 27 #[.agg #[.int .i64 a0_0, .int .i64 a0_1, .string a0_2, .slice A0_3 l0_3.length c0_3, .slice A0_4 l0_4.length c0_4, .slice A0_5 l0_5.length c0_5]] w fun e w' => ∃ v0_ : Value, e = .returned (v0_) ∧ Kd.R (Kd.int .u8) 5 w' w.heap.size (fun _ => True) v0_ r ∧ Below w.heap.size w w' := by
 induction k using Nat.strongRecOn with
 | _ k ih =>
 intro a0_0 a0_1 a0_2 A0_3 c0_3 l0_3 A0_4 c0_4 l0_4 A0_5 c0_5 l0_5 r w hr0_3 hc0_3 hr0_4 hc0_4 hr0_5 hc0_5 h
 cases k with
 | zero => exact absurd h (by simp [r36term.f])
 | succ k =>
 simp only [r36term.f] at h
 have hu49 := Tryz.underlying49
 have HR0_3 := Aside0.mk hr0_3
 have HC0_3 := Aside0.mk hc0_3
 clear hr0_3 hc0_3
 have HR0_4 := Aside0.mk hr0_4
 have HC0_4 := Aside0.mk hc0_4
 clear hr0_4 hc0_4
 have HR0_5 := Aside0.mk hr0_5
 have HC0_5 := Aside0.mk hc0_5
 clear hr0_5 hc0_5
 have HB := Aside0.mk (Below.refl w.heap.size w)
 have H : ((some (([(a0_0) % 256] : List Int) : List Int)).bind fun y314 => (if a0_0 = 1 then ((r36number.f k a0_1).bind fun t317 => (if y314.length + t317.length < 140737488355328 then (r36term.j0 k (y314 ++ t317) a0_0 a0_1 a0_2 l0_3 l0_4 l0_5) else (none))) else (r36term.j0 k y314 a0_0 a0_1 a0_2 l0_3 l0_4 l0_5))) = some r := h
 clear h
 obtain ⟨y314, hy314⟩ : ∃ y_ : List Int, y_ = (([(a0_0) % 256] : List Int)) := ⟨_, rfl⟩
 replace H : (if a0_0 = 1 then ((r36number.f k a0_1).bind fun t317 => (if y314.length + t317.length < 140737488355328 then (r36term.j0 k (y314 ++ t317) a0_0 a0_1 a0_2 l0_3 l0_4 l0_5) else (none))) else (r36term.j0 k y314 a0_0 a0_1 a0_2 l0_3 l0_4 l0_5)) = some r := tY hy314 H
 have Ny314 := Aside0.mk hy314
 clear hy314
 have HC2 := Aside0.mk H
 clear H
 go_enter Tryz.func27, Tryz.ntmps27
 go_upto_if 13 with (first | ((with_reducible refine gd_ 1 rfl ?_); refine boxE 1 #[.int .i64 a0_0, .int .i64 a0_1, .string a0_2, .slice A0_3 l0_3.length c0_3, .slice A0_4 l0_4.length c0_4, .slice A0_5 l0_5.length c0_5] 49 ?_; intro gb313 hg w3 hbox hb; have BK313 := Aside0.mk (hbox); have GW313 := Aside0.mk (tG : w.heap.size ≤ gb313); have GE313 := Aside0.mk (tG : w.heap.size ≤ gb313); replace HB := Aside0.mk (below_step tB hb); clear hb hbox hg; have hcz4 := cz6 BK313.out) | ((with_reducible refine gate_dst (N := 10) rfl ?_); refine Kd.R_lit (Kd.int .u8) _ 5 ?hg (N := 10) ?hd (xs := ([(a0_0) % 256] : List Int)) (inner := [.int .u8 ((a0_0) % 256)]) (ok := fun _ => True) (okp := fun _ => True) ?hr ?hp (fun _ hk => hk) trivial (Below.refl _ _) (Nat.le_refl _) (by simp) ?_; (case hd => rfl); (case hg => rfl); (case hr => first | (go_simp; done) | (go_simp; rfl)); (case hp => exact (Reps.one (show Kd.M (Kd.int .u8) _ _ _ ((a0_0) % 256) [.int .u8 ((a0_0) % 256)] from rfl) (Reps.none _ _))); intro v315 w5 ho6 hb hg_ hnew_; clear hg_ hnew_; (first | rw [← Ny314.out] at ho6 | (simp only [Int.reduceToNat] at ho6; rw [← Ny314.out] at ho6)); have HO316 := Aside0.mk (Kd.R_lower ho6 (below_size (tBs GE313))); replace BK313 := Aside0.mk (blk_below (g := gb313) (o := .cells #[.int .i64 a0_0, .int .i64 a0_1, .string a0_2, .slice A0_3 l0_3.length c0_3, .slice A0_4 l0_4.length c0_4, .slice A0_5 l0_5.length c0_5] 49 (0, 0)) (tK BK313) hb); replace HB := Aside0.mk (below_step (tBs GE313) hb); clear hb ho6; have hcz7 := cz6 BK313.out))
 (try simp only [Act.put, List.setIfInBounds_toArray, List.set_cons_zero, List.set_cons_succ])
 go_cut [3] (fun v3 wc => ∃ (kq : Nat) (x3_1 : List Int), Aside0 (r36term.j0 kq x3_1 a0_0 a0_1 a0_2 l0_3 l0_4 l0_5 = some r) ∧ Aside0 (kq ≤ k) ∧ Aside0 (Kd.R (Kd.int .u8) 5 wc w.heap.size (fun _ => True) v3 x3_1) ∧ Aside0 (wc.heap[gb313]? = some (.cells #[.int .i64 a0_0, .int .i64 a0_1, .string a0_2, (.slice A0_3 l0_3.length c0_3), (.slice A0_4 l0_4.length c0_4), (.slice A0_5 l0_5.length c0_5)] 49 (0, 0))) ∧ Aside0 (Below w.heap.size w wc))
 case first =>
  have H := HC2.out
  clear HC2
  replace H := iE H
  rcases H with ⟨c8b0, c8b1, H⟩ | ⟨c8, c8b0, c8b1, H⟩
  ·(first | rw [c8b0] | (simp only [i64_w, i32_w]; rw [c8b0]) | skip)
   replace H := iX H
   obtain ⟨t317, A9, H⟩ := H
   replace H := niC H
   obtain ⟨c10, H⟩ := H
   have LMc10 := Aside0.mk c10
   clear c10
   obtain ⟨y320, hy320⟩ : ∃ y_ : List Int, y_ = (y314 ++ t317) := ⟨_, rfl⟩
   replace H : (r36term.j0 k y320 a0_0 a0_1 a0_2 l0_3 l0_4 l0_5) = some r := tY hy320 H
   have Ny320 := Aside0.mk hy320
   clear hy320
   have H' := Aside0.mk H
   clear H
   have hcz11 := cz6 BK313.out
   go_wp2_with (first | ((with_reducible refine gf_ 24 rfl ?_); refine gC_ (some 17) Tryz.func24 #[.int .i64 a0_1] ?_; (with_reducible refine (r36number.calls k a0_1 t317 _ A9.out).mono ?_); rintro e w12 ⟨v318, rfl, ho0, hb⟩; refine ⟨_, rfl, ?_⟩; have HO319 := Aside0.mk (Kd.R_lower (Kd.R_new' ho0 (Kd.R_lt (tR HO316))) (below_size (tBs GE313))); replace HO316 := Aside0.mk (Kd.R_elder' (tR HO316) (Kd.R_base ho0) hb); replace BK313 := Aside0.mk (blk_below (g := gb313) (o := .cells #[.int .i64 a0_0, .int .i64 a0_1, .string a0_2, .slice A0_3 l0_3.length c0_3, .slice A0_4 l0_4.length c0_4, .slice A0_5 l0_5.length c0_5] 49 (0, 0)) (tK BK313) hb); replace HB := Aside0.mk (below_step (tBs GE313) hb); (try clear hb); (try clear ho0); obtain ⟨Aoh319, coh319, eoh319⟩ := Kd.R_slice HO319.out; subst eoh319) | ((with_reducible refine gate_builtin (b := .append) (xs := #[.tmp 14, .tmp 17]) rfl ?_); at_builtin; refine Kd.R_append_rows (Kd.int .u8) (w0 := w) w.heap.size rfl (.tmp 14) (.tmp 17) 23 5 (.int .u8 0) 1 rfl Tryz.underlying23 info5 rfl (by decide) (by omega) v315 y314 t317 _ _ _ (fun k_ => some k_ ≠ (.slice Aoh319 t317.length coh319 : Value).ownBlock) (fun _ => False) rfl rfl ?aO ?aR (fun _ _ h => h) (fun _ h => h.elim) ?aF ?aB ?aS ?aL ?_; (case aR => exact tCr HO319); (case aB => exact (tBs GE313)); (case aF => exact (fun k_ hk => Kd.fresh' (Kd.R_lt (tR HO319)) k_ hk)); (case aO => exact (tRm HO316)); (case aS => exact (below_size (tBs GE313))); (case aL => have := LMc10.out; omega); intro v321 w13 ho hb hg hat; rw [← Ny320.out] at ho; replace BK313 := Aside0.mk (blk_grown (g := gb313) (o := .cells #[.int .i64 a0_0, .int .i64 a0_1, .string a0_2, .slice A0_3 l0_3.length c0_3, .slice A0_4 l0_4.length c0_4, .slice A0_5 l0_5.length c0_5] 49 (0, 0)) (tK BK313) hg (Kd.R_ne HO316.out BK313.out (by decide))); replace HO319 := Aside0.mk (Kd.R_after (ok := (fun _ => True)) (tR HO319) hg hat); replace HB := Aside0.mk (hb); have HO322 := Aside0.mk (ho); clear HO316 ho hb hg hat))
   go_meet
   case rel => exact ⟨_, (y320), H', ⟨by first | omega | exact Nat.le_refl _⟩, ⟨by (with_reducible repeat (first | apply Kd.R_alloc | apply Kd.R_drewN | apply Kd.R_drew)); exact Kd.R_mono HO322.out (fun _ hk => trivial)⟩, ⟨tK BK313⟩, ⟨tBs GE313⟩⟩
  (first | rw [c8b0] | (simp only [i64_w, i32_w]; rw [c8b0]) | skip)
  have H' := Aside0.mk H
  clear H
  go_wp2
  go_meet
  case rel => exact ⟨_, (y314), H', ⟨by first | omega | exact Nat.le_refl _⟩, ⟨tR HO316⟩, ⟨tK BK313⟩, ⟨tBs GE313⟩⟩
 case rest =>
  clear HC2
  try clear hcz4
  try clear hcz7
  obtain ⟨kq, x3_1, HA, HJ1, HO_3, BK313, HB⟩ := hcut
  cases kq with
  | zero => exact absurd HA.out (by simp [r36term.j0])
  | succ kj1 =>
   have H := HA.out
   clear HA
   simp only [r36term.j0] at H
   have HC15 := Aside0.mk H
   clear H
   have hcz16 := cz6 BK313.out
   go_upto_if 21 with (fail)
   go_cut [3] (fun v3 wc => ∃ (kq : Nat) (x3_14 : List Int), Aside0 (r36term.j1 kq x3_14 a0_0 a0_1 a0_2 l0_3 l0_4 l0_5 = some r) ∧ Aside0 (kq ≤ kj1) ∧ Aside0 (Kd.R (Kd.int .u8) 5 wc w.heap.size (fun _ => True) v3 x3_14) ∧ Aside0 (wc.heap[gb313]? = some (.cells #[.int .i64 a0_0, .int .i64 a0_1, .string a0_2, (.slice A0_3 l0_3.length c0_3), (.slice A0_4 l0_4.length c0_4), (.slice A0_5 l0_5.length c0_5)] 49 (0, 0))) ∧ Aside0 (Below w.heap.size w wc))
   case first =>
    have H := HC15.out
    clear HC15
    replace H := iE H
    rcases H with ⟨c17b0, c17b1, H⟩ | ⟨c17, c17b0, c17b1, H⟩
    ·(first | rw [c17b0] | (simp only [i64_w, i32_w]; rw [c17b0]) | skip)
     replace H := iX H
     obtain ⟨t323, A18, H⟩ := H
     replace H := niC H
     obtain ⟨c19, H⟩ := H
     have LMc19 := Aside0.mk c19
     clear c19
     obtain ⟨y326, hy326⟩ : ∃ y_ : List Int, y_ = (x3_1 ++ t323) := ⟨_, rfl⟩
     replace H : (r36term.j1 kj1 y326 a0_0 a0_1 a0_2 l0_3 l0_4 l0_5) = some r := tY hy326 H
     have Ny326 := Aside0.mk hy326
     clear hy326
     have H' := Aside0.mk H
     clear H
     have hcz20 := cz6 BK313.out
     go_wp2_with (first | ((with_reducible refine gf_ 26 rfl ?_); refine gC_ (some 25) Tryz.func26 #[.string a0_2] ?_; (with_reducible refine (r36text.calls a0_2 t323 _ A18.out).mono ?_); rintro e w21 ⟨v324, rfl, ho0, hb⟩; refine ⟨_, rfl, ?_⟩; have HO325 := Aside0.mk (Kd.R_lower (Kd.R_new' ho0 (Kd.R_lt (tR HO_3))) (below_size (tBs GE313))); replace HO_3 := Aside0.mk (Kd.R_elder' (tR HO_3) (Kd.R_base ho0) hb); replace BK313 := Aside0.mk (blk_below (g := gb313) (o := .cells #[.int .i64 a0_0, .int .i64 a0_1, .string a0_2, .slice A0_3 l0_3.length c0_3, .slice A0_4 l0_4.length c0_4, .slice A0_5 l0_5.length c0_5] 49 (0, 0)) (tK BK313) hb); replace HB := Aside0.mk (below_step (tBs GE313) hb); (try clear hb); (try clear ho0); obtain ⟨Aoh325, coh325, eoh325⟩ := Kd.R_slice HO325.out; subst eoh325) | ((with_reducible refine gate_builtin (b := .append) (xs := #[.tmp 22, .tmp 25]) rfl ?_); at_builtin; refine Kd.R_append_rows (Kd.int .u8) (w0 := w) w.heap.size rfl (.tmp 22) (.tmp 25) 23 5 (.int .u8 0) 1 rfl Tryz.underlying23 info5 rfl (by decide) (by omega) u3 x3_1 t323 _ _ _ (fun k_ => some k_ ≠ (.slice Aoh325 t323.length coh325 : Value).ownBlock) (fun _ => False) rfl rfl ?aO ?aR (fun _ _ h => h) (fun _ h => h.elim) ?aF ?aB ?aS ?aL ?_; (case aR => exact tCr HO325); (case aB => exact (tBs GE313)); (case aF => exact (fun k_ hk => Kd.fresh' (Kd.R_lt (tR HO325)) k_ hk)); (case aO => exact (tRm HO_3)); (case aS => exact (below_size (tBs GE313))); (case aL => have := LMc19.out; omega); intro v327 w22 ho hb hg hat; rw [← Ny326.out] at ho; replace BK313 := Aside0.mk (blk_grown (g := gb313) (o := .cells #[.int .i64 a0_0, .int .i64 a0_1, .string a0_2, .slice A0_3 l0_3.length c0_3, .slice A0_4 l0_4.length c0_4, .slice A0_5 l0_5.length c0_5] 49 (0, 0)) (tK BK313) hg (Kd.R_ne HO_3.out BK313.out (by decide))); replace HO325 := Aside0.mk (Kd.R_after (ok := (fun _ => True)) (tR HO325) hg hat); replace HB := Aside0.mk (hb); have HO328 := Aside0.mk (ho); clear HO_3 ho hb hg hat))
     go_meet
     case rel => exact ⟨_, (y326), H', ⟨by have := HJ1.out; first | omega | exact Nat.le_refl _⟩, ⟨by (with_reducible repeat (first | apply Kd.R_alloc | apply Kd.R_drewN | apply Kd.R_drew)); exact Kd.R_mono HO328.out (fun _ hk => trivial)⟩, ⟨tK BK313⟩, ⟨tBs GE313⟩⟩
    (first | rw [c17b0] | (simp only [i64_w, i32_w]; rw [c17b0]) | skip)
    have H' := Aside0.mk H
    clear H
    go_wp2
    go_meet
    case rel => exact ⟨_, (x3_1), H', ⟨by have := HJ1.out; first | omega | exact Nat.le_refl _⟩, ⟨tR HO_3⟩, ⟨tK BK313⟩, ⟨tBs GE313⟩⟩
   case rest =>
    clear HC15
    try clear hcz16
    try clear hcz4
    try clear hcz7
    obtain ⟨kq, x3_14, HA, HJ14, HO_3, BK313, HB⟩ := hcut
    cases kq with
    | zero => exact absurd HA.out (by simp [r36term.j1])
    | succ kj14 =>
     have H := HA.out
     clear HA
     simp only [r36term.j1] at H
     replace H := iX H
     obtain ⟨t329, A24, H⟩ := H
     have HC25 := Aside0.mk H
     clear H
     have hcz26 := cz6 BK313.out
     go_upto_if 29 with (first | ((with_reducible refine gf_ 45 rfl ?_); refine gC_ (some 29) Tryz.func45 #[.int .i64 a0_0] ?_; (with_reducible refine (r36rowed.calls a0_0 t329 _ A24.out).mono ?_); rintro e w' ⟨rfl, ⟨nd, rfl⟩⟩; refine ⟨_, rfl, ?_⟩))
     (try simp only [Act.put, List.setIfInBounds_toArray, List.set_cons_zero, List.set_cons_succ])
     go_cut [3] (fun v3 wc => ∃ (kq : Nat) (x3_24 : List Int), Aside0 (r36term.j2 kq x3_24 a0_0 a0_1 a0_2 l0_3 l0_4 l0_5 = some r) ∧ Aside0 (kq ≤ kj14) ∧ Aside0 (Kd.R (Kd.int .u8) 5 wc w.heap.size (fun _ => True) v3 x3_24) ∧ Aside0 (wc.heap[gb313]? = some (.cells #[.int .i64 a0_0, .int .i64 a0_1, .string a0_2, (.slice A0_3 l0_3.length c0_3), (.slice A0_4 l0_4.length c0_4), (.slice A0_5 l0_5.length c0_5)] 49 (0, 0))) ∧ Aside0 (Below w.heap.size w wc))
     case first =>
      have H := HC25.out
      clear HC25
      replace H := iB H
      rcases H with ⟨rfl, H⟩ | ⟨rfl, H⟩
      ·replace H := iX H
       obtain ⟨t330, A28, H⟩ := H
       replace H := niC H
       obtain ⟨c29, H⟩ := H
       have LMc29 := Aside0.mk c29
       clear c29
       obtain ⟨y333, hy333⟩ : ∃ y_ : List Int, y_ = (x3_14 ++ t330) := ⟨_, rfl⟩
       replace H : (r36term.j2 kj14 y333 a0_0 a0_1 a0_2 l0_3 l0_4 l0_5) = some r := tY hy333 H
       have Ny333 := Aside0.mk hy333
       clear hy333
       have H' := Aside0.mk H
       clear H
       have hcz30 := cz6 BK313.out
       go_wp2_with (first | ((with_reducible refine gf_ 46 rfl ?_); refine gC_ (some 33) Tryz.func46 #[.slice A0_3 l0_3.length c0_3] ?_; (with_reducible refine (r36row.calls kj14 _ _ l0_3 t330 _ ?side1 ?side2 A28.out).mono ?_); (case side1 => exact tCb HR0_3 HB); (case side2 => exact HC0_3.out); rintro e w31 ⟨v331, rfl, ho0, hb⟩; refine ⟨_, rfl, ?_⟩; have HO332 := Aside0.mk (Kd.R_lower (Kd.R_new' ho0 (Kd.R_lt (tR HO_3))) (below_size (tBs GE313))); replace HO_3 := Aside0.mk (Kd.R_elder' (tR HO_3) (Kd.R_base ho0) hb); replace BK313 := Aside0.mk (blk_below (g := gb313) (o := .cells #[.int .i64 a0_0, .int .i64 a0_1, .string a0_2, .slice A0_3 l0_3.length c0_3, .slice A0_4 l0_4.length c0_4, .slice A0_5 l0_5.length c0_5] 49 (0, 0)) (tK BK313) hb); replace HB := Aside0.mk (below_step (tBs GE313) hb); (try clear hb); (try clear ho0); obtain ⟨Aoh332, coh332, eoh332⟩ := Kd.R_slice HO332.out; subst eoh332) | ((with_reducible refine gate_builtin (b := .append) (xs := #[.tmp 30, .tmp 33]) rfl ?_); at_builtin; refine Kd.R_append_rows (Kd.int .u8) (w0 := w) w.heap.size rfl (.tmp 30) (.tmp 33) 23 5 (.int .u8 0) 1 rfl Tryz.underlying23 info5 rfl (by decide) (by omega) u3 x3_14 t330 _ _ _ (fun k_ => some k_ ≠ (.slice Aoh332 t330.length coh332 : Value).ownBlock) (fun _ => False) rfl rfl ?aO ?aR (fun _ _ h => h) (fun _ h => h.elim) ?aF ?aB ?aS ?aL ?_; (case aR => exact tCr HO332); (case aB => exact (tBs GE313)); (case aF => exact (fun k_ hk => Kd.fresh' (Kd.R_lt (tR HO332)) k_ hk)); (case aO => exact (tRm HO_3)); (case aS => exact (below_size (tBs GE313))); (case aL => have := LMc29.out; omega); intro v334 w32 ho hb hg hat; rw [← Ny333.out] at ho; replace BK313 := Aside0.mk (blk_grown (g := gb313) (o := .cells #[.int .i64 a0_0, .int .i64 a0_1, .string a0_2, .slice A0_3 l0_3.length c0_3, .slice A0_4 l0_4.length c0_4, .slice A0_5 l0_5.length c0_5] 49 (0, 0)) (tK BK313) hg (Kd.R_ne HO_3.out BK313.out (by decide))); replace HO332 := Aside0.mk (Kd.R_after (ok := (fun _ => True)) (tR HO332) hg hat); replace HB := Aside0.mk (hb); have HO335 := Aside0.mk (ho); clear HO_3 ho hb hg hat))
       go_meet
       case rel => exact ⟨_, (y333), H', ⟨by have := HJ1.out; have := HJ14.out; first | omega | exact Nat.le_refl _⟩, ⟨by (with_reducible repeat (first | apply Kd.R_alloc | apply Kd.R_drewN | apply Kd.R_drew)); exact Kd.R_mono HO335.out (fun _ hk => trivial)⟩, ⟨tK BK313⟩, ⟨tBs GE313⟩⟩
      have H' := Aside0.mk H
      clear H
      go_wp2
      go_meet
      case rel => exact ⟨_, (x3_14), H', ⟨by have := HJ1.out; have := HJ14.out; first | omega | exact Nat.le_refl _⟩, ⟨tR HO_3⟩, ⟨tK BK313⟩, ⟨tBs GE313⟩⟩
     case rest =>
      clear HC25
      try clear hcz16
      try clear hcz26
      try clear hcz4
      try clear hcz7
      obtain ⟨kq, x3_24, HA, HJ24, HO_3, BK313, HB⟩ := hcut
      cases kq with
      | zero => exact absurd HA.out (by simp [r36term.j2])
      | succ kj24 =>
       have H := HA.out
       clear HA
       simp only [r36term.j2] at H
       have H' := Aside0.mk H
       clear H
       go_wp2
       go_loopg [3, 4] kj24 (fun kq v3 v4 w' => ∃ (x3_4 : List Int) (x4_4 : Int), v4 = .int .i64 x4_4 ∧ Aside0 (r36term.l0 kq x3_4 x4_4 a0_0 a0_1 a0_2 l0_3 l0_4 l0_5 = some r) ∧ Aside0 (kq ≤ kj24) ∧ Aside0 (Kd.R (Kd.int .u8) 5 w' w.heap.size (fun _ => True) v3 x3_4) ∧ Aside0 (w'.heap[gb313]? = some (.cells #[.int .i64 a0_0, .int .i64 a0_1, .string a0_2, (.slice A0_3 l0_3.length c0_3), (.slice A0_4 l0_4.length c0_4), (.slice A0_5 l0_5.length c0_5)] 49 (0, 0))) ∧ Aside0 (Below w.heap.size w w'))
       case atStart => exact ⟨(x3_24), (0), tS, H', ⟨Nat.le_refl _⟩, ⟨tR HO_3⟩, ⟨tK BK313⟩, ⟨tBs GE313⟩⟩
       case round =>
        clear H'
        try clear hcz16
        try clear hcz26
        try clear hcz4
        try clear hcz7
        obtain ⟨x3_4, x4_4, rfl, HA, HK4, HO_3, BK313, HB⟩ := hrel
        cases gk with
        | zero => exact absurd HA.out (by simp [r36term.l0])
        | succ k4 =>
         have H := HA.out
         clear HA
         simp only [r36term.l0] at H
         replace H := iD H
         rcases H with ⟨c34b0, H⟩ | ⟨c34b0, H⟩
         ·replace H := niD H
          obtain ⟨c35b0, H⟩ := H
          replace H := iX H
          obtain ⟨t337, A36, H⟩ := H
          replace H := niC H
          obtain ⟨c37, H⟩ := H
          have LMc37 := Aside0.mk c37
          clear c37
          obtain ⟨y340, hy340⟩ : ∃ y_ : List Int, y_ = (x3_4 ++ t337) := ⟨_, rfl⟩
          replace H : (r36term.l0 k4 y340 (wrap64 (x4_4 + 1)) a0_0 a0_1 a0_2 l0_3 l0_4 l0_5) = some r := tY hy340 H
          have Ny340 := Aside0.mk hy340
          clear hy340
          have H' := Aside0.mk H
          clear H
          have hcz38 := cz6 BK313.out
          obtain ⟨p336, q336, ad336, A336_3, c336_3, A336_4, c336_4, A336_5, c336_5, rfl, hx336_0, hx336_1, hx336_2, hx336_3, hx336_4, hx336_5, HC336_3, HR336_3, HC336_4, HR336_4, HC336_5, HR336_5⟩ := at_B49 HR0_4 HB x4_4
          go_wp2_with (first | ((with_reducible refine gf_ 27 rfl ?_); refine gC_ (some 48) Tryz.func27 #[.agg #[.int .i64 ((rd_T49 l0_4 x4_4).f0), .int .i64 ((rd_T49 l0_4 x4_4).f1), .string ((rd_T49 l0_4 x4_4).f2), .slice A336_3 ((rd_T49 l0_4 x4_4).f3).length c336_3, .slice A336_4 ((rd_T49 l0_4 x4_4).f4).length c336_4, .slice A336_5 ((rd_T49 l0_4 x4_4).f5).length c336_5]] ?_; (with_reducible refine (ih k4 (by have := HJ1.out; have := HJ14.out; have := HJ24.out; have := HK4.out; omega) ((rd_T49 l0_4 x4_4).f0) ((rd_T49 l0_4 x4_4).f1) ((rd_T49 l0_4 x4_4).f2) _ _ ((rd_T49 l0_4 x4_4).f3) _ _ ((rd_T49 l0_4 x4_4).f4) _ _ ((rd_T49 l0_4 x4_4).f5) t337 _ ?side1 ?side2 ?side3 ?side4 ?side5 ?side6 A36.out).mono ?_); (case side1 => exact tCb HR336_3 HB); (case side2 => exact HC336_3.out); (case side3 => exact tCb HR336_4 HB); (case side4 => exact HC336_4.out); (case side5 => exact tCb HR336_5 HB); (case side6 => exact HC336_5.out); rintro e w39 ⟨v338, rfl, ho0, hb⟩; refine ⟨_, rfl, ?_⟩; have HO339 := Aside0.mk (Kd.R_lower (Kd.R_new' ho0 (Kd.R_lt (tR HO_3))) (below_size (tBs GE313))); replace HO_3 := Aside0.mk (Kd.R_elder' (tR HO_3) (Kd.R_base ho0) hb); replace BK313 := Aside0.mk (blk_below (g := gb313) (o := .cells #[.int .i64 a0_0, .int .i64 a0_1, .string a0_2, .slice A0_3 l0_3.length c0_3, .slice (some ad336) l0_4.length c0_4, .slice A0_5 l0_5.length c0_5] 49 (0, 0)) (tK BK313) hb); replace HB := Aside0.mk (below_step (tBs GE313) hb); (try clear hb); (try clear ho0); obtain ⟨Aoh339, coh339, eoh339⟩ := Kd.R_slice HO339.out; subst eoh339) | ((with_reducible refine gate_builtin (b := .append) (xs := #[.tmp 42, .tmp 48]) rfl ?_); at_builtin; refine Kd.R_append_rows (Kd.int .u8) (w0 := w) w.heap.size rfl (.tmp 42) (.tmp 48) 23 5 (.int .u8 0) 1 rfl Tryz.underlying23 info5 rfl (by decide) (by omega) u3 x3_4 t337 _ _ _ (fun k_ => some k_ ≠ (.slice Aoh339 t337.length coh339 : Value).ownBlock) (fun _ => False) rfl rfl ?aO ?aR (fun _ _ h => h) (fun _ h => h.elim) ?aF ?aB ?aS ?aL ?_; (case aR => exact tCr HO339); (case aB => exact (tBs GE313)); (case aF => exact (fun k_ hk => Kd.fresh' (Kd.R_lt (tR HO339)) k_ hk)); (case aO => exact (tRm HO_3)); (case aS => exact (below_size (tBs GE313))); (case aL => have := LMc37.out; omega); intro v341 w40 ho hb hg hat; rw [← Ny340.out] at ho; replace BK313 := Aside0.mk (blk_grown (g := gb313) (o := .cells #[.int .i64 a0_0, .int .i64 a0_1, .string a0_2, .slice A0_3 l0_3.length c0_3, .slice (some ad336) l0_4.length c0_4, .slice A0_5 l0_5.length c0_5] 49 (0, 0)) (tK BK313) hg (Kd.R_ne HO_3.out BK313.out (by decide))); replace HO339 := Aside0.mk (Kd.R_after (ok := (fun _ => True)) (tR HO339) hg hat); replace HB := Aside0.mk (hb); have HO342 := Aside0.mk (ho); clear HO_3 ho hb hg hat))
          go_roundg k4
          case measure => have := HJ1.out; have := HJ14.out; have := HJ24.out; have := HK4.out; omega
          case rel => exact ⟨(y340), (wrap64 (x4_4 + 1)), tS, H', ⟨by have := HJ1.out; have := HJ14.out; have := HJ24.out; have := HK4.out; omega⟩, ⟨by (with_reducible repeat (first | apply Kd.R_alloc | apply Kd.R_drewN | apply Kd.R_drew)); exact Kd.R_mono HO342.out (fun _ hk => trivial)⟩, ⟨tK BK313⟩, ⟨tBs GE313⟩⟩
         replace H := iX H
         obtain ⟨t343, A42, H⟩ := H
         replace H := iE H
         rcases H with ⟨c43b0, c43b1, H⟩ | ⟨c43, c43b0, c43b1, H⟩
         ·obtain rfl := Option.some.inj H
          have hcz44 := cz6 BK313.out
          go_wp2_with (first | ((with_reducible refine gf_ 47 rfl ?_); refine gC_ (some 52) Tryz.func47 #[.int .i64 a0_0] ?_; (with_reducible refine (r10Parts.calls a0_0 t343 _ A42.out).mono ?_); rintro e w' ⟨rfl, ⟨nd, rfl⟩⟩; refine ⟨_, rfl, ?_⟩))
          go_ret
          exact ⟨_, tE, by (with_reducible repeat (first | apply Kd.R_alloc | apply Kd.R_drewN | apply Kd.R_drew)); exact HO_3.out, by repeat (first | (with_reducible first | exact HB.out | apply below_alloc | apply pw_below_drewN | apply below_drew1 | refine below_set ?_ GE313.out) | exact HB.out)⟩
         replace H := iX H
         obtain ⟨t344, A45, H⟩ := H
         replace H := niC H
         obtain ⟨c46, H⟩ := H
         have LMc46 := Aside0.mk c46
         clear c46
         obtain ⟨y347, hy347⟩ : ∃ y_ : List Int, y_ = (x3_4 ++ t344) := ⟨_, rfl⟩
         replace H : (r36term.l1 k4 y347 0 a0_0 a0_1 a0_2 l0_3 l0_4 l0_5) = some r := tY hy347 H
         have Ny347 := Aside0.mk hy347
         clear hy347
         have H' := Aside0.mk H
         clear H
         have hcz47 := cz6 BK313.out
         go_wp2_with (first | ((with_reducible refine gf_ 47 rfl ?_); refine gC_ (some 52) Tryz.func47 #[.int .i64 a0_0] ?_; (with_reducible refine (r10Parts.calls a0_0 t343 _ A42.out).mono ?_); rintro e w' ⟨rfl, ⟨nd, rfl⟩⟩; refine ⟨_, rfl, ?_⟩) | ((with_reducible refine gf_ 24 rfl ?_); refine gC_ (some 59) Tryz.func24 #[.int .i64 (l0_5.length : Int)] ?_; (with_reducible refine (r36number.calls k4 (l0_5.length : Int) t344 _ A45.out).mono ?_); rintro e w48 ⟨v345, rfl, ho0, hb⟩; refine ⟨_, rfl, ?_⟩; have HO346 := Aside0.mk (Kd.R_lower (Kd.R_new' ho0 (Kd.R_lt (tR HO_3))) (below_size (tBs GE313))); replace HO_3 := Aside0.mk (Kd.R_elder' (tR HO_3) (Kd.R_base ho0) hb); replace BK313 := Aside0.mk (blk_below (g := gb313) (o := .cells #[.int .i64 a0_0, .int .i64 a0_1, .string a0_2, .slice A0_3 l0_3.length c0_3, .slice A0_4 l0_4.length c0_4, .slice A0_5 l0_5.length c0_5] 49 (0, 0)) (tK BK313) hb); replace HB := Aside0.mk (below_step (tBs GE313) hb); (try clear hb); (try clear ho0); obtain ⟨Aoh346, coh346, eoh346⟩ := Kd.R_slice HO346.out; subst eoh346) | ((with_reducible refine gate_builtin (b := .append) (xs := #[.tmp 55, .tmp 59]) rfl ?_); at_builtin; refine Kd.R_append_rows (Kd.int .u8) (w0 := w) w.heap.size rfl (.tmp 55) (.tmp 59) 23 5 (.int .u8 0) 1 rfl Tryz.underlying23 info5 rfl (by decide) (by omega) u3 x3_4 t344 _ _ _ (fun k_ => some k_ ≠ (.slice Aoh346 t344.length coh346 : Value).ownBlock) (fun _ => False) rfl rfl ?aO ?aR (fun _ _ h => h) (fun _ h => h.elim) ?aF ?aB ?aS ?aL ?_; (case aR => exact tCr HO346); (case aB => exact (tBs GE313)); (case aF => exact (fun k_ hk => Kd.fresh' (Kd.R_lt (tR HO346)) k_ hk)); (case aO => exact (tRm HO_3)); (case aS => exact (below_size (tBs GE313))); (case aL => have := LMc46.out; omega); intro v348 w49 ho hb hg hat; rw [← Ny347.out] at ho; replace BK313 := Aside0.mk (blk_grown (g := gb313) (o := .cells #[.int .i64 a0_0, .int .i64 a0_1, .string a0_2, .slice A0_3 l0_3.length c0_3, .slice A0_4 l0_4.length c0_4, .slice A0_5 l0_5.length c0_5] 49 (0, 0)) (tK BK313) hg (Kd.R_ne HO_3.out BK313.out (by decide))); replace HO346 := Aside0.mk (Kd.R_after (ok := (fun _ => True)) (tR HO346) hg hat); replace HB := Aside0.mk (hb); have HO349 := Aside0.mk (ho); clear HO_3 ho hb hg hat))
         go_loopg [3, 5] k4 (fun kq v3 v5 w' => ∃ (x3_5 : List Int) (x5_5 : Int), v5 = .int .i64 x5_5 ∧ Aside0 (r36term.l1 kq x3_5 x5_5 a0_0 a0_1 a0_2 l0_3 l0_4 l0_5 = some r) ∧ Aside0 (kq ≤ k4) ∧ Aside0 (Kd.R (Kd.int .u8) 5 w' w.heap.size (fun _ => True) v3 x3_5) ∧ Aside0 (w'.heap[gb313]? = some (.cells #[.int .i64 a0_0, .int .i64 a0_1, .string a0_2, (.slice A0_3 l0_3.length c0_3), (.slice A0_4 l0_4.length c0_4), (.slice A0_5 l0_5.length c0_5)] 49 (0, 0))) ∧ Aside0 (Below w.heap.size w w'))
         case atStart => exact ⟨(y347), (0), tS, H', ⟨Nat.le_refl _⟩, ⟨by (with_reducible repeat (first | apply Kd.R_alloc | apply Kd.R_drewN | apply Kd.R_drew)); exact Kd.R_mono HO349.out (fun _ hk => trivial)⟩, ⟨tK BK313⟩, ⟨tBs GE313⟩⟩
         case round =>
          clear H'
          try clear c34b0
          try clear c43
          try clear c43b0
          try clear c43b1
          try clear c46
          try clear hcz16
          try clear hcz26
          try clear hcz47
          try clear hcz4
          try clear hcz7
          obtain ⟨x3_5, x5_5, rfl, HA, HK5, HO_3, BK313, HB⟩ := hrel
          cases gk with
          | zero => exact absurd HA.out (by simp [r36term.l1])
          | succ k5 =>
           have H := HA.out
           clear HA
           simp only [r36term.l1] at H
           replace H := iD H
           rcases H with ⟨c51b0, H⟩ | ⟨c51b0, H⟩
           ·replace H := niD H
            obtain ⟨c52b0, H⟩ := H
            replace H := iX H
            obtain ⟨t351, A53, H⟩ := H
            replace H := niC H
            obtain ⟨c54, H⟩ := H
            have LMc54 := Aside0.mk c54
            clear c54
            obtain ⟨y354, hy354⟩ : ∃ y_ : List Int, y_ = (x3_5 ++ t351) := ⟨_, rfl⟩
            replace H : (r36term.l2 k5 y354 x5_5 0 a0_0 a0_1 a0_2 l0_3 l0_4 l0_5) = some r := tY hy354 H
            have Ny354 := Aside0.mk hy354
            clear hy354
            have H' := Aside0.mk H
            clear H
            have hcz55 := cz6 BK313.out
            obtain ⟨p350, q350, ad350, A350_0, c350_0, A350_1, c350_1, rfl, hx350_0, hx350_1, HC350_0, HR350_0, HC350_1, HR350_1⟩ := at_B90 HR0_5 HB x5_5
            go_wp2_with (first | ((with_reducible refine gf_ 46 rfl ?_); refine gC_ (some 75) Tryz.func46 #[.slice A350_0 ((rd_T90 l0_5 x5_5).f0).length c350_0] ?_; (with_reducible refine (r36row.calls k5 _ _ ((rd_T90 l0_5 x5_5).f0) t351 _ ?side1 ?side2 A53.out).mono ?_); (case side1 => exact tCb HR350_0 HB); (case side2 => exact HC350_0.out); rintro e w56 ⟨v352, rfl, ho0, hb⟩; refine ⟨_, rfl, ?_⟩; have HO353 := Aside0.mk (Kd.R_lower (Kd.R_new' ho0 (Kd.R_lt (tR HO_3))) (below_size (tBs GE313))); replace HO_3 := Aside0.mk (Kd.R_elder' (tR HO_3) (Kd.R_base ho0) hb); replace BK313 := Aside0.mk (blk_below (g := gb313) (o := .cells #[.int .i64 a0_0, .int .i64 a0_1, .string a0_2, .slice A0_3 l0_3.length c0_3, .slice A0_4 l0_4.length c0_4, .slice (some ad350) l0_5.length c0_5] 49 (0, 0)) (tK BK313) hb); replace HB := Aside0.mk (below_step (tBs GE313) hb); (try clear hb); (try clear ho0); obtain ⟨Aoh353, coh353, eoh353⟩ := Kd.R_slice HO353.out; subst eoh353) | ((with_reducible refine gate_builtin (b := .append) (xs := #[.tmp 68, .tmp 75]) rfl ?_); at_builtin; refine Kd.R_append_rows (Kd.int .u8) (w0 := w) w.heap.size rfl (.tmp 68) (.tmp 75) 23 5 (.int .u8 0) 1 rfl Tryz.underlying23 info5 rfl (by decide) (by omega) u3 x3_5 t351 _ _ _ (fun k_ => some k_ ≠ (.slice Aoh353 t351.length coh353 : Value).ownBlock) (fun _ => False) rfl rfl ?aO ?aR (fun _ _ h => h) (fun _ h => h.elim) ?aF ?aB ?aS ?aL ?_; (case aR => exact tCr HO353); (case aB => exact (tBs GE313)); (case aF => exact (fun k_ hk => Kd.fresh' (Kd.R_lt (tR HO353)) k_ hk)); (case aO => exact (tRm HO_3)); (case aS => exact (below_size (tBs GE313))); (case aL => have := LMc54.out; omega); intro v355 w57 ho hb hg hat; rw [← Ny354.out] at ho; replace BK313 := Aside0.mk (blk_grown (g := gb313) (o := .cells #[.int .i64 a0_0, .int .i64 a0_1, .string a0_2, .slice A0_3 l0_3.length c0_3, .slice A0_4 l0_4.length c0_4, .slice (some ad350) l0_5.length c0_5] 49 (0, 0)) (tK BK313) hg (Kd.R_ne HO_3.out BK313.out (by decide))); replace HO353 := Aside0.mk (Kd.R_after (ok := (fun _ => True)) (tR HO353) hg hat); replace HB := Aside0.mk (hb); have HO356 := Aside0.mk (ho); clear HO_3 ho hb hg hat))
            go_loopg [3, 6] k5 (fun kq v3 v6 w' => ∃ (x3_6 : List Int) (x6_6 : Int), v6 = .int .i64 x6_6 ∧ Aside0 (r36term.l2 kq x3_6 x5_5 x6_6 a0_0 a0_1 a0_2 l0_3 l0_4 l0_5 = some r) ∧ Aside0 (kq ≤ k5) ∧ Aside0 (Kd.R (Kd.int .u8) 5 w' w.heap.size (fun _ => True) v3 x3_6) ∧ Aside0 (w'.heap[gb313]? = some (.cells #[.int .i64 a0_0, .int .i64 a0_1, .string a0_2, (.slice A0_3 l0_3.length c0_3), (.slice A0_4 l0_4.length c0_4), (.slice (some ad350) l0_5.length c0_5)] 49 (0, 0))) ∧ Aside0 (Below w.heap.size w w'))
            case atStart => exact ⟨(y354), (0), tS, H', ⟨Nat.le_refl _⟩, ⟨by (with_reducible repeat (first | apply Kd.R_alloc | apply Kd.R_drewN | apply Kd.R_drew)); exact Kd.R_mono HO356.out (fun _ hk => trivial)⟩, ⟨tK BK313⟩, ⟨tBs GE313⟩⟩
            case round =>
             clear H'
             try clear c34b0
             try clear c43
             try clear c43b0
             try clear c43b1
             try clear c46
             try clear c51b0
             try clear c52b0
             try clear c54
             try clear hcz16
             try clear hcz26
             try clear hcz47
             try clear hcz4
             try clear hcz55
             try clear hcz7
             try clear hx350_0
             try clear hx350_1
             try clear p350
             try clear q350
             obtain ⟨x3_6, x6_6, rfl, HA, HK6, HO_3, BK313, HB⟩ := hrel
             cases gk with
             | zero => exact absurd HA.out (by simp [r36term.l2])
             | succ k6 =>
              have H := HA.out
              clear HA
              simp only [r36term.l2] at H
              replace H := niD H
              obtain ⟨c59b0, H⟩ := H
              replace H := niD H
              obtain ⟨c60b0, H⟩ := H
              replace H := iD H
              rcases H with ⟨c61b0, H⟩ | ⟨c61b0, H⟩
              ·replace H := niD H
               obtain ⟨c62b0, H⟩ := H
               replace H := iX H
               obtain ⟨t360, A63, H⟩ := H
               replace H := niC H
               obtain ⟨c64, H⟩ := H
               have LMc64 := Aside0.mk c64
               clear c64
               obtain ⟨y363, hy363⟩ : ∃ y_ : List Int, y_ = (x3_6 ++ t360) := ⟨_, rfl⟩
               replace H : (r36term.l2 k6 y363 x5_5 (wrap64 (x6_6 + 1)) a0_0 a0_1 a0_2 l0_3 l0_4 l0_5) = some r := tY hy363 H
               have Ny363 := Aside0.mk hy363
               clear hy363
               have H' := Aside0.mk H
               clear H
               have hcz65 := cz6 BK313.out
               obtain ⟨p357, q357, ad357, A357_0, c357_0, A357_1, c357_1, e357, hx357_0, hx357_1, HC357_0, HR357_0, HC357_1, HR357_1⟩ := at_B90 HR0_5 HB x5_5
               obtain rfl : ad350 = ad357 := (by injection e357)
               obtain ⟨p358, q358, ad358, A358_0, c358_0, A358_1, c358_1, e358, hx358_0, hx358_1, HC358_0, HR358_0, HC358_1, HR358_1⟩ := at_B90 HR0_5 HB x5_5
               obtain rfl : ad350 = ad358 := (by injection e358)
               obtain ⟨rfl, rfl⟩ := slI hx357_0 hx358_0
               obtain ⟨rfl, rfl⟩ := slI hx357_1 hx358_1
               obtain ⟨p359, q359, ad359, A359_3, c359_3, A359_4, c359_4, A359_5, c359_5, rfl, hx359_0, hx359_1, hx359_2, hx359_3, hx359_4, hx359_5, HC359_3, HR359_3, HC359_4, HR359_4, HC359_5, HR359_5⟩ := at_B49 HR358_1 HB x6_6
               go_wp2_with (first | ((with_reducible refine gf_ 27 rfl ?_); refine gC_ (some 98) Tryz.func27 #[.agg #[.int .i64 ((rd_T49 ((rd_T90 l0_5 x5_5).f1) x6_6).f0), .int .i64 ((rd_T49 ((rd_T90 l0_5 x5_5).f1) x6_6).f1), .string ((rd_T49 ((rd_T90 l0_5 x5_5).f1) x6_6).f2), .slice A359_3 ((rd_T49 ((rd_T90 l0_5 x5_5).f1) x6_6).f3).length c359_3, .slice A359_4 ((rd_T49 ((rd_T90 l0_5 x5_5).f1) x6_6).f4).length c359_4, .slice A359_5 ((rd_T49 ((rd_T90 l0_5 x5_5).f1) x6_6).f5).length c359_5]] ?_; (with_reducible refine (ih k6 (by have := HJ1.out; have := HJ14.out; have := HJ24.out; have := HK4.out; have := HK5.out; have := HK6.out; omega) ((rd_T49 ((rd_T90 l0_5 x5_5).f1) x6_6).f0) ((rd_T49 ((rd_T90 l0_5 x5_5).f1) x6_6).f1) ((rd_T49 ((rd_T90 l0_5 x5_5).f1) x6_6).f2) _ _ ((rd_T49 ((rd_T90 l0_5 x5_5).f1) x6_6).f3) _ _ ((rd_T49 ((rd_T90 l0_5 x5_5).f1) x6_6).f4) _ _ ((rd_T49 ((rd_T90 l0_5 x5_5).f1) x6_6).f5) t360 _ ?side1 ?side2 ?side3 ?side4 ?side5 ?side6 A63.out).mono ?_); (case side1 => exact tCb HR359_3 HB); (case side2 => exact HC359_3.out); (case side3 => exact tCb HR359_4 HB); (case side4 => exact HC359_4.out); (case side5 => exact tCb HR359_5 HB); (case side6 => exact HC359_5.out); rintro e w66 ⟨v361, rfl, ho0, hb⟩; refine ⟨_, rfl, ?_⟩; have HO362 := Aside0.mk (Kd.R_lower (Kd.R_new' ho0 (Kd.R_lt (tR HO_3))) (below_size (tBs GE313))); replace HO_3 := Aside0.mk (Kd.R_elder' (tR HO_3) (Kd.R_base ho0) hb); replace BK313 := Aside0.mk (blk_below (g := gb313) (o := .cells #[.int .i64 a0_0, .int .i64 a0_1, .string a0_2, .slice A0_3 l0_3.length c0_3, .slice A0_4 l0_4.length c0_4, .slice (some ad350) l0_5.length c0_5] 49 (0, 0)) (tK BK313) hb); replace HB := Aside0.mk (below_step (tBs GE313) hb); (try clear hb); (try clear ho0); obtain ⟨Aoh362, coh362, eoh362⟩ := Kd.R_slice HO362.out; subst eoh362) | ((with_reducible refine gate_builtin (b := .append) (xs := #[.tmp 88, .tmp 98]) rfl ?_); at_builtin; refine Kd.R_append_rows (Kd.int .u8) (w0 := w) w.heap.size rfl (.tmp 88) (.tmp 98) 23 5 (.int .u8 0) 1 rfl Tryz.underlying23 info5 rfl (by decide) (by omega) u3 x3_6 t360 _ _ _ (fun k_ => some k_ ≠ (.slice Aoh362 t360.length coh362 : Value).ownBlock) (fun _ => False) rfl rfl ?aO ?aR (fun _ _ h => h) (fun _ h => h.elim) ?aF ?aB ?aS ?aL ?_; (case aR => exact tCr HO362); (case aB => exact (tBs GE313)); (case aF => exact (fun k_ hk => Kd.fresh' (Kd.R_lt (tR HO362)) k_ hk)); (case aO => exact (tRm HO_3)); (case aS => exact (below_size (tBs GE313))); (case aL => have := LMc64.out; omega); intro v364 w67 ho hb hg hat; rw [← Ny363.out] at ho; replace BK313 := Aside0.mk (blk_grown (g := gb313) (o := .cells #[.int .i64 a0_0, .int .i64 a0_1, .string a0_2, .slice A0_3 l0_3.length c0_3, .slice A0_4 l0_4.length c0_4, .slice (some ad350) l0_5.length c0_5] 49 (0, 0)) (tK BK313) hg (Kd.R_ne HO_3.out BK313.out (by decide))); replace HO362 := Aside0.mk (Kd.R_after (ok := (fun _ => True)) (tR HO362) hg hat); replace HB := Aside0.mk (hb); have HO365 := Aside0.mk (ho); clear HO_3 ho hb hg hat))
               go_roundg k6
               case measure => have := HJ1.out; have := HJ14.out; have := HJ24.out; have := HK4.out; have := HK5.out; have := HK6.out; omega
               case rel => exact ⟨(y363), (wrap64 (x6_6 + 1)), tS, H', ⟨by have := HJ1.out; have := HJ14.out; have := HJ24.out; have := HK4.out; have := HK5.out; have := HK6.out; omega⟩, ⟨by (with_reducible repeat (first | apply Kd.R_alloc | apply Kd.R_drewN | apply Kd.R_drew)); exact Kd.R_mono HO365.out (fun _ hk => trivial)⟩, ⟨tK BK313⟩, ⟨tBs GE313⟩⟩
              have H' := Aside0.mk H
              clear H
              have hcz69 := cz6 BK313.out
              obtain ⟨p357, q357, ad357, A357_0, c357_0, A357_1, c357_1, e357, hx357_0, hx357_1, HC357_0, HR357_0, HC357_1, HR357_1⟩ := at_B90 HR0_5 HB x5_5
              obtain rfl : ad350 = ad357 := (by injection e357)
              go_wp2
              go_roundg k6
              case measure => have := HJ1.out; have := HJ14.out; have := HJ24.out; have := HK4.out; have := HK5.out; have := HK6.out; omega
              case rel => exact ⟨(x3_6), (wrap64 (x5_5 + 1)), tS, H', ⟨by have := HJ1.out; have := HJ14.out; have := HJ24.out; have := HK4.out; have := HK5.out; have := HK6.out; omega⟩, ⟨tR HO_3⟩, ⟨tK BK313⟩, ⟨tBs GE313⟩⟩
           obtain rfl := Option.some.inj H
           have hcz70 := cz6 BK313.out
           go_wp2
           go_ret
           exact ⟨_, tE, by (with_reducible repeat (first | apply Kd.R_alloc | apply Kd.R_drewN | apply Kd.R_drew)); exact HO_3.out, by repeat (first | (with_reducible first | exact HB.out | apply below_alloc | apply pw_below_drewN | apply below_drew1 | refine below_set ?_ GE313.out) | exact HB.out)⟩
end
end Go.Proofs.YtahdjajdaggmjaaGreatDoor.XPa
