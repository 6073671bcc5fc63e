-- Written for this claim by a program of ours (wip/xp.py), out of the translation and of hand-written contracts.
import Derived.Test.YtahdjajdaggmjaaGreatDoorSx
import Derived.Test.YtahdjajdaggmjaaGreatDoorYrec
import Derived.Test.YtahdjajdaggmjaaGreatDoorYdec
import Derived.Test.YtahdjajdaggmjaaGreatDoorZrall
import Derived.Test.YtahdjajdaggmjaaGreatDoorZwr
import Derived.Test.YtahdjajdaggmjaaGreatDoorXPax11
section
namespace Go.Proofs.YtahdjajdaggmjaaGreatDoor.XPa
noncomputable section
open Go.RowKit Go.Proofs.YtahdjajdaggmjaaGreatDoorW.PrintWords Go.Proofs.YtahdjajdaggmjaaGreatDoorW.PrintLast Go.Proofs.YtahdjajdaggmjaaGreatDoorW.PrintMore
attribute [local go_sem] max2_int min2_int max_two min_two max_three min_three max_four min_four
set_option linter.unusedVariables false
set_option linter.unusedSimpArgs false
def r08Named.f (k : Nat) (a0 : ByteArray) : Option (Bool) := (r06Scan.f k a0).bind fun bt212 => (if bt212.2.2 = 0 then (if (bt212.1.length : Int) = 2 then (if 0 < (bt212.1.length : Int) then (if ((rd_T98 bt212.1 0).f0) = 1 then (some (((rd_T98 bt212.1 0).f1).toList == a0.toList)) else (some false)) else (none)) else (some false)) else (some false))
set_option maxHeartbeats 8000000 in
set_option maxRecDepth 100000 in
theorem r08Named.calls (k : Nat) (a0 : ByteArray) (r : Bool) (w : World) (h : r08Named.f k a0 = some r) :
  Calls Tryz.prog 23 #[.string a0] w fun e w' => e = .returned (.bool r) ∧ Below w.heap.size w w' := by
 have HB := Aside0.mk (Below.refl w.heap.size w)
 have H : ((r06Scan.f k a0).bind fun bt212 => (if bt212.2.2 = 0 then (if (bt212.1.length : Int) = 2 then (if 0 < (bt212.1.length : Int) then (if ((rd_T98 bt212.1 0).f0) = 1 then (some (((rd_T98 bt212.1 0).f1).toList == a0.toList)) else (some false)) else (none)) else (some false)) else (some false))) = some r := h
 clear h
 replace H := iX H
 obtain ⟨⟨t212, t213, t214⟩, A2, H⟩ := H
 try dsimp only at H
 replace H := iE H
 rcases H with ⟨c3b0, c3b1, H⟩ | ⟨c3, c3b0, c3b1, H⟩
 ·replace H := iE H
  rcases H with ⟨c4b0, c4b1, H⟩ | ⟨c4, c4b0, c4b1, H⟩
  ·by_cases c5 : 0 < (t212.length : Int)
   ·rw [if_pos c5] at H
    have c5b0 : decide (0 < (t212.length : Int)) = true := decide_eq_true c5
    have c5b1 : decide (0 < t212.length) = true := decide_eq_true (by omega)
    clear c5
    replace H := iE H
    rcases H with ⟨c6b0, c6b1, H⟩ | ⟨c6, c6b0, c6b1, H⟩
    ·obtain rfl := Option.some.inj H
     go_enter Tryz.func23, Tryz.ntmps23
     go_wp2_with (first | ((with_reducible refine gf_ 42 rfl ?_); refine gC_ (some 8) Tryz.func42 #[.string a0] ?_; (with_reducible refine (r06Scan.calls k a0 t212 t213 t214 _ A2.out).mono ?_); rintro e w7 ⟨v215, rfl, ho0, hb⟩; refine ⟨_, rfl, ?_⟩; have HO216 := Aside0.mk (Kd.R_lower ho0 (below_size tB)); replace HB := Aside0.mk (below_step tB hb); (try clear hb); (try clear ho0); obtain ⟨Aoh216, coh216, eoh216⟩ := Kd.R_slice HO216.out; subst eoh216; have p217 : 0 ≤ (0 : Int) := (by omega); have q217 : 0 < (t212.length : Int) := tA; obtain ⟨ad217, e217, hx217_0, hx217_1, hx217_2⟩ := at_T98 (Kd.R_reads' HO216.out).2.2 0 p217 q217; cases e217; have qi217 : (0 < t212.length) = True := eq_true (by omega); (try rw [show ((0 : Int)).toNat = 0 from rfl] at hx217_0); (try rw [show 0 * 3 = 0 from rfl] at hx217_0); (try rw [Addr.add_zero'] at hx217_0); (try rw [show ((0 : Int)).toNat = 0 from rfl] at hx217_1); (try rw [show 0 * 3 = 0 from rfl] at hx217_1); (try rw [Addr.add_zero'] at hx217_1); (try rw [show ((0 : Int)).toNat = 0 from rfl] at hx217_2); (try rw [show 0 * 3 = 0 from rfl] at hx217_2); (try rw [Addr.add_zero'] at hx217_2); replace p217 := eq_true p217; replace q217 := eq_true q217; have p218 : 0 ≤ (0 : Int) := (by omega); have q218 : 0 < (t212.length : Int) := tA; obtain ⟨ad218, e218, hx218_0, hx218_1, hx218_2⟩ := at_T98 (Kd.R_reads' HO216.out).2.2 0 p218 q218; obtain rfl : ad217 = ad218 := (by injection e218); have qi218 : (0 < t212.length) = True := eq_true (by omega); (try rw [show ((0 : Int)).toNat = 0 from rfl] at hx218_0); (try rw [show 0 * 3 = 0 from rfl] at hx218_0); (try rw [Addr.add_zero'] at hx218_0); (try rw [show ((0 : Int)).toNat = 0 from rfl] at hx218_1); (try rw [show 0 * 3 = 0 from rfl] at hx218_1); (try rw [Addr.add_zero'] at hx218_1); (try rw [show ((0 : Int)).toNat = 0 from rfl] at hx218_2); (try rw [show 0 * 3 = 0 from rfl] at hx218_2); (try rw [Addr.add_zero'] at hx218_2); replace p218 := eq_true p218; replace q218 := eq_true q218))
     go_ret
     exact ⟨tE, tB⟩
    obtain rfl := Option.some.inj H
    go_enter Tryz.func23, Tryz.ntmps23
    go_wp2_with (first | ((with_reducible refine gf_ 42 rfl ?_); refine gC_ (some 8) Tryz.func42 #[.string a0] ?_; (with_reducible refine (r06Scan.calls k a0 t212 t213 t214 _ A2.out).mono ?_); rintro e w9 ⟨v215, rfl, ho0, hb⟩; refine ⟨_, rfl, ?_⟩; have HO216 := Aside0.mk (Kd.R_lower ho0 (below_size tB)); replace HB := Aside0.mk (below_step tB hb); (try clear hb); (try clear ho0); obtain ⟨Aoh216, coh216, eoh216⟩ := Kd.R_slice HO216.out; subst eoh216; have p217 : 0 ≤ (0 : Int) := (by omega); have q217 : 0 < (t212.length : Int) := tA; obtain ⟨ad217, e217, hx217_0, hx217_1, hx217_2⟩ := at_T98 (Kd.R_reads' HO216.out).2.2 0 p217 q217; cases e217; have qi217 : (0 < t212.length) = True := eq_true (by omega); (try rw [show ((0 : Int)).toNat = 0 from rfl] at hx217_0); (try rw [show 0 * 3 = 0 from rfl] at hx217_0); (try rw [Addr.add_zero'] at hx217_0); (try rw [show ((0 : Int)).toNat = 0 from rfl] at hx217_1); (try rw [show 0 * 3 = 0 from rfl] at hx217_1); (try rw [Addr.add_zero'] at hx217_1); (try rw [show ((0 : Int)).toNat = 0 from rfl] at hx217_2); (try rw [show 0 * 3 = 0 from rfl] at hx217_2); (try rw [Addr.add_zero'] at hx217_2); replace p217 := eq_true p217; replace q217 := eq_true q217))
    go_ret
    exact ⟨tE, tB⟩
   ·rw [if_neg c5] at H
    exact absurd H (by simp)
  obtain rfl := Option.some.inj H
  go_enter Tryz.func23, Tryz.ntmps23
  go_wp2_with (first | ((with_reducible refine gf_ 42 rfl ?_); refine gC_ (some 8) Tryz.func42 #[.string a0] ?_; (with_reducible refine (r06Scan.calls k a0 t212 t213 t214 _ A2.out).mono ?_); rintro e w11 ⟨v215, rfl, ho0, hb⟩; refine ⟨_, rfl, ?_⟩; have HO216 := Aside0.mk (Kd.R_lower ho0 (below_size tB)); replace HB := Aside0.mk (below_step tB hb); (try clear hb); (try clear ho0); obtain ⟨Aoh216, coh216, eoh216⟩ := Kd.R_slice HO216.out; subst eoh216))
  go_ret
  exact ⟨tE, tB⟩
 obtain rfl := Option.some.inj H
 go_enter Tryz.func23, Tryz.ntmps23
 go_wp2_with (first | ((with_reducible refine gf_ 42 rfl ?_); refine gC_ (some 8) Tryz.func42 #[.string a0] ?_; (with_reducible refine (r06Scan.calls k a0 t212 t213 t214 _ A2.out).mono ?_); rintro e w13 ⟨v215, rfl, ho0, hb⟩; refine ⟨_, rfl, ?_⟩; have HO216 := Aside0.mk (Kd.R_lower ho0 (below_size tB)); replace HB := Aside0.mk (below_step tB hb); (try clear hb); (try clear ho0)))
 go_ret
 exact ⟨tE, tB⟩
def r36number.f : Nat → Int → Option (List Int)
  | 0, _ => none
  | k + 1, a0 => if a0 < 128 then (some (([(a0) % 256] : List Int))) else ((some (([(wrap64 ((Int.tmod a0 128) + 128)) % 256] : List Int) : List Int)).bind fun y222 => ((r36number.f k (wrap64 (Int.tdiv a0 128))).bind fun t225 => (if y222.length + t225.length < 140737488355328 then (some (y222 ++ t225)) else (none))))
set_option maxHeartbeats 8000000 in
set_option maxRecDepth 100000 in
theorem r36number.calls (k : Nat) : ∀ (a0 : Int) (r : List Int) (w : World) (h : r36number.f k a0 = some r),
  Calls Tryz.prog 24 #[.int .i64 a0] w fun e w' => ∃ v0_ : Value, e = .returned (v0_) ∧ Kd.R (Kd.int .u8) 5 w' w.heap.size (fun _ => True) v0_ r ∧ Below w.heap.size w w' := by
 induction k using Nat.strongRecOn with
 | _ k ih =>
 intro a0 r w h
 cases k with
 | zero => exact absurd h (by simp [r36number.f])
 | succ k =>
 simp only [r36number.f] at h
 have HB := Aside0.mk (Below.refl w.heap.size w)
 have H : (if a0 < 128 then (some (([(a0) % 256] : List Int))) else ((some (([(wrap64 ((Int.tmod a0 128) + 128)) % 256] : List Int) : List Int)).bind fun y222 => ((r36number.f k (wrap64 (Int.tdiv a0 128))).bind fun t225 => (if y222.length + t225.length < 140737488355328 then (some (y222 ++ t225)) else (none))))) = some r := h
 clear h
 replace H := iD H
 rcases H with ⟨c2b0, H⟩ | ⟨c2b0, H⟩
 ·obtain ⟨y219, hy219⟩ : ∃ y_ : List Int, y_ = (([(a0) % 256] : List Int)) := ⟨_, rfl⟩
  replace H : (some y219) = some r := tY hy219 H
  have Ny219 := Aside0.mk hy219
  clear hy219
  obtain rfl := Option.some.inj H
  go_enter Tryz.func24, Tryz.ntmps24
  go_wp2_with (first | ((with_reducible refine gate_dst (N := 7) rfl ?_); refine Kd.R_lit (Kd.int .u8) _ 5 ?hg (N := 7) ?hd (xs := ([(a0) % 256] : List Int)) (inner := [.int .u8 ((a0) % 256)]) (ok := fun _ => True) (okp := fun _ => True) ?hr ?hp (fun _ hk => hk) trivial (Below.refl _ _) (Nat.le_refl _) (by simp) ?_; (case hd => rfl); (case hg => rfl); (case hr => first | (go_simp; done) | (go_simp; rfl)); (case hp => exact (Reps.one (show Kd.M (Kd.int .u8) _ _ _ ((a0) % 256) [.int .u8 ((a0) % 256)] from rfl) (Reps.none _ _))); intro v220 w3 ho4 hb hg_ hnew_; clear hg_ hnew_; (first | rw [← Ny219.out] at ho4 | (simp only [Int.reduceToNat] at ho4; rw [← Ny219.out] at ho4)); have HO221 := Aside0.mk (Kd.R_lower ho4 (below_size tB)); replace HB := Aside0.mk (below_step tB hb); clear hb ho4))
  go_ret
  exact ⟨_, tE, by (with_reducible repeat (first | apply Kd.R_alloc | apply Kd.R_drewN | apply Kd.R_drew)); exact HO221.out, tB⟩
 obtain ⟨y222, hy222⟩ : ∃ y_ : List Int, y_ = (([(wrap64 ((Int.tmod a0 128) + 128)) % 256] : List Int)) := ⟨_, rfl⟩
 replace H : ((r36number.f k (wrap64 (Int.tdiv a0 128))).bind fun t225 => (if y222.length + t225.length < 140737488355328 then (some (y222 ++ t225)) else (none))) = some r := tY hy222 H
 have Ny222 := Aside0.mk hy222
 clear hy222
 replace H := iX H
 obtain ⟨t225, A5, H⟩ := H
 replace H := niC H
 obtain ⟨c6, H⟩ := H
 have LMc6 := Aside0.mk c6
 clear c6
 obtain ⟨y228, hy228⟩ : ∃ y_ : List Int, y_ = (y222 ++ t225) := ⟨_, rfl⟩
 replace H : (some y228) = some r := tY hy228 H
 have Ny228 := Aside0.mk hy228
 clear hy228
 obtain rfl := Option.some.inj H
 go_enter Tryz.func24, Tryz.ntmps24
 go_wp2_with (first | ((with_reducible refine gate_dst (N := 12) rfl ?_); refine Kd.R_lit (Kd.int .u8) _ 5 ?hg (N := 12) ?hd (xs := ([(wrap64 ((Int.tmod a0 128) + 128)) % 256] : List Int)) (inner := [.int .u8 ((wrap64 ((Int.tmod a0 128) + 128)) % 256)]) (ok := fun _ => True) (okp := fun _ => True) ?hr ?hp (fun _ hk => hk) trivial (Below.refl _ _) (Nat.le_refl _) (by simp) ?_; (case hd => rfl); (case hg => rfl); (case hr => first | (go_simp; done) | (go_simp; rfl)); (case hp => exact (Reps.one (show Kd.M (Kd.int .u8) _ _ _ ((wrap64 ((Int.tmod a0 128) + 128)) % 256) [.int .u8 ((wrap64 ((Int.tmod a0 128) + 128)) % 256)] from rfl) (Reps.none _ _))); intro v223 w7 ho8 hb hg_ hnew_; clear hg_ hnew_; (first | rw [← Ny222.out] at ho8 | (simp only [Int.reduceToNat] at ho8; rw [← Ny222.out] at ho8)); have HO224 := Aside0.mk (Kd.R_lower ho8 (below_size tB)); replace HB := Aside0.mk (below_step tB hb); clear hb ho8) | ((with_reducible refine gf_ 24 rfl ?_); refine gC_ (some 15) Tryz.func24 #[.int .i64 (wrap64 (Int.tdiv a0 128))] ?_; (with_reducible refine (ih k (by omega) (wrap64 (Int.tdiv a0 128)) t225 _ A5.out).mono ?_); rintro e w9 ⟨v226, rfl, ho0, hb⟩; refine ⟨_, rfl, ?_⟩; have HO227 := Aside0.mk (Kd.R_lower (Kd.R_new' ho0 (Kd.R_lt (tR HO224))) (below_size tB)); replace HO224 := Aside0.mk (Kd.R_elder' (tR HO224) (Kd.R_base ho0) hb); replace HB := Aside0.mk (below_step tB hb); (try clear hb); (try clear ho0); obtain ⟨Aoh227, coh227, eoh227⟩ := Kd.R_slice HO227.out; subst eoh227) | ((with_reducible refine gate_builtin (b := .append) (xs := #[.tmp 12, .tmp 15]) rfl ?_); at_builtin; refine Kd.R_append_rows (Kd.int .u8) (w0 := w) w.heap.size rfl (.tmp 12) (.tmp 15) 23 5 (.int .u8 0) 1 rfl Tryz.underlying23 info5 rfl (by decide) (by omega) v223 y222 t225 _ _ _ (fun k_ => some k_ ≠ (.slice Aoh227 t225.length coh227 : Value).ownBlock) (fun _ => False) rfl rfl ?aO ?aR (fun _ _ h => h) (fun _ h => h.elim) ?aF ?aB ?aS ?aL ?_; (case aR => exact tCr HO227); (case aB => exact tB); (case aF => exact (fun k_ hk => Kd.fresh' (Kd.R_lt (tR HO227)) k_ hk)); (case aO => exact (tRm HO224)); (case aS => exact (below_size tB)); (case aL => have := LMc6.out; omega); intro v229 w10 ho hb hg hat; rw [← Ny228.out] at ho; replace HO227 := Aside0.mk (Kd.R_after (ok := (fun _ => True)) (tR HO227) hg hat); replace HB := Aside0.mk (hb); have HO230 := Aside0.mk (ho); clear HO224 ho hb hg hat))
 go_ret
 exact ⟨_, tE, by (with_reducible repeat (first | apply Kd.R_alloc | apply Kd.R_drewN | apply Kd.R_drew)); exact Kd.R_mono HO230.out (fun _ hk => trivial), tB⟩
mutual
def r10Depth.l0 : Nat → Int → Int → Int → Int → ByteArray → List (S113) → List (S49) → List (S90) → Option (Int)
  | 0, _, _, _, _, _, _, _, _ => none
  | k + 1, x3, x4, x232000, x232001, x232002, x232003, x232004, x232005 => if x4 < (x232004.length : Int) then (if 0 ≤ x4 then ((r10Depth.f k ((rd_T49 x232004 x4).f0) ((rd_T49 x232004 x4).f1) ((rd_T49 x232004 x4).f2) ((rd_T49 x232004 x4).f3) ((rd_T49 x232004 x4).f4) ((rd_T49 x232004 x4).f5)).bind fun t233 => (if t233 > x3 then (r10Depth.l0 k t233 (wrap64 (x4 + 1)) x232000 x232001 x232002 x232003 x232004 x232005) else (r10Depth.l0 k x3 (wrap64 (x4 + 1)) x232000 x232001 x232002 x232003 x232004 x232005))) else (none)) else (r10Depth.l1 k x3 0 x232000 x232001 x232002 x232003 x232004 x232005)
def r10Depth.l1 : Nat → Int → Int → Int → Int → ByteArray → List (S113) → List (S49) → List (S90) → Option (Int)
  | 0, _, _, _, _, _, _, _, _ => none
  | k + 1, x3, x6, x232000, x232001, x232002, x232003, x232004, x232005 => if x6 < (x232005.length : Int) then (r10Depth.l2 k x3 x6 0 x232000 x232001 x232002 x232003 x232004 x232005) else (some (wrap64 (x3 + 1)))
def r10Depth.l2 : Nat → Int → Int → Int → Int → Int → ByteArray → List (S113) → List (S49) → List (S90) → Option (Int)
  | 0, _, _, _, _, _, _, _, _, _ => none
  | k + 1, x3, x6, x7, x232000, x232001, x232002, x232003, x232004, x232005 => if 0 ≤ x6 then (if x6 < (x232005.length : Int) then (if x7 < (((rd_T90 x232005 x6).f1).length : Int) then (if 0 ≤ x7 then ((r10Depth.f k ((rd_T49 ((rd_T90 x232005 x6).f1) x7).f0) ((rd_T49 ((rd_T90 x232005 x6).f1) x7).f1) ((rd_T49 ((rd_T90 x232005 x6).f1) x7).f2) ((rd_T49 ((rd_T90 x232005 x6).f1) x7).f3) ((rd_T49 ((rd_T90 x232005 x6).f1) x7).f4) ((rd_T49 ((rd_T90 x232005 x6).f1) x7).f5)).bind fun t237 => (if t237 > x3 then (r10Depth.l2 k t237 x6 (wrap64 (x7 + 1)) x232000 x232001 x232002 x232003 x232004 x232005) else (r10Depth.l2 k x3 x6 (wrap64 (x7 + 1)) x232000 x232001 x232002 x232003 x232004 x232005))) else (none)) else (r10Depth.l1 k x3 (wrap64 (x6 + 1)) x232000 x232001 x232002 x232003 x232004 x232005)) else (none)) else (none)
def r10Depth.f : Nat → Int → Int → ByteArray → List (S113) → List (S49) → List (S90) → Option (Int)
  | 0, _, _, _, _, _, _ => none
  | k + 1, a0_0, a0_1, a0_2, l0_3, l0_4, l0_5 => r10Depth.l0 k 0 0 a0_0 a0_1 a0_2 l0_3 l0_4 l0_5
end
theorem r10Depth.z0 {p : Prop} (h_ : p := by have H' := Aside0.mk H; clear H; (try (have hcz := cz6 BK231.out)); (try (obtain ⟨p232, q232, ad232, A232_3, c232_3, A232_4, c232_4, A232_5, c232_5, rfl, hx232_0, hx232_1, hx232_2, hx232_3, hx232_4, hx232_5, HC232_3, HR232_3, HC232_4, HR232_4, HC232_5, HR232_5⟩ := at_B49 HR0_4 HB x4_1)); go_wp2_with (first | ((with_reducible refine gf_ 61 rfl ?_); refine gC_ (some 21) Tryz.func61 #[.agg #[.int .i64 ((rd_T49 l0_4 x4_1).f0), .int .i64 ((rd_T49 l0_4 x4_1).f1), .string ((rd_T49 l0_4 x4_1).f2), .slice A232_3 ((rd_T49 l0_4 x4_1).f3).length c232_3, .slice A232_4 ((rd_T49 l0_4 x4_1).f4).length c232_4, .slice A232_5 ((rd_T49 l0_4 x4_1).f5).length c232_5]] ?_; (with_reducible refine (ih k1 (by have := HK1.out; omega) ((rd_T49 l0_4 x4_1).f0) ((rd_T49 l0_4 x4_1).f1) ((rd_T49 l0_4 x4_1).f2) _ _ ((rd_T49 l0_4 x4_1).f3) _ _ ((rd_T49 l0_4 x4_1).f4) _ _ ((rd_T49 l0_4 x4_1).f5) t233 _ ?side1 ?side2 ?side3 ?side4 ?side5 ?side6 A5.out).mono ?_); (case side1 => exact tCb HR232_3 HB); (case side2 => exact HC232_3.out); (case side3 => exact tCb HR232_4 HB); (case side4 => exact HC232_4.out); (case side5 => exact tCb HR232_5 HB); (case side6 => exact HC232_5.out); rintro e wa ⟨rfl, hb⟩; refine ⟨_, rfl, ?_⟩; replace BK231 := Aside0.mk (blk_below (g := gb231) (o := .cells #[.int .i64 a0_0, .int .i64 a0_1, .string a0_2, .slice A0_3 l0_3.length c0_3, .slice (some ad232) l0_4.length c0_4, .slice A0_5 l0_5.length c0_5] 49 (0, 0)) (tK BK231) hb); replace HB := Aside0.mk (below_step (tBs GE231) hb); (try clear hb))); first | (go_roundg k1; (case measure => have := HK1.out; omega); (case rel => exact ⟨(x3_1), (wrap64 (x4_1 + 1)), tS, tS, H', ⟨by have := HK1.out; omega⟩, ⟨tK BK231⟩, ⟨tBs GE231⟩⟩)) | (go_roundg k1; (case measure => have := HK1.out; omega); (case rel => exact ⟨(t233), (wrap64 (x4_1 + 1)), tS, tS, H', ⟨by have := HK1.out; omega⟩, ⟨tK BK231⟩, ⟨tBs GE231⟩⟩))) : p := h_
theorem r10Depth.z1 {p : Prop} (h_ : p := by have H' := Aside0.mk H; clear H; (try (have hcz := cz6 BK231.out)); (try (obtain ⟨p234, q234, ad234, A234_0, c234_0, A234_1, c234_1, rfl, hx234_0, hx234_1, HC234_0, HR234_0, HC234_1, HR234_1⟩ := at_B90 HR0_5 HB x6_2)); (try (obtain ⟨p235, q235, ad235, A235_0, c235_0, A235_1, c235_1, e235, hx235_0, hx235_1, HC235_0, HR235_0, HC235_1, HR235_1⟩ := at_B90 HR0_5 HB x6_2; obtain rfl : ad234 = ad235 := (by injection e235))); (try (obtain ⟨rfl, rfl⟩ := slI hx234_0 hx235_0)); (try (obtain ⟨rfl, rfl⟩ := slI hx234_1 hx235_1)); (try (obtain ⟨p236, q236, ad236, A236_3, c236_3, A236_4, c236_4, A236_5, c236_5, rfl, hx236_0, hx236_1, hx236_2, hx236_3, hx236_4, hx236_5, HC236_3, HR236_3, HC236_4, HR236_4, HC236_5, HR236_5⟩ := at_B49 HR235_1 HB x7_3)); go_wp2_with (first | ((with_reducible refine gf_ 61 rfl ?_); refine gC_ (some 53) Tryz.func61 #[.agg #[.int .i64 ((rd_T49 ((rd_T90 l0_5 x6_2).f1) x7_3).f0), .int .i64 ((rd_T49 ((rd_T90 l0_5 x6_2).f1) x7_3).f1), .string ((rd_T49 ((rd_T90 l0_5 x6_2).f1) x7_3).f2), .slice A236_3 ((rd_T49 ((rd_T90 l0_5 x6_2).f1) x7_3).f3).length c236_3, .slice A236_4 ((rd_T49 ((rd_T90 l0_5 x6_2).f1) x7_3).f4).length c236_4, .slice A236_5 ((rd_T49 ((rd_T90 l0_5 x6_2).f1) x7_3).f5).length c236_5]] ?_; (with_reducible refine (ih k3 (by have := HK1.out; have := HK2.out; have := HK3.out; omega) ((rd_T49 ((rd_T90 l0_5 x6_2).f1) x7_3).f0) ((rd_T49 ((rd_T90 l0_5 x6_2).f1) x7_3).f1) ((rd_T49 ((rd_T90 l0_5 x6_2).f1) x7_3).f2) _ _ ((rd_T49 ((rd_T90 l0_5 x6_2).f1) x7_3).f3) _ _ ((rd_T49 ((rd_T90 l0_5 x6_2).f1) x7_3).f4) _ _ ((rd_T49 ((rd_T90 l0_5 x6_2).f1) x7_3).f5) t237 _ ?side1 ?side2 ?side3 ?side4 ?side5 ?side6 A18.out).mono ?_); (case side1 => exact tCb HR236_3 HB); (case side2 => exact HC236_3.out); (case side3 => exact tCb HR236_4 HB); (case side4 => exact HC236_4.out); (case side5 => exact tCb HR236_5 HB); (case side6 => exact HC236_5.out); rintro e wa ⟨rfl, hb⟩; refine ⟨_, rfl, ?_⟩; replace BK231 := Aside0.mk (blk_below (g := gb231) (o := .cells #[.int .i64 a0_0, .int .i64 a0_1, .string a0_2, .slice A0_3 l0_3.length c0_3, .slice A0_4 l0_4.length c0_4, .slice (some ad234) l0_5.length c0_5] 49 (0, 0)) (tK BK231) hb); replace HB := Aside0.mk (below_step (tBs GE231) hb); (try clear hb))); first | (go_roundg k3; (case measure => have := HK1.out; have := HK2.out; have := HK3.out; omega); (case rel => exact ⟨(x3_3), (wrap64 (x7_3 + 1)), tS, tS, H', ⟨by have := HK1.out; have := HK2.out; have := HK3.out; omega⟩, ⟨tK BK231⟩, ⟨tBs GE231⟩⟩)) | (go_roundg k3; (case measure => have := HK1.out; have := HK2.out; have := HK3.out; omega); (case rel => exact ⟨(t237), (wrap64 (x7_3 + 1)), tS, tS, H', ⟨by have := HK1.out; have := HK2.out; have := HK3.out; omega⟩, ⟨tK BK231⟩, ⟨tBs GE231⟩⟩))) : p := h_
set_option maxHeartbeats 8000000 in
set_option maxRecDepth 100000 in
theorem r10Depth.calls (k : Nat) : ∀ (a0_0 : Int) (a0_1 : Int) (a0_2 : ByteArray) (A0_3 : Option Addr) (c0_3 : Nat) (l0_3 : List (S113)) (A0_4 : Option Addr) (c0_4 : Nat) (l0_4 : List (S49)) (A0_5 : Option Addr) (c0_5 : Nat) (l0_5 : List (S90)) (r : Int) (w : World) (hr0_3 : Kd.C k113 w A0_3 l0_3.length l0_3) (hc0_3 : l0_3.length ≤ c0_3) (hr0_4 : Kd.C k49 w A0_4 l0_4.length l0_4) (hc0_4 : l0_4.length ≤ c0_4) (hr0_5 : Kd.C k90 w A0_5 l0_5.length l0_5) (hc0_5 : l0_5.length ≤ c0_5) (h : r10Depth.f k a0_0 a0_1 a0_2 l0_3 l0_4 l0_5 = some r),
  Calls Tryz.prog 61 #[.agg #[.int .i64 a0_0, .int .i64 a0_1, .string a0_2, .slice A0_3 l0_3.length c0_3, .slice A0_4 l0_4.length c0_4, .slice A0_5 l0_5.length c0_5]] w fun e w' => e = .returned (.int .i64 r) ∧ Below w.heap.size w w' := by
 induction k using Nat.strongRecOn with
 | _ k ih =>
 intro a0_0 a0_1 a0_2 A0_3 c0_3 l0_3 A0_4 c0_4 l0_4 A0_5 c0_5 l0_5 r w hr0_3 hc0_3 hr0_4 hc0_4 hr0_5 hc0_5 h
 cases k with
 | zero => exact absurd h (by simp [r10Depth.f])
 | succ k =>
 simp only [r10Depth.f] at h
 have hu49 := Tryz.underlying49
 have HR0_3 := Aside0.mk hr0_3
 have HC0_3 := Aside0.mk hc0_3
 clear hr0_3 hc0_3
 have HR0_4 := Aside0.mk hr0_4
 have HC0_4 := Aside0.mk hc0_4
 clear hr0_4 hc0_4
 have HR0_5 := Aside0.mk hr0_5
 have HC0_5 := Aside0.mk hc0_5
 clear hr0_5 hc0_5
 have HB := Aside0.mk (Below.refl w.heap.size w)
 have H : (r10Depth.l0 k 0 0 a0_0 a0_1 a0_2 l0_3 l0_4 l0_5) = some r := h
 clear h
 have H' := Aside0.mk H
 clear H
 go_enter Tryz.func61, Tryz.ntmps61
 go_wp2_with (first | ((with_reducible refine gd_ 1 rfl ?_); refine boxE 1 #[.int .i64 a0_0, .int .i64 a0_1, .string a0_2, .slice A0_3 l0_3.length c0_3, .slice A0_4 l0_4.length c0_4, .slice A0_5 l0_5.length c0_5] 49 ?_; intro gb231 hg w2 hbox hb; have BK231 := Aside0.mk (hbox); have GW231 := Aside0.mk (tG : w.heap.size ≤ gb231); have GE231 := Aside0.mk (tG : w.heap.size ≤ gb231); replace HB := Aside0.mk (below_step tB hb); clear hb hbox hg))
 go_loopg [3, 4] k (fun kq v3 v4 w' => ∃ (x3_1 : Int) (x4_1 : Int), v3 = .int .i64 x3_1 ∧ v4 = .int .i64 x4_1 ∧ Aside0 (r10Depth.l0 kq x3_1 x4_1 a0_0 a0_1 a0_2 l0_3 l0_4 l0_5 = some r) ∧ Aside0 (kq ≤ k) ∧ Aside0 (w'.heap[gb231]? = some (.cells #[.int .i64 a0_0, .int .i64 a0_1, .string a0_2, (.slice A0_3 l0_3.length c0_3), (.slice A0_4 l0_4.length c0_4), (.slice A0_5 l0_5.length c0_5)] 49 (0, 0))) ∧ Aside0 (Below w.heap.size w w'))
 case atStart => exact ⟨(0), (0), tS, tS, H', ⟨Nat.le_refl _⟩, ⟨tK BK231⟩, ⟨tBs GE231⟩⟩
 case round =>
  clear H'
  obtain ⟨x3_1, x4_1, rfl, rfl, HA, HK1, BK231, HB⟩ := hrel
  cases gk with
  | zero => exact absurd HA.out (by simp [r10Depth.l0])
  | succ k1 =>
   have H := HA.out
   clear HA
   simp only [r10Depth.l0] at H
   replace H := iD H
   rcases H with ⟨c3b0, H⟩ | ⟨c3b0, H⟩
   ·replace H := niD H
    obtain ⟨c4b0, H⟩ := H
    replace H := iX H
    obtain ⟨t233, A5, H⟩ := H
    replace H := iH H
    rcases H with ⟨c6b0, H⟩ | ⟨c6b0, H⟩
    ·exact r10Depth.z0
    exact r10Depth.z0
   have H' := Aside0.mk H
   clear H
   have hcz11 := cz6 BK231.out
   go_wp2
   go_loopg [3, 6] k1 (fun kq v3 v6 w' => ∃ (x3_2 : Int) (x6_2 : Int), v3 = .int .i64 x3_2 ∧ v6 = .int .i64 x6_2 ∧ Aside0 (r10Depth.l1 kq x3_2 x6_2 a0_0 a0_1 a0_2 l0_3 l0_4 l0_5 = some r) ∧ Aside0 (kq ≤ k1) ∧ Aside0 (w'.heap[gb231]? = some (.cells #[.int .i64 a0_0, .int .i64 a0_1, .string a0_2, (.slice A0_3 l0_3.length c0_3), (.slice A0_4 l0_4.length c0_4), (.slice A0_5 l0_5.length c0_5)] 49 (0, 0))) ∧ Aside0 (Below w.heap.size w w'))
   case atStart => exact ⟨(x3_1), (0), tS, tS, H', ⟨Nat.le_refl _⟩, ⟨tK BK231⟩, ⟨tBs GE231⟩⟩
   case round =>
    clear H'
    try clear c3b0
    try clear hcz11
    obtain ⟨x3_2, x6_2, rfl, rfl, HA, HK2, BK231, HB⟩ := hrel
    cases gk with
    | zero => exact absurd HA.out (by simp [r10Depth.l1])
    | succ k2 =>
     have H := HA.out
     clear HA
     simp only [r10Depth.l1] at H
     replace H := iD H
     rcases H with ⟨c12b0, H⟩ | ⟨c12b0, H⟩
     ·have H' := Aside0.mk H
      clear H
      have hcz13 := cz6 BK231.out
      go_wp2
      go_loopg [3, 7] k2 (fun kq v3 v7 w' => ∃ (x3_3 : Int) (x7_3 : Int), v3 = .int .i64 x3_3 ∧ v7 = .int .i64 x7_3 ∧ Aside0 (r10Depth.l2 kq x3_3 x6_2 x7_3 a0_0 a0_1 a0_2 l0_3 l0_4 l0_5 = some r) ∧ Aside0 (kq ≤ k2) ∧ Aside0 (w'.heap[gb231]? = some (.cells #[.int .i64 a0_0, .int .i64 a0_1, .string a0_2, (.slice A0_3 l0_3.length c0_3), (.slice A0_4 l0_4.length c0_4), (.slice A0_5 l0_5.length c0_5)] 49 (0, 0))) ∧ Aside0 (Below w.heap.size w w'))
      case atStart => exact ⟨(x3_2), (0), tS, tS, H', ⟨Nat.le_refl _⟩, ⟨tK BK231⟩, ⟨tBs GE231⟩⟩
      case round =>
       clear H'
       try clear c3b0
       try clear c12b0
       try clear hcz11
       try clear hcz13
       obtain ⟨x3_3, x7_3, rfl, rfl, HA, HK3, BK231, HB⟩ := hrel
       cases gk with
       | zero => exact absurd HA.out (by simp [r10Depth.l2])
       | succ k3 =>
        have H := HA.out
        clear HA
        simp only [r10Depth.l2] at H
        replace H := niD H
        obtain ⟨c14b0, H⟩ := H
        replace H := niD H
        obtain ⟨c15b0, H⟩ := H
        replace H := iD H
        rcases H with ⟨c16b0, H⟩ | ⟨c16b0, H⟩
        ·replace H := niD H
         obtain ⟨c17b0, H⟩ := H
         replace H := iX H
         obtain ⟨t237, A18, H⟩ := H
         replace H := iH H
         rcases H with ⟨c19b0, H⟩ | ⟨c19b0, H⟩
         ·exact r10Depth.z1
         exact r10Depth.z1
        have H' := Aside0.mk H
        clear H
        have hcz24 := cz6 BK231.out
        obtain ⟨p234, q234, ad234, A234_0, c234_0, A234_1, c234_1, rfl, hx234_0, hx234_1, HC234_0, HR234_0, HC234_1, HR234_1⟩ := at_B90 HR0_5 HB x6_2
        go_wp2
        go_roundg k3
        case measure => have := HK1.out; have := HK2.out; have := HK3.out; omega
        case rel => exact ⟨(x3_3), (wrap64 (x6_2 + 1)), tS, tS, H', ⟨by have := HK1.out; have := HK2.out; have := HK3.out; omega⟩, ⟨tK BK231⟩, ⟨tBs GE231⟩⟩
     obtain rfl := Option.some.inj H
     have hcz25 := cz6 BK231.out
     go_wp2
     go_ret
     exact ⟨tE, by repeat (first | (with_reducible first | exact HB.out | apply below_alloc | apply pw_below_drewN | apply below_drew1 | refine below_set ?_ GE231.out) | exact HB.out)⟩
mutual
def r10Size.l0 : Nat → Int → Int → Int → Int → ByteArray → List (S113) → List (S49) → List (S90) → Option (Int)
  | 0, _, _, _, _, _, _, _, _ => none
  | k + 1, x3, x4, x239000, x239001, x239002, x239003, x239004, x239005 => if x4 < (x239004.length : Int) then (if 0 ≤ x4 then ((r10Size.f k ((rd_T49 x239004 x4).f0) ((rd_T49 x239004 x4).f1) ((rd_T49 x239004 x4).f2) ((rd_T49 x239004 x4).f3) ((rd_T49 x239004 x4).f4) ((rd_T49 x239004 x4).f5)).bind fun t240 => (r10Size.l0 k (wrap64 (x3 + t240)) (wrap64 (x4 + 1)) x239000 x239001 x239002 x239003 x239004 x239005)) else (none)) else (r10Size.l1 k x3 0 x239000 x239001 x239002 x239003 x239004 x239005)
def r10Size.l1 : Nat → Int → Int → Int → Int → ByteArray → List (S113) → List (S49) → List (S90) → Option (Int)
  | 0, _, _, _, _, _, _, _, _ => none
  | k + 1, x3, x5, x239000, x239001, x239002, x239003, x239004, x239005 => if x5 < (x239005.length : Int) then (r10Size.l2 k x3 x5 0 x239000 x239001 x239002 x239003 x239004 x239005) else (some x3)
def r10Size.l2 : Nat → Int → Int → Int → Int → Int → ByteArray → List (S113) → List (S49) → List (S90) → Option (Int)
  | 0, _, _, _, _, _, _, _, _, _ => none
  | k + 1, x3, x5, x6, x239000, x239001, x239002, x239003, x239004, x239005 => if 0 ≤ x5 then (if x5 < (x239005.length : Int) then (if x6 < (((rd_T90 x239005 x5).f1).length : Int) then (if 0 ≤ x6 then ((r10Size.f k ((rd_T49 ((rd_T90 x239005 x5).f1) x6).f0) ((rd_T49 ((rd_T90 x239005 x5).f1) x6).f1) ((rd_T49 ((rd_T90 x239005 x5).f1) x6).f2) ((rd_T49 ((rd_T90 x239005 x5).f1) x6).f3) ((rd_T49 ((rd_T90 x239005 x5).f1) x6).f4) ((rd_T49 ((rd_T90 x239005 x5).f1) x6).f5)).bind fun t244 => (r10Size.l2 k (wrap64 (x3 + t244)) x5 (wrap64 (x6 + 1)) x239000 x239001 x239002 x239003 x239004 x239005)) else (none)) else (r10Size.l1 k x3 (wrap64 (x5 + 1)) x239000 x239001 x239002 x239003 x239004 x239005)) else (none)) else (none)
def r10Size.f : Nat → Int → Int → ByteArray → List (S113) → List (S49) → List (S90) → Option (Int)
  | 0, _, _, _, _, _, _ => none
  | k + 1, a0_0, a0_1, a0_2, l0_3, l0_4, l0_5 => r10Size.l0 k 1 0 a0_0 a0_1 a0_2 l0_3 l0_4 l0_5
end
set_option maxHeartbeats 8000000 in
set_option maxRecDepth 100000 in
theorem r10Size.calls (k : Nat) : ∀ (a0_0 : Int) (a0_1 : Int) (a0_2 : ByteArray) (A0_3 : Option Addr) (c0_3 : Nat) (l0_3 : List (S113)) (A0_4 : Option Addr) (c0_4 : Nat) (l0_4 : List (S49)) (A0_5 : Option Addr) (c0_5 : Nat) (l0_5 : List (S90)) (r : Int) (w : World) (hr0_3 : Kd.C k113 w A0_3 l0_3.length l0_3) (hc0_3 : l0_3.length ≤ c0_3) (hr0_4 : Kd.C k49 w A0_4 l0_4.length l0_4) (hc0_4 : l0_4.length ≤ c0_4) (hr0_5 : Kd.C k90 w A0_5 l0_5.length l0_5) (hc0_5 : l0_5.length ≤ c0_5) (h : r10Size.f k a0_0 a0_1 a0_2 l0_3 l0_4 l0_5 = some r),
  Calls Tryz.prog 62 #[.agg #[.int .i64 a0_0, .int .i64 a0_1, .string a0_2, .slice A0_3 l0_3.length c0_3, .slice A0_4 l0_4.length c0_4, .slice A0_5 l0_5.length c0_5]] w fun e w' => e = .returned (.int .i64 r) ∧ Below w.heap.size w w' := by
 induction k using Nat.strongRecOn with
 | _ k ih =>
 intro a0_0 a0_1 a0_2 A0_3 c0_3 l0_3 A0_4 c0_4 l0_4 A0_5 c0_5 l0_5 r w hr0_3 hc0_3 hr0_4 hc0_4 hr0_5 hc0_5 h
 cases k with
 | zero => exact absurd h (by simp [r10Size.f])
 | succ k =>
 simp only [r10Size.f] at h
 have hu49 := Tryz.underlying49
 have HR0_3 := Aside0.mk hr0_3
 have HC0_3 := Aside0.mk hc0_3
 clear hr0_3 hc0_3
 have HR0_4 := Aside0.mk hr0_4
 have HC0_4 := Aside0.mk hc0_4
 clear hr0_4 hc0_4
 have HR0_5 := Aside0.mk hr0_5
 have HC0_5 := Aside0.mk hc0_5
 clear hr0_5 hc0_5
 have HB := Aside0.mk (Below.refl w.heap.size w)
 have H : (r10Size.l0 k 1 0 a0_0 a0_1 a0_2 l0_3 l0_4 l0_5) = some r := h
 clear h
 have H' := Aside0.mk H
 clear H
 go_enter Tryz.func62, Tryz.ntmps62
 go_wp2_with (first | ((with_reducible refine gd_ 1 rfl ?_); refine boxE 1 #[.int .i64 a0_0, .int .i64 a0_1, .string a0_2, .slice A0_3 l0_3.length c0_3, .slice A0_4 l0_4.length c0_4, .slice A0_5 l0_5.length c0_5] 49 ?_; intro gb238 hg w2 hbox hb; have BK238 := Aside0.mk (hbox); have GW238 := Aside0.mk (tG : w.heap.size ≤ gb238); have GE238 := Aside0.mk (tG : w.heap.size ≤ gb238); replace HB := Aside0.mk (below_step tB hb); clear hb hbox hg))
 go_loopg [3, 4] k (fun kq v3 v4 w' => ∃ (x3_1 : Int) (x4_1 : Int), v3 = .int .i64 x3_1 ∧ v4 = .int .i64 x4_1 ∧ Aside0 (r10Size.l0 kq x3_1 x4_1 a0_0 a0_1 a0_2 l0_3 l0_4 l0_5 = some r) ∧ Aside0 (kq ≤ k) ∧ Aside0 (w'.heap[gb238]? = some (.cells #[.int .i64 a0_0, .int .i64 a0_1, .string a0_2, (.slice A0_3 l0_3.length c0_3), (.slice A0_4 l0_4.length c0_4), (.slice A0_5 l0_5.length c0_5)] 49 (0, 0))) ∧ Aside0 (Below w.heap.size w w'))
 case atStart => exact ⟨(1), (0), tS, tS, H', ⟨Nat.le_refl _⟩, ⟨tK BK238⟩, ⟨tBs GE238⟩⟩
 case round =>
  clear H'
  obtain ⟨x3_1, x4_1, rfl, rfl, HA, HK1, BK238, HB⟩ := hrel
  cases gk with
  | zero => exact absurd HA.out (by simp [r10Size.l0])
  | succ k1 =>
   have H := HA.out
   clear HA
   simp only [r10Size.l0] at H
   replace H := iD H
   rcases H with ⟨c3b0, H⟩ | ⟨c3b0, H⟩
   ·replace H := niD H
    obtain ⟨c4b0, H⟩ := H
    replace H := iX H
    obtain ⟨t240, A5, H⟩ := H
    have H' := Aside0.mk H
    clear H
    have hcz6 := cz6 BK238.out
    obtain ⟨p239, q239, ad239, A239_3, c239_3, A239_4, c239_4, A239_5, c239_5, rfl, hx239_0, hx239_1, hx239_2, hx239_3, hx239_4, hx239_5, HC239_3, HR239_3, HC239_4, HR239_4, HC239_5, HR239_5⟩ := at_B49 HR0_4 HB x4_1
    go_wp2_with (first | ((with_reducible refine gf_ 62 rfl ?_); refine gC_ (some 20) Tryz.func62 #[.agg #[.int .i64 ((rd_T49 l0_4 x4_1).f0), .int .i64 ((rd_T49 l0_4 x4_1).f1), .string ((rd_T49 l0_4 x4_1).f2), .slice A239_3 ((rd_T49 l0_4 x4_1).f3).length c239_3, .slice A239_4 ((rd_T49 l0_4 x4_1).f4).length c239_4, .slice A239_5 ((rd_T49 l0_4 x4_1).f5).length c239_5]] ?_; (with_reducible refine (ih k1 (by have := HK1.out; omega) ((rd_T49 l0_4 x4_1).f0) ((rd_T49 l0_4 x4_1).f1) ((rd_T49 l0_4 x4_1).f2) _ _ ((rd_T49 l0_4 x4_1).f3) _ _ ((rd_T49 l0_4 x4_1).f4) _ _ ((rd_T49 l0_4 x4_1).f5) t240 _ ?side1 ?side2 ?side3 ?side4 ?side5 ?side6 A5.out).mono ?_); (case side1 => exact tCb HR239_3 HB); (case side2 => exact HC239_3.out); (case side3 => exact tCb HR239_4 HB); (case side4 => exact HC239_4.out); (case side5 => exact tCb HR239_5 HB); (case side6 => exact HC239_5.out); rintro e w7 ⟨rfl, hb⟩; refine ⟨_, rfl, ?_⟩; replace BK238 := Aside0.mk (blk_below (g := gb238) (o := .cells #[.int .i64 a0_0, .int .i64 a0_1, .string a0_2, .slice A0_3 l0_3.length c0_3, .slice (some ad239) l0_4.length c0_4, .slice A0_5 l0_5.length c0_5] 49 (0, 0)) (tK BK238) hb); replace HB := Aside0.mk (below_step (tBs GE238) hb); (try clear hb)))
    go_roundg k1
    case measure => have := HK1.out; omega
    case rel => exact ⟨(wrap64 (x3_1 + t240)), (wrap64 (x4_1 + 1)), tS, tS, H', ⟨by have := HK1.out; omega⟩, ⟨tK BK238⟩, ⟨tBs GE238⟩⟩
   have H' := Aside0.mk H
   clear H
   have hcz8 := cz6 BK238.out
   go_wp2
   go_loopg [3, 5] k1 (fun kq v3 v5 w' => ∃ (x3_2 : Int) (x5_2 : Int), v3 = .int .i64 x3_2 ∧ v5 = .int .i64 x5_2 ∧ Aside0 (r10Size.l1 kq x3_2 x5_2 a0_0 a0_1 a0_2 l0_3 l0_4 l0_5 = some r) ∧ Aside0 (kq ≤ k1) ∧ Aside0 (w'.heap[gb238]? = some (.cells #[.int .i64 a0_0, .int .i64 a0_1, .string a0_2, (.slice A0_3 l0_3.length c0_3), (.slice A0_4 l0_4.length c0_4), (.slice A0_5 l0_5.length c0_5)] 49 (0, 0))) ∧ Aside0 (Below w.heap.size w w'))
   case atStart => exact ⟨(x3_1), (0), tS, tS, H', ⟨Nat.le_refl _⟩, ⟨tK BK238⟩, ⟨tBs GE238⟩⟩
   case round =>
    clear H'
    try clear c3b0
    try clear hcz8
    obtain ⟨x3_2, x5_2, rfl, rfl, HA, HK2, BK238, HB⟩ := hrel
    cases gk with
    | zero => exact absurd HA.out (by simp [r10Size.l1])
    | succ k2 =>
     have H := HA.out
     clear HA
     simp only [r10Size.l1] at H
     replace H := iD H
     rcases H with ⟨c9b0, H⟩ | ⟨c9b0, H⟩
     ·have H' := Aside0.mk H
      clear H
      have hcz10 := cz6 BK238.out
      go_wp2
      go_loopg [3, 6] k2 (fun kq v3 v6 w' => ∃ (x3_3 : Int) (x6_3 : Int), v3 = .int .i64 x3_3 ∧ v6 = .int .i64 x6_3 ∧ Aside0 (r10Size.l2 kq x3_3 x5_2 x6_3 a0_0 a0_1 a0_2 l0_3 l0_4 l0_5 = some r) ∧ Aside0 (kq ≤ k2) ∧ Aside0 (w'.heap[gb238]? = some (.cells #[.int .i64 a0_0, .int .i64 a0_1, .string a0_2, (.slice A0_3 l0_3.length c0_3), (.slice A0_4 l0_4.length c0_4), (.slice A0_5 l0_5.length c0_5)] 49 (0, 0))) ∧ Aside0 (Below w.heap.size w w'))
      case atStart => exact ⟨(x3_2), (0), tS, tS, H', ⟨Nat.le_refl _⟩, ⟨tK BK238⟩, ⟨tBs GE238⟩⟩
      case round =>
       clear H'
       try clear c3b0
       try clear c9b0
       try clear hcz10
       try clear hcz8
       obtain ⟨x3_3, x6_3, rfl, rfl, HA, HK3, BK238, HB⟩ := hrel
       cases gk with
       | zero => exact absurd HA.out (by simp [r10Size.l2])
       | succ k3 =>
        have H := HA.out
        clear HA
        simp only [r10Size.l2] at H
        replace H := niD H
        obtain ⟨c11b0, H⟩ := H
        replace H := niD H
        obtain ⟨c12b0, H⟩ := H
        replace H := iD H
        rcases H with ⟨c13b0, H⟩ | ⟨c13b0, H⟩
        ·replace H := niD H
         obtain ⟨c14b0, H⟩ := H
         replace H := iX H
         obtain ⟨t244, A15, H⟩ := H
         have H' := Aside0.mk H
         clear H
         have hcz16 := cz6 BK238.out
         obtain ⟨p241, q241, ad241, A241_0, c241_0, A241_1, c241_1, rfl, hx241_0, hx241_1, HC241_0, HR241_0, HC241_1, HR241_1⟩ := at_B90 HR0_5 HB x5_2
         obtain ⟨p242, q242, ad242, A242_0, c242_0, A242_1, c242_1, e242, hx242_0, hx242_1, HC242_0, HR242_0, HC242_1, HR242_1⟩ := at_B90 HR0_5 HB x5_2
         obtain rfl : ad241 = ad242 := (by injection e242)
         obtain ⟨rfl, rfl⟩ := slI hx241_0 hx242_0
         obtain ⟨rfl, rfl⟩ := slI hx241_1 hx242_1
         obtain ⟨p243, q243, ad243, A243_3, c243_3, A243_4, c243_4, A243_5, c243_5, rfl, hx243_0, hx243_1, hx243_2, hx243_3, hx243_4, hx243_5, HC243_3, HR243_3, HC243_4, HR243_4, HC243_5, HR243_5⟩ := at_B49 HR242_1 HB x6_3
         go_wp2_with (first | ((with_reducible refine gf_ 62 rfl ?_); refine gC_ (some 50) Tryz.func62 #[.agg #[.int .i64 ((rd_T49 ((rd_T90 l0_5 x5_2).f1) x6_3).f0), .int .i64 ((rd_T49 ((rd_T90 l0_5 x5_2).f1) x6_3).f1), .string ((rd_T49 ((rd_T90 l0_5 x5_2).f1) x6_3).f2), .slice A243_3 ((rd_T49 ((rd_T90 l0_5 x5_2).f1) x6_3).f3).length c243_3, .slice A243_4 ((rd_T49 ((rd_T90 l0_5 x5_2).f1) x6_3).f4).length c243_4, .slice A243_5 ((rd_T49 ((rd_T90 l0_5 x5_2).f1) x6_3).f5).length c243_5]] ?_; (with_reducible refine (ih k3 (by have := HK1.out; have := HK2.out; have := HK3.out; omega) ((rd_T49 ((rd_T90 l0_5 x5_2).f1) x6_3).f0) ((rd_T49 ((rd_T90 l0_5 x5_2).f1) x6_3).f1) ((rd_T49 ((rd_T90 l0_5 x5_2).f1) x6_3).f2) _ _ ((rd_T49 ((rd_T90 l0_5 x5_2).f1) x6_3).f3) _ _ ((rd_T49 ((rd_T90 l0_5 x5_2).f1) x6_3).f4) _ _ ((rd_T49 ((rd_T90 l0_5 x5_2).f1) x6_3).f5) t244 _ ?side1 ?side2 ?side3 ?side4 ?side5 ?side6 A15.out).mono ?_); (case side1 => exact tCb HR243_3 HB); (case side2 => exact HC243_3.out); (case side3 => exact tCb HR243_4 HB); (case side4 => exact HC243_4.out); (case side5 => exact tCb HR243_5 HB); (case side6 => exact HC243_5.out); rintro e w17 ⟨rfl, hb⟩; refine ⟨_, rfl, ?_⟩; replace BK238 := Aside0.mk (blk_below (g := gb238) (o := .cells #[.int .i64 a0_0, .int .i64 a0_1, .string a0_2, .slice A0_3 l0_3.length c0_3, .slice A0_4 l0_4.length c0_4, .slice (some ad241) l0_5.length c0_5] 49 (0, 0)) (tK BK238) hb); replace HB := Aside0.mk (below_step (tBs GE238) hb); (try clear hb)))
         go_roundg k3
         case measure => have := HK1.out; have := HK2.out; have := HK3.out; omega
         case rel => exact ⟨(wrap64 (x3_3 + t244)), (wrap64 (x6_3 + 1)), tS, tS, H', ⟨by have := HK1.out; have := HK2.out; have := HK3.out; omega⟩, ⟨tK BK238⟩, ⟨tBs GE238⟩⟩
        have H' := Aside0.mk H
        clear H
        have hcz18 := cz6 BK238.out
        obtain ⟨p241, q241, ad241, A241_0, c241_0, A241_1, c241_1, rfl, hx241_0, hx241_1, HC241_0, HR241_0, HC241_1, HR241_1⟩ := at_B90 HR0_5 HB x5_2
        go_wp2
        go_roundg k3
        case measure => have := HK1.out; have := HK2.out; have := HK3.out; omega
        case rel => exact ⟨(x3_3), (wrap64 (x5_2 + 1)), tS, tS, H', ⟨by have := HK1.out; have := HK2.out; have := HK3.out; omega⟩, ⟨tK BK238⟩, ⟨tBs GE238⟩⟩
     obtain rfl := Option.some.inj H
     have hcz19 := cz6 BK238.out
     go_wp2
     go_ret
     exact ⟨tE, by repeat (first | (with_reducible first | exact HB.out | apply below_alloc | apply pw_below_drewN | apply below_drew1 | refine below_set ?_ GE238.out) | exact HB.out)⟩
def r10sized.f (k : Nat) (a0_0 : Int) (a0_1 : Int) (a0_2 : ByteArray) (l0_3 : List (S113)) (l0_4 : List (S49)) (l0_5 : List (S90)) : Option (Int) := (r10Depth.f k a0_0 a0_1 a0_2 l0_3 l0_4 l0_5).bind fun t246 => (if t246 > 200 then (some 62) else ((r10Size.f k a0_0 a0_1 a0_2 l0_3 l0_4 l0_5).bind fun t247 => (if t247 > 20000 then (some 221) else (some 0))))
theorem r10sized.z0 {p : Prop} (h_ : p := by go_wp2_with (first | ((with_reducible refine gd_ 1 rfl ?_); refine boxE 1 #[.int .i64 a0_0, .int .i64 a0_1, .string a0_2, .slice A0_3 l0_3.length c0_3, .slice A0_4 l0_4.length c0_4, .slice A0_5 l0_5.length c0_5] 49 ?_; intro gb245 hg wa hbox hb; have BK245 := Aside0.mk (hbox); have GW245 := Aside0.mk (tG : w.heap.size ≤ gb245); have GE245 := Aside0.mk (tG : w.heap.size ≤ gb245); replace HB := Aside0.mk (below_step tB hb); clear hb hbox hg; have hcza := cz6 BK245.out) | ((with_reducible refine gf_ 61 rfl ?_); refine gC_ (some 4) Tryz.func61 #[.agg #[.int .i64 a0_0, .int .i64 a0_1, .string a0_2, .slice A0_3 l0_3.length c0_3, .slice A0_4 l0_4.length c0_4, .slice A0_5 l0_5.length c0_5]] ?_; (with_reducible refine (r10Depth.calls k a0_0 a0_1 a0_2 _ _ l0_3 _ _ l0_4 _ _ l0_5 t246 _ ?side1 ?side2 ?side3 ?side4 ?side5 ?side6 A2.out).mono ?_); (case side1 => exact tCb HR0_3 HB); (case side2 => exact HC0_3.out); (case side3 => exact tCb HR0_4 HB); (case side4 => exact HC0_4.out); (case side5 => exact tCb HR0_5 HB); (case side6 => exact HC0_5.out); rintro e wa ⟨rfl, hb⟩; refine ⟨_, rfl, ?_⟩; replace BK245 := Aside0.mk (blk_below (g := gb245) (o := .cells #[.int .i64 a0_0, .int .i64 a0_1, .string a0_2, .slice A0_3 l0_3.length c0_3, .slice A0_4 l0_4.length c0_4, .slice A0_5 l0_5.length c0_5] 49 (0, 0)) (tK BK245) hb); replace HB := Aside0.mk (below_step (tBs GE245) hb); (try clear hb); have hcza := cz6 BK245.out) | ((with_reducible refine gf_ 62 rfl ?_); refine gC_ (some 7) Tryz.func62 #[.agg #[.int .i64 a0_0, .int .i64 a0_1, .string a0_2, .slice A0_3 l0_3.length c0_3, .slice A0_4 l0_4.length c0_4, .slice A0_5 l0_5.length c0_5]] ?_; (with_reducible refine (r10Size.calls k a0_0 a0_1 a0_2 _ _ l0_3 _ _ l0_4 _ _ l0_5 t247 _ ?side1 ?side2 ?side3 ?side4 ?side5 ?side6 A7.out).mono ?_); (case side1 => exact tCb HR0_3 HB); (case side2 => exact HC0_3.out); (case side3 => exact tCb HR0_4 HB); (case side4 => exact HC0_4.out); (case side5 => exact tCb HR0_5 HB); (case side6 => exact HC0_5.out); rintro e wa ⟨rfl, hb⟩; refine ⟨_, rfl, ?_⟩; replace BK245 := Aside0.mk (blk_below (g := gb245) (o := .cells #[.int .i64 a0_0, .int .i64 a0_1, .string a0_2, .slice A0_3 l0_3.length c0_3, .slice A0_4 l0_4.length c0_4, .slice A0_5 l0_5.length c0_5] 49 (0, 0)) (tK BK245) hb); replace HB := Aside0.mk (below_step (tBs GE245) hb); (try clear hb)) | ((with_reducible refine gf_ 61 rfl ?_); refine gC_ (some 4) Tryz.func61 #[.agg #[.int .i64 a0_0, .int .i64 a0_1, .string a0_2, .slice A0_3 l0_3.length c0_3, .slice A0_4 l0_4.length c0_4, .slice A0_5 l0_5.length c0_5]] ?_; (with_reducible refine (r10Depth.calls k a0_0 a0_1 a0_2 _ _ l0_3 _ _ l0_4 _ _ l0_5 t246 _ ?side1 ?side2 ?side3 ?side4 ?side5 ?side6 A2.out).mono ?_); (case side1 => exact tCb HR0_3 HB); (case side2 => exact HC0_3.out); (case side3 => exact tCb HR0_4 HB); (case side4 => exact HC0_4.out); (case side5 => exact tCb HR0_5 HB); (case side6 => exact HC0_5.out); rintro e wa ⟨rfl, hb⟩; refine ⟨_, rfl, ?_⟩; replace BK245 := Aside0.mk (blk_below (g := gb245) (o := .cells #[.int .i64 a0_0, .int .i64 a0_1, .string a0_2, .slice A0_3 l0_3.length c0_3, .slice A0_4 l0_4.length c0_4, .slice A0_5 l0_5.length c0_5] 49 (0, 0)) (tK BK245) hb); replace HB := Aside0.mk (below_step (tBs GE245) hb); (try clear hb))); go_ret; exact ⟨tE, by repeat (first | (with_reducible first | exact HB.out | apply below_alloc | apply pw_below_drewN | apply below_drew1 | refine below_set ?_ GE245.out) | exact HB.out)⟩) : p := h_
set_option maxHeartbeats 8000000 in
set_option maxRecDepth 100000 in
theorem r10sized.calls (k : Nat) (a0_0 : Int) (a0_1 : Int) (a0_2 : ByteArray) (A0_3 : Option Addr) (c0_3 : Nat) (l0_3 : List (S113)) (A0_4 : Option Addr) (c0_4 : Nat) (l0_4 : List (S49)) (A0_5 : Option Addr) (c0_5 : Nat) (l0_5 : List (S90)) (r : Int) (w : World) (hr0_3 : Kd.C k113 w A0_3 l0_3.length l0_3) (hc0_3 : l0_3.length ≤ c0_3) (hr0_4 : Kd.C k49 w A0_4 l0_4.length l0_4) (hc0_4 : l0_4.length ≤ c0_4) (hr0_5 : Kd.C k90 w A0_5 l0_5.length l0_5) (hc0_5 : l0_5.length ≤ c0_5) (h : r10sized.f k a0_0 a0_1 a0_2 l0_3 l0_4 l0_5 = some r) :
  Calls Tryz.prog 43 #[.agg #[.int .i64 a0_0, .int .i64 a0_1, .string a0_2, .slice A0_3 l0_3.length c0_3, .slice A0_4 l0_4.length c0_4, .slice A0_5 l0_5.length c0_5]] w fun e w' => e = .returned (.int .i64 r) ∧ Below w.heap.size w w' := by
 have hu49 := Tryz.underlying49
 have HR0_3 := Aside0.mk hr0_3
 have HC0_3 := Aside0.mk hc0_3
 clear hr0_3 hc0_3
 have HR0_4 := Aside0.mk hr0_4
 have HC0_4 := Aside0.mk hc0_4
 clear hr0_4 hc0_4
 have HR0_5 := Aside0.mk hr0_5
 have HC0_5 := Aside0.mk hc0_5
 clear hr0_5 hc0_5
 have HB := Aside0.mk (Below.refl w.heap.size w)
 have H : ((r10Depth.f k a0_0 a0_1 a0_2 l0_3 l0_4 l0_5).bind fun t246 => (if t246 > 200 then (some 62) else ((r10Size.f k a0_0 a0_1 a0_2 l0_3 l0_4 l0_5).bind fun t247 => (if t247 > 20000 then (some 221) else (some 0))))) = some r := h
 clear h
 replace H := iX H
 obtain ⟨t246, A2, H⟩ := H
 replace H := iH H
 rcases H with ⟨c3b0, H⟩ | ⟨c3b0, H⟩
 ·obtain rfl := Option.some.inj H
  go_enter Tryz.func43, Tryz.ntmps43
  exact r10sized.z0
 replace H := iX H
 obtain ⟨t247, A7, H⟩ := H
 replace H := iH H
 rcases H with ⟨c8b0, H⟩ | ⟨c8b0, H⟩
 ·obtain rfl := Option.some.inj H
  go_enter Tryz.func43, Tryz.ntmps43
  exact r10sized.z0
 obtain rfl := Option.some.inj H
 go_enter Tryz.func43, Tryz.ntmps43
 exact r10sized.z0
def r10Parts.f (a0 : Int) : Option (Int) := if a0 = 16 then (some 2) else (if a0 = 15 then (some 1) else (if a0 = 17 then (some 1) else (if a0 = 18 then (some 1) else (some 0))))
set_option maxHeartbeats 8000000 in
set_option maxRecDepth 100000 in
theorem r10Parts.calls (a0 : Int) (r : Int) (w : World) (h : r10Parts.f a0 = some r) :
  Calls Tryz.prog 47 #[.int .i64 a0] w fun e w' => e = .returned (.int .i64 r) ∧ Drawn0 w w' := by
 have H : (if a0 = 16 then (some 2) else (if a0 = 15 then (some 1) else (if a0 = 17 then (some 1) else (if a0 = 18 then (some 1) else (some 0))))) = some r := h
 clear h
 replace H := iE H
 rcases H with ⟨c2b0, c2b1, H⟩ | ⟨c2, c2b0, c2b1, H⟩
 ·obtain rfl := Option.some.inj H
  go_enter Tryz.func47, Tryz.ntmps47
  exact zz0
 replace H := iE H
 rcases H with ⟨c3b0, c3b1, H⟩ | ⟨c3, c3b0, c3b1, H⟩
 ·obtain rfl := Option.some.inj H
  go_enter Tryz.func47, Tryz.ntmps47
  exact zz0
 replace H := iE H
 rcases H with ⟨c4b0, c4b1, H⟩ | ⟨c4, c4b0, c4b1, H⟩
 ·obtain rfl := Option.some.inj H
  go_enter Tryz.func47, Tryz.ntmps47
  exact zz0
 replace H := iE H
 rcases H with ⟨c5b0, c5b1, H⟩ | ⟨c5, c5b0, c5b1, H⟩
 ·obtain rfl := Option.some.inj H
  go_enter Tryz.func47, Tryz.ntmps47
  exact zz0
 obtain rfl := Option.some.inj H
 go_enter Tryz.func47, Tryz.ntmps47
 exact zz0
def r10Kids.f (a0 : Int) : Option Int := some (kidsI a0)
theorem r10Kids.calls (a0 : Int) (r : Int) (w : World) (h : r10Kids.f a0 = some r) :
    Calls Tryz.prog 63 #[.int .i64 a0] w fun e w' => e = .returned (.int .i64 r) ∧ Below w.heap.size w w' := by
 obtain rfl := Option.some.inj h
 exact ref10_Kids a0 w
end
end Go.Proofs.YtahdjajdaggmjaaGreatDoor.XPa
end
