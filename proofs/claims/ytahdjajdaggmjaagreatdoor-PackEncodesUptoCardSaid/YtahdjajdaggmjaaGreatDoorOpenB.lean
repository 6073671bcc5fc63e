-- Written for this claim by a program of ours (wip/xp.py), out of the translation and of hand-written contracts.
import Derived.Test.YtahdjajdaggmjaaGreatDoorSx
import Derived.Test.YtahdjajdaggmjaaGreatDoorYrec
import Derived.Test.YtahdjajdaggmjaaGreatDoorYdec
import Derived.Test.YtahdjajdaggmjaaGreatDoorZrall
import Derived.Test.YtahdjajdaggmjaaGreatDoorZwr
import Derived.Test.YtahdjajdaggmjaaGreatDoorXPax9
import Derived.Test.YtahdjajdaggmjaaGreatDoorXPax13
import Derived.Test.YtahdjajdaggmjaaGreatDoorXPax17
import Derived.Test.YtahdjajdaggmjaaGreatDoorXPax18
import Derived.Test.YtahdjajdaggmjaaGreatDoorXPax3
import Derived.Test.YtahdjajdaggmjaaGreatDoorXPax2
import Derived.Test.YtahdjajdaggmjaaGreatDoorXPax4
import Derived.Test.YtahdjajdaggmjaaGreatDoorXPax6
import Derived.Test.YtahdjajdaggmjaaGreatDoorXPax8
import Derived.Test.YtahdjajdaggmjaaGreatDoorXPax11
import Derived.Test.YtahdjajdaggmjaaGreatDoorXPax15
import Derived.Test.YtahdjajdaggmjaaGreatDoorXPax16
import Derived.Deep.Slices
import Derived.Lib.SmallJoins
import Derived.ChangeSame
import Derived.ChangeOld
import Derived.OpenShut
import Derived.Test.YtahdjajdaggmjaaGreatDoorWWords
section
namespace Go.Proofs.YtahdjajdaggmjaaGreatDoor.XPa
noncomputable section
open Go.RowKit Go.Proofs.YtahdjajdaggmjaaGreatDoorW.PrintWords Go.Proofs.YtahdjajdaggmjaaGreatDoorW.PrintLast Go.Proofs.YtahdjajdaggmjaaGreatDoorW.PrintMore
attribute [local go_sem] max2_int min2_int max_two min_two max_three min_three max_four min_four
set_option linter.unusedVariables false
set_option linter.unusedSimpArgs false
mutual
def r36Encode.l0 : Nat → List (S51) → Int → Option (List Int × Int)
  | 0, _, _ => none
  | k + 1, x0, x4 => if x4 < (x0.length : Int) then (if 0 ≤ x4 then ((r08Named.f k ((rd_T51 x0 x4).f0)).bind fun t367 => (if t367 = true then (r36Encode.l1 k x0 x4 0) else (some (([] : List Int), 61)))) else (none)) else ((some (([72, 67, 1] : List Int) : List Int)).bind fun y370 => ((r36number.f k (x0.length : Int)).bind fun t373 => (if y370.length + t373.length < 140737488355328 then (r36Encode.l2 k x0 (y370 ++ t373) 0) else (none))))
def r36Encode.l1 : Nat → List (S51) → Int → Int → Option (List Int × Int)
  | 0, _, _, _ => none
  | k + 1, x0, x4, x5 => if x5 < x4 then (if 0 ≤ x5 then (if x5 < (x0.length : Int) then (if 0 ≤ x4 then (if x4 < (x0.length : Int) then (if ((rd_T51 x0 x5).f0).toList = ((rd_T51 x0 x4).f0).toList then (some (([] : List Int), 61)) else (r36Encode.l1 k x0 x4 (wrap64 (x5 + 1)))) else (none)) else (none)) else (none)) else (none)) else (r36Encode.l0 k x0 (wrap64 (x4 + 1)))
def r36Encode.l2 : Nat → List (S51) → List Int → Int → Option (List Int × Int)
  | 0, _, _, _ => none
  | k + 1, x0, x6, x7 => if x7 < (x0.length : Int) then (if 0 ≤ x7 then ((r10Right.f k ((rd_T51 x0 x7).f1.f0) ((rd_T51 x0 x7).f1.f1) ((rd_T51 x0 x7).f1.f2) ((rd_T51 x0 x7).f1.f3) ((rd_T51 x0 x7).f1.f4) ((rd_T51 x0 x7).f1.f5) 0 0).bind fun t387 => (if t387 = 0 then ((r10Right.f k ((rd_T51 x0 x7).f2.f0) ((rd_T51 x0 x7).f2.f1) ((rd_T51 x0 x7).f2.f2) ((rd_T51 x0 x7).f2.f3) ((rd_T51 x0 x7).f2.f4) ((rd_T51 x0 x7).f2.f5) 0 0).bind fun t389 => (r36Encode.j3 k x0 x6 x7 (t389 != 0))) else (r36Encode.j3 k x0 x6 x7 true))) else (none)) else ((r36Sum.f k x6).bind fun t379 => ((some (([(wrap64 (Int.tdiv t379 16777216)) % 256, (Int.tmod (wrap64 (Int.tdiv t379 65536)) 256) % 256, (Int.tmod (wrap64 (Int.tdiv t379 256)) 256) % 256, (Int.tmod t379 256) % 256] : List Int) : List Int)).bind fun y380 => (if x6.length + y380.length < 140737488355328 then ((some (x6 ++ y380 : List Int)).bind fun y383 => (if (y383.length : Int) > 1048576 then (some (([] : List Int), 3)) else (some (y383, 0)))) else (none))))
def r36Encode.j3 : Nat → List (S51) → List Int → Int → Bool → Option (List Int × Int)
  | 0, _, _, _, _ => none
  | k + 1, x0, x6, x7, x64 => if x64 = true then (some (([] : List Int), 100)) else (if 0 ≤ x7 then (if x7 < (x0.length : Int) then ((r36text.f ((rd_T51 x0 x7).f0)).bind fun t391 => (if x6.length + t391.length < 140737488355328 then ((some (x6 ++ t391 : List Int)).bind fun y394 => ((r36term.f k ((rd_T51 x0 x7).f1.f0) ((rd_T51 x0 x7).f1.f1) ((rd_T51 x0 x7).f1.f2) ((rd_T51 x0 x7).f1.f3) ((rd_T51 x0 x7).f1.f4) ((rd_T51 x0 x7).f1.f5)).bind fun t398 => (if y394.length + t398.length < 140737488355328 then ((some (y394 ++ t398 : List Int)).bind fun y401 => ((r36term.f k ((rd_T51 x0 x7).f2.f0) ((rd_T51 x0 x7).f2.f1) ((rd_T51 x0 x7).f2.f2) ((rd_T51 x0 x7).f2.f3) ((rd_T51 x0 x7).f2.f4) ((rd_T51 x0 x7).f2.f5)).bind fun t405 => (if y401.length + t405.length < 140737488355328 then (r36Encode.l2 k x0 (y401 ++ t405) (wrap64 (x7 + 1))) else (none)))) else (none)))) else (none))) else (none)) else (none))
end
def r36Encode.f (k : Nat) (l0 : List (S51)) : Option (List Int × Int) := r36Encode.l0 k l0 0
theorem r36Encode.z0 {p : Prop} (h_ : p := by go_wp2_with (first | (go_at_call 12; (with_reducible refine (r36Sum.calls k2 _ _ x6_2 t379 _ ?side1 ?side2 A48.out).mono ?_); (case side1 => exact tCr HO_6); (case side2 => exact (Kd.R_reads' HO_6.out).2.1); rintro e w' ⟨rfl, ⟨nd, rfl⟩⟩; (try first | exact ⟨rfl, _, World.drewN_drewN _ _ _⟩ | exact ⟨rfl, _, Eq.trans (World.drewN_drewN _ _ _) (congrArg (World.drewN _) (Nat.add_assoc _ _ _))⟩)) | ((with_reducible refine gate_dst (N := 106) rfl ?_); refine Kd.R_lit (Kd.int .u8) _ 5 ?hg (N := 106) ?hd (xs := ([(wrap64 (Int.tdiv t379 16777216)) % 256, (Int.tmod (wrap64 (Int.tdiv t379 65536)) 256) % 256, (Int.tmod (wrap64 (Int.tdiv t379 256)) 256) % 256, (Int.tmod t379 256) % 256] : List Int)) (inner := [.int .u8 ((wrap64 (Int.tdiv t379 16777216)) % 256), .int .u8 ((Int.tmod (wrap64 (Int.tdiv t379 65536)) 256) % 256), .int .u8 ((Int.tmod (wrap64 (Int.tdiv t379 256)) 256) % 256), .int .u8 ((Int.tmod t379 256) % 256)]) (ok := fun _ => True) (okp := fun _ => True) ?hr ?hp (fun _ hk => hk) trivial (Below.refl _ _) (Nat.le_refl _) (by simp) ?_; (case hd => rfl); (case hg => rfl); (case hr => first | (go_simp; done) | (go_simp; rfl)); (case hp => exact (Reps.one (show Kd.M (Kd.int .u8) _ _ _ ((wrap64 (Int.tdiv t379 16777216)) % 256) [.int .u8 ((wrap64 (Int.tdiv t379 16777216)) % 256)] from rfl) (Reps.one (show Kd.M (Kd.int .u8) _ _ _ ((Int.tmod (wrap64 (Int.tdiv t379 65536)) 256) % 256) [.int .u8 ((Int.tmod (wrap64 (Int.tdiv t379 65536)) 256) % 256)] from rfl) (Reps.one (show Kd.M (Kd.int .u8) _ _ _ ((Int.tmod (wrap64 (Int.tdiv t379 256)) 256) % 256) [.int .u8 ((Int.tmod (wrap64 (Int.tdiv t379 256)) 256) % 256)] from rfl) (Reps.one (show Kd.M (Kd.int .u8) _ _ _ ((Int.tmod t379 256) % 256) [.int .u8 ((Int.tmod t379 256) % 256)] from rfl) (Reps.none _ _)))))); intro v381 wa ho59 hb hg_ hnew_; clear hg_ hnew_; (first | rw [← Ny380.out] at ho59 | (simp only [Int.reduceToNat] at ho59; rw [← Ny380.out] at ho59)); have HO382 := Aside0.mk (Kd.R_lower (Kd.R_new' ho59 (Kd.R_lt (tR HO_6))) (below_size tB)); replace HO_6 := Aside0.mk (Kd.R_elder' (tR HO_6) (Kd.R_base ho59) hb); replace HB := Aside0.mk (below_step tB hb); clear hb ho59; obtain ⟨Aoh382, coh382, eoh382⟩ := Kd.R_slice HO382.out; subst eoh382) | ((with_reducible refine gate_builtin (b := .append) (xs := #[.tmp 91, .tmp 106]) rfl ?_); at_builtin; refine Kd.R_append_rows (Kd.int .u8) (w0 := w) w.heap.size rfl (.tmp 91) (.tmp 106) 23 5 (.int .u8 0) 1 rfl Tryz.underlying23 info5 rfl (by decide) (by omega) (.slice Aoh_6 x6_2.length coh_6) x6_2 y380 _ _ _ (fun k_ => some k_ ≠ (.slice Aoh382 y380.length coh382 : Value).ownBlock) (fun _ => False) rfl rfl ?aO ?aR (fun _ _ h => h) (fun _ h => h.elim) ?aF ?aB ?aS ?aL ?_; (case aR => exact tCr HO382); (case aB => exact tB); (case aF => exact (fun k_ hk => Kd.fresh' (Kd.R_lt (tR HO382)) k_ hk)); (case aO => exact (tRm HO_6)); (case aS => exact (below_size tB)); (case aL => have := LMc49.out; omega); intro v384 wa ho hb hg hat; rw [← Ny383.out] at ho; replace HO382 := Aside0.mk (Kd.R_after (ok := (fun _ => True)) (tR HO382) hg hat); replace HB := Aside0.mk (hb); have HO385 := Aside0.mk (ho); clear HO_6 ho hb hg hat; obtain ⟨Aoh385, coh385, eoh385⟩ := Kd.R_slice HO385.out; subst eoh385) | ((with_reducible refine gate_dst (N := 106) rfl ?_); refine Kd.R_lit (Kd.int .u8) _ 5 ?hg (N := 106) ?hd (xs := ([(wrap64 (Int.tdiv t379 16777216)) % 256, (Int.tmod (wrap64 (Int.tdiv t379 65536)) 256) % 256, (Int.tmod (wrap64 (Int.tdiv t379 256)) 256) % 256, (Int.tmod t379 256) % 256] : List Int)) (inner := [.int .u8 ((wrap64 (Int.tdiv t379 16777216)) % 256), .int .u8 ((Int.tmod (wrap64 (Int.tdiv t379 65536)) 256) % 256), .int .u8 ((Int.tmod (wrap64 (Int.tdiv t379 256)) 256) % 256), .int .u8 ((Int.tmod t379 256) % 256)]) (ok := fun _ => True) (okp := fun _ => True) ?hr ?hp (fun _ hk => hk) trivial (Below.refl _ _) (Nat.le_refl _) (by simp) ?_; (case hd => rfl); (case hg => rfl); (case hr => first | (go_simp; done) | (go_simp; rfl)); (case hp => exact (Reps.one (show Kd.M (Kd.int .u8) _ _ _ ((wrap64 (Int.tdiv t379 16777216)) % 256) [.int .u8 ((wrap64 (Int.tdiv t379 16777216)) % 256)] from rfl) (Reps.one (show Kd.M (Kd.int .u8) _ _ _ ((Int.tmod (wrap64 (Int.tdiv t379 65536)) 256) % 256) [.int .u8 ((Int.tmod (wrap64 (Int.tdiv t379 65536)) 256) % 256)] from rfl) (Reps.one (show Kd.M (Kd.int .u8) _ _ _ ((Int.tmod (wrap64 (Int.tdiv t379 256)) 256) % 256) [.int .u8 ((Int.tmod (wrap64 (Int.tdiv t379 256)) 256) % 256)] from rfl) (Reps.one (show Kd.M (Kd.int .u8) _ _ _ ((Int.tmod t379 256) % 256) [.int .u8 ((Int.tmod t379 256) % 256)] from rfl) (Reps.none _ _)))))); intro v381 wa ho53 hb hg_ hnew_; clear hg_ hnew_; (first | rw [← Ny380.out] at ho53 | (simp only [Int.reduceToNat] at ho53; rw [← Ny380.out] at ho53)); have HO382 := Aside0.mk (Kd.R_lower (Kd.R_new' ho53 (Kd.R_lt (tR HO_6))) (below_size tB)); replace HO_6 := Aside0.mk (Kd.R_elder' (tR HO_6) (Kd.R_base ho53) hb); replace HB := Aside0.mk (below_step tB hb); clear hb ho53; obtain ⟨Aoh382, coh382, eoh382⟩ := Kd.R_slice HO382.out; subst eoh382)); (repeat (go_quiet (fail); try go_wp2)); first | (go_ret2; exact ⟨_, tE, by (with_reducible repeat (first | apply Kd.R_alloc | apply Kd.R_drewN | apply Kd.R_drew)); exact Kd.R_mono HO385.out (fun _ hk => trivial), tB⟩) | (go_ret2; exact ⟨_, tE, by first | exact Kd.R_nil _ _ _ _ _ | exact Kd.N_nil _ _ _ _ _ | exact Kd.V_nil _ _ _ _ _ | exact Kd.Q_nil _ _ _ _ _ | exact Kd.S_nil _ _ _ _ _, tB⟩)) : p := h_
set_option maxHeartbeats 8000000 in
set_option maxRecDepth 100000 in
theorem r36Encode.calls (k : Nat) (A0 : Option Addr) (c0 : Nat) (l0 : List (S51)) (r1 : List Int) (r2 : Int) (w : World) (hr0 : Kd.C k51 w A0 l0.length l0) (hc0 : l0.length ≤ c0) (h : r36Encode.f k l0 = some (r1, r2)) :
  Calls Tryz.prog 10 #[.slice A0 l0.length c0] w fun e w' => ∃ v0_ : Value, e = .returned (.tuple #[v0_, .int .i64 r2]) ∧ Kd.R (Kd.int .u8) 5 w' w.heap.size (fun _ => True) v0_ r1 ∧ Below w.heap.size w w' := by
 have hu49 := Tryz.underlying49
 have HR0 := Aside0.mk hr0
 have HC0 := Aside0.mk hc0
 clear hr0 hc0
 have HB := Aside0.mk (Below.refl w.heap.size w)
 have H : (r36Encode.l0 k l0 0) = some (r1, r2) := h
 clear h
 have H' := Aside0.mk H
 clear H
 go_enter Tryz.func10, Tryz.ntmps10
 go_wp2
 repeat (go_quiet (fail); try go_wp2)
 go_loopg [4] k (fun kq v4 w' => ∃ (x4_1 : Int), v4 = .int .i64 x4_1 ∧ Aside0 (r36Encode.l0 kq l0 x4_1 = some (r1, r2)) ∧ Aside0 (kq ≤ k) ∧ Aside0 (Below w.heap.size w w'))
 case atStart => exact ⟨(0), tZ, H', ⟨Nat.le_refl _⟩, ⟨tB⟩⟩
 case round =>
  clear H'
  obtain ⟨x4_1, rfl, HA, HK1, HB⟩ := hrel
  cases gk with
  | zero => exact absurd HA.out (by simp [r36Encode.l0])
  | succ k1 =>
   have H := HA.out
   clear HA
   simp only [r36Encode.l0] at H
   replace H := iD H
   rcases H with ⟨c2b0, H⟩ | ⟨c2b0, H⟩
   ·replace H := niD H
    obtain ⟨c3b0, H⟩ := H
    replace H := iX H
    obtain ⟨t367, A4, H⟩ := H
    replace H := iB H
    rcases H with ⟨rfl, H⟩ | ⟨rfl, H⟩
    ·have H' := Aside0.mk H
     clear H
     obtain ⟨p366, q366, ad366, A366_4, c366_4, A366_5, c366_5, A366_6, c366_6, A366_10, c366_10, A366_11, c366_11, A366_12, c366_12, rfl, hx366_0, hx366_1, hx366_2, hx366_3, hx366_4, hx366_5, hx366_6, hx366_7, hx366_8, hx366_9, hx366_10, hx366_11, hx366_12, HC366_4, HR366_4, HC366_5, HR366_5, HC366_6, HR366_6, HC366_10, HR366_10, HC366_11, HR366_11, HC366_12, HR366_12⟩ := at_B51 HR0 HB x4_1
     go_wp2_with (first | (go_at_call 23; (with_reducible refine (r08Named.calls k1 ((rd_T51 l0 x4_1).f0) true _ A4.out).mono ?_); rintro e w6 ⟨rfl, hb⟩; replace HB := Aside0.mk (below_step tB hb); (try clear hb)))
     repeat (go_quiet (fail); try go_wp2)
     go_loopg [5] k1 (fun kq v5 w' => ∃ (x5_2 : Int), v5 = .int .i64 x5_2 ∧ Aside0 (r36Encode.l1 kq l0 x4_1 x5_2 = some (r1, r2)) ∧ Aside0 (kq ≤ k1) ∧ Aside0 (Below w.heap.size w w'))
     case atStart => exact ⟨(0), tZ, H', ⟨Nat.le_refl _⟩, ⟨tB⟩⟩
     case round =>
      clear H'
      try clear c2b0
      try clear c3b0
      try clear hx366_0
      try clear hx366_1
      try clear hx366_10
      try clear hx366_11
      try clear hx366_12
      try clear hx366_2
      try clear hx366_3
      try clear hx366_4
      try clear hx366_5
      try clear hx366_6
      try clear hx366_7
      try clear hx366_8
      try clear hx366_9
      try clear p366
      try clear q366
      obtain ⟨x5_2, rfl, HA, HK2, HB⟩ := hrel
      cases gk with
      | zero => exact absurd HA.out (by simp [r36Encode.l1])
      | succ k2 =>
       have H := HA.out
       clear HA
       simp only [r36Encode.l1] at H
       replace H := iD H
       rcases H with ⟨c7b0, H⟩ | ⟨c7b0, H⟩
       ·replace H := niD H
        obtain ⟨c8b0, H⟩ := H
        replace H := niD H
        obtain ⟨c9b0, H⟩ := H
        replace H := niD H
        obtain ⟨c10b0, H⟩ := H
        replace H := niD H
        obtain ⟨c11b0, H⟩ := H
        replace H := iE H
        rcases H with ⟨c12b0, c12b1, H⟩ | ⟨c12, c12b0, c12b1, H⟩
        ·simp only [Option.some.injEq, Prod.mk.injEq] at H
         obtain ⟨rfl, rfl⟩ := H
         obtain ⟨p368, q368, ad368, A368_4, c368_4, A368_5, c368_5, A368_6, c368_6, A368_10, c368_10, A368_11, c368_11, A368_12, c368_12, e368, hx368_0, hx368_1, hx368_2, hx368_3, hx368_4, hx368_5, hx368_6, hx368_7, hx368_8, hx368_9, hx368_10, hx368_11, hx368_12, HC368_4, HR368_4, HC368_5, HR368_5, HC368_6, HR368_6, HC368_10, HR368_10, HC368_11, HR368_11, HC368_12, HR368_12⟩ := at_B51 HR0 HB x5_2
         obtain rfl : ad366 = ad368 := (by injection e368)
         obtain ⟨p369, q369, ad369, A369_4, c369_4, A369_5, c369_5, A369_6, c369_6, A369_10, c369_10, A369_11, c369_11, A369_12, c369_12, e369, hx369_0, hx369_1, hx369_2, hx369_3, hx369_4, hx369_5, hx369_6, hx369_7, hx369_8, hx369_9, hx369_10, hx369_11, hx369_12, HC369_4, HR369_4, HC369_5, HR369_5, HC369_6, HR369_6, HC369_10, HR369_10, HC369_11, HR369_11, HC369_12, HR369_12⟩ := at_B51 HR0 HB x4_1
         obtain rfl : ad366 = ad369 := (by injection e369)
         go_wp2
         repeat (go_quiet (fail); try go_wp2)
         go_ret2
         exact ⟨_, tE, by first | exact Kd.R_nil _ _ _ _ _ | exact Kd.N_nil _ _ _ _ _ | exact Kd.V_nil _ _ _ _ _ | exact Kd.Q_nil _ _ _ _ _ | exact Kd.S_nil _ _ _ _ _, tB⟩
        have H' := Aside0.mk H
        clear H
        obtain ⟨p368, q368, ad368, A368_4, c368_4, A368_5, c368_5, A368_6, c368_6, A368_10, c368_10, A368_11, c368_11, A368_12, c368_12, e368, hx368_0, hx368_1, hx368_2, hx368_3, hx368_4, hx368_5, hx368_6, hx368_7, hx368_8, hx368_9, hx368_10, hx368_11, hx368_12, HC368_4, HR368_4, HC368_5, HR368_5, HC368_6, HR368_6, HC368_10, HR368_10, HC368_11, HR368_11, HC368_12, HR368_12⟩ := at_B51 HR0 HB x5_2
        obtain rfl : ad366 = ad368 := (by injection e368)
        obtain ⟨p369, q369, ad369, A369_4, c369_4, A369_5, c369_5, A369_6, c369_6, A369_10, c369_10, A369_11, c369_11, A369_12, c369_12, e369, hx369_0, hx369_1, hx369_2, hx369_3, hx369_4, hx369_5, hx369_6, hx369_7, hx369_8, hx369_9, hx369_10, hx369_11, hx369_12, HC369_4, HR369_4, HC369_5, HR369_5, HC369_6, HR369_6, HC369_10, HR369_10, HC369_11, HR369_11, HC369_12, HR369_12⟩ := at_B51 HR0 HB x4_1
        obtain rfl : ad366 = ad369 := (by injection e369)
        go_wp2
        repeat (go_quiet (fail); try go_wp2)
        go_roundg k2
        case measure => have := HK1.out; have := HK2.out; omega
        case rel => exact ⟨(wrap64 (x5_2 + 1)), tZ, H', ⟨by have := HK1.out; have := HK2.out; omega⟩, ⟨tB⟩⟩
       have H' := Aside0.mk H
       clear H
       go_wp2
       repeat (go_quiet (fail); try go_wp2)
       go_roundg k2
       case measure => have := HK1.out; have := HK2.out; omega
       case rel => exact ⟨(wrap64 (x4_1 + 1)), tZ, H', ⟨by have := HK1.out; have := HK2.out; omega⟩, ⟨tB⟩⟩
    simp only [Option.some.injEq, Prod.mk.injEq] at H
    obtain ⟨rfl, rfl⟩ := H
    obtain ⟨p366, q366, ad366, A366_4, c366_4, A366_5, c366_5, A366_6, c366_6, A366_10, c366_10, A366_11, c366_11, A366_12, c366_12, rfl, hx366_0, hx366_1, hx366_2, hx366_3, hx366_4, hx366_5, hx366_6, hx366_7, hx366_8, hx366_9, hx366_10, hx366_11, hx366_12, HC366_4, HR366_4, HC366_5, HR366_5, HC366_6, HR366_6, HC366_10, HR366_10, HC366_11, HR366_11, HC366_12, HR366_12⟩ := at_B51 HR0 HB x4_1
    go_wp2_with (first | (go_at_call 23; (with_reducible refine (r08Named.calls k1 ((rd_T51 l0 x4_1).f0) false _ A4.out).mono ?_); rintro e w13 ⟨rfl, hb⟩; replace HB := Aside0.mk (below_step tB hb); (try clear hb)))
    repeat (go_quiet (fail); try go_wp2)
    go_ret2
    exact ⟨_, tE, by first | exact Kd.R_nil _ _ _ _ _ | exact Kd.N_nil _ _ _ _ _ | exact Kd.V_nil _ _ _ _ _ | exact Kd.Q_nil _ _ _ _ _ | exact Kd.S_nil _ _ _ _ _, tB⟩
   obtain ⟨y370, hy370⟩ : ∃ y_ : List Int, y_ = (([72, 67, 1] : List Int)) := ⟨_, rfl⟩
   replace H : ((r36number.f k1 (l0.length : Int)).bind fun t373 => (if y370.length + t373.length < 140737488355328 then (r36Encode.l2 k1 l0 (y370 ++ t373) 0) else (none))) = some (r1, r2) := tY hy370 H
   have Ny370 := Aside0.mk hy370
   clear hy370
   replace H := iX H
   obtain ⟨t373, A14, H⟩ := H
   replace H := niC H
   obtain ⟨c15, H⟩ := H
   have LMc15 := Aside0.mk c15
   clear c15
   obtain ⟨y376, hy376⟩ : ∃ y_ : List Int, y_ = (y370 ++ t373) := ⟨_, rfl⟩
   replace H : (r36Encode.l2 k1 l0 y376 0) = some (r1, r2) := tY hy376 H
   have Ny376 := Aside0.mk hy376
   clear hy376
   have H' := Aside0.mk H
   clear H
   go_wp2_with (first | ((with_reducible refine gate_dst (N := 38) rfl ?_); refine Kd.R_lit (Kd.int .u8) _ 5 ?hg (N := 38) ?hd (xs := ([72, 67, 1] : List Int)) (inner := [.int .u8 72, .int .u8 67, .int .u8 1]) (ok := fun _ => True) (okp := fun _ => True) ?hr ?hp (fun _ hk => hk) trivial (Below.refl _ _) (Nat.le_refl _) (by simp) ?_; (case hd => rfl); (case hg => rfl); (case hr => first | (go_simp; done) | (go_simp; rfl)); (case hp => exact (Reps.one (show Kd.M (Kd.int .u8) _ _ _ 72 [.int .u8 72] from rfl) (Reps.one (show Kd.M (Kd.int .u8) _ _ _ 67 [.int .u8 67] from rfl) (Reps.one (show Kd.M (Kd.int .u8) _ _ _ 1 [.int .u8 1] from rfl) (Reps.none _ _))))); intro v371 w16 ho17 hb hg_ hnew_; clear hg_ hnew_; (first | rw [← Ny370.out] at ho17 | (simp only [Int.reduceToNat] at ho17; rw [← Ny370.out] at ho17)); have HO372 := Aside0.mk (Kd.R_lower ho17 (below_size tB)); replace HB := Aside0.mk (below_step tB hb); clear hb ho17) | (go_at_call 24; (with_reducible refine (r36number.calls k1 (l0.length : Int) t373 _ A14.out).mono ?_); rintro e w18 ⟨v374, rfl, ho0, hb⟩; have HO375 := Aside0.mk (Kd.R_lower (Kd.R_new' ho0 (Kd.R_lt (tR HO372))) (below_size tB)); replace HO372 := Aside0.mk (Kd.R_elder' (tR HO372) (Kd.R_base ho0) hb); replace HB := Aside0.mk (below_step tB hb); (try clear hb); (try clear ho0); obtain ⟨Aoh375, coh375, eoh375⟩ := Kd.R_slice HO375.out; subst eoh375) | ((with_reducible refine gate_builtin (b := .append) (xs := #[.tmp 38, .tmp 41]) rfl ?_); at_builtin; refine Kd.R_append_rows (Kd.int .u8) (w0 := w) w.heap.size rfl (.tmp 38) (.tmp 41) 23 5 (.int .u8 0) 1 rfl Tryz.underlying23 info5 rfl (by decide) (by omega) v371 y370 t373 _ _ _ (fun k_ => some k_ ≠ (.slice Aoh375 t373.length coh375 : Value).ownBlock) (fun _ => False) rfl rfl ?aO ?aR (fun _ _ h => h) (fun _ h => h.elim) ?aF ?aB ?aS ?aL ?_; (case aR => exact tCr HO375); (case aB => exact tB); (case aF => exact (fun k_ hk => Kd.fresh' (Kd.R_lt (tR HO375)) k_ hk)); (case aO => exact (tRm HO372)); (case aS => exact (below_size tB)); (case aL => have := LMc15.out; omega); intro v377 w19 ho hb hg hat; rw [← Ny376.out] at ho; replace HO375 := Aside0.mk (Kd.R_after (ok := (fun _ => True)) (tR HO375) hg hat); replace HB := Aside0.mk (hb); have HO378 := Aside0.mk (ho); clear HO372 ho hb hg hat))
   repeat (go_quiet (fail); try go_wp2)
   go_loopg [6, 7] k1 (fun kq v6 v7 w' => ∃ (x6_2 : List Int) (x7_2 : Int), v7 = .int .i64 x7_2 ∧ Aside0 (r36Encode.l2 kq l0 x6_2 x7_2 = some (r1, r2)) ∧ Aside0 (kq ≤ k1) ∧ Aside0 (Kd.R (Kd.int .u8) 5 w' w.heap.size (fun _ => True) v6 x6_2) ∧ Aside0 (Below w.heap.size w w'))
   case atStart => exact ⟨(y376), (0), tZ, H', ⟨Nat.le_refl _⟩, ⟨by (with_reducible repeat (first | apply Kd.R_alloc | apply Kd.R_drewN | apply Kd.R_drew)); exact Kd.R_mono HO378.out (fun _ hk => trivial)⟩, ⟨tB⟩⟩
   case round =>
    clear H'
    try clear c2b0
    try clear c15
    obtain ⟨x6_2, x7_2, rfl, HA, HK2, HO_6, HB⟩ := hrel
    cases gk with
    | zero => exact absurd HA.out (by simp [r36Encode.l2])
    | succ k2 =>
     have H := HA.out
     clear HA
     simp only [r36Encode.l2] at H
     replace H := iD H
     rcases H with ⟨c21b0, H⟩ | ⟨c21b0, H⟩
     ·have HC22 := Aside0.mk H
      clear H
      go_upto_region 15 with (fail)
      repeat (go_quiet (fail); go_upto_region 15 with (fail))
      go_cut [64] (fun v64 wc => ∃ (kq : Nat) (x64_21 : Bool), v64 = .bool x64_21 ∧ Aside0 (r36Encode.j3 kq l0 x6_2 x7_2 x64_21 = some (r1, r2)) ∧ Aside0 (kq ≤ k2) ∧ Aside0 (Kd.R (Kd.int .u8) 5 wc w.heap.size (fun _ => True) u6 x6_2) ∧ Aside0 (Below w.heap.size w wc))
      case first =>
       have H := HC22.out
       clear HC22
       replace H := niD H
       obtain ⟨c23b0, H⟩ := H
       (first | rw [c23b0] | (simp only [i64_w, i32_w]; rw [c23b0]) | skip)
       replace H := iX H
       obtain ⟨t387, A24, H⟩ := H
       replace H := iE H
       rcases H with ⟨c25b0, c25b1, H⟩ | ⟨c25, c25b0, c25b1, H⟩
       ·replace H := iX H
        obtain ⟨t389, A26, H⟩ := H
        have H' := Aside0.mk H
        clear H
        obtain ⟨p386, q386, ad386, A386_4, c386_4, A386_5, c386_5, A386_6, c386_6, A386_10, c386_10, A386_11, c386_11, A386_12, c386_12, rfl, hx386_0, hx386_1, hx386_2, hx386_3, hx386_4, hx386_5, hx386_6, hx386_7, hx386_8, hx386_9, hx386_10, hx386_11, hx386_12, HC386_4, HR386_4, HC386_5, HR386_5, HC386_6, HR386_6, HC386_10, HR386_10, HC386_11, HR386_11, HC386_12, HR386_12⟩ := at_B51 HR0 HB x7_2
        go_wp2_with (first | (go_at_call 25; (with_reducible refine (r10Right.calls k2 ((rd_T51 l0 x7_2).f1.f0) ((rd_T51 l0 x7_2).f1.f1) ((rd_T51 l0 x7_2).f1.f2) _ _ ((rd_T51 l0 x7_2).f1.f3) _ _ ((rd_T51 l0 x7_2).f1.f4) _ _ ((rd_T51 l0 x7_2).f1.f5) 0 0 t387 _ ?side1 ?side2 ?side3 ?side4 ?side5 ?side6 A24.out).mono ?_); (case side1 => exact tCb HR386_4 HB); (case side2 => exact HC386_4.out); (case side3 => exact tCb HR386_5 HB); (case side4 => exact HC386_5.out); (case side5 => exact tCb HR386_6 HB); (case side6 => exact HC386_6.out); rintro e w27 ⟨rfl, hb⟩; replace HO_6 := Aside0.mk (Kd.R_below (tR HO_6) hb); replace HB := Aside0.mk (below_step tB hb); (try clear hb); obtain ⟨p388, q388, ad388, A388_4, c388_4, A388_5, c388_5, A388_6, c388_6, A388_10, c388_10, A388_11, c388_11, A388_12, c388_12, e388, hx388_0, hx388_1, hx388_2, hx388_3, hx388_4, hx388_5, hx388_6, hx388_7, hx388_8, hx388_9, hx388_10, hx388_11, hx388_12, HC388_4, HR388_4, HC388_5, HR388_5, HC388_6, HR388_6, HC388_10, HR388_10, HC388_11, HR388_11, HC388_12, HR388_12⟩ := at_B51 HR0 HB x7_2; obtain rfl : ad386 = ad388 := (by injection e388)) | (go_at_call 25; (with_reducible refine (r10Right.calls k2 ((rd_T51 l0 x7_2).f2.f0) ((rd_T51 l0 x7_2).f2.f1) ((rd_T51 l0 x7_2).f2.f2) _ _ ((rd_T51 l0 x7_2).f2.f3) _ _ ((rd_T51 l0 x7_2).f2.f4) _ _ ((rd_T51 l0 x7_2).f2.f5) 0 0 t389 _ ?side1 ?side2 ?side3 ?side4 ?side5 ?side6 A26.out).mono ?_); (case side1 => exact tCb HR388_10 HB); (case side2 => exact HC388_10.out); (case side3 => exact tCb HR388_11 HB); (case side4 => exact HC388_11.out); (case side5 => exact tCb HR388_12 HB); (case side6 => exact HC388_12.out); rintro e w28 ⟨rfl, hb⟩; replace HO_6 := Aside0.mk (Kd.R_below (tR HO_6) hb); replace HB := Aside0.mk (below_step tB hb); (try clear hb)))
        repeat (go_quiet (fail); try go_wp2)
        go_meet
        case rel => exact ⟨_, ((t389 != 0)), tZ, H', ⟨by have := HK1.out; have := HK2.out; first | omega | exact Nat.le_refl _⟩, ⟨tR HO_6⟩, ⟨tB⟩⟩
       have H' := Aside0.mk H
       clear H
       obtain ⟨p386, q386, ad386, A386_4, c386_4, A386_5, c386_5, A386_6, c386_6, A386_10, c386_10, A386_11, c386_11, A386_12, c386_12, rfl, hx386_0, hx386_1, hx386_2, hx386_3, hx386_4, hx386_5, hx386_6, hx386_7, hx386_8, hx386_9, hx386_10, hx386_11, hx386_12, HC386_4, HR386_4, HC386_5, HR386_5, HC386_6, HR386_6, HC386_10, HR386_10, HC386_11, HR386_11, HC386_12, HR386_12⟩ := at_B51 HR0 HB x7_2
       go_wp2_with (first | (go_at_call 25; (with_reducible refine (r10Right.calls k2 ((rd_T51 l0 x7_2).f1.f0) ((rd_T51 l0 x7_2).f1.f1) ((rd_T51 l0 x7_2).f1.f2) _ _ ((rd_T51 l0 x7_2).f1.f3) _ _ ((rd_T51 l0 x7_2).f1.f4) _ _ ((rd_T51 l0 x7_2).f1.f5) 0 0 t387 _ ?side1 ?side2 ?side3 ?side4 ?side5 ?side6 A24.out).mono ?_); (case side1 => exact tCb HR386_4 HB); (case side2 => exact HC386_4.out); (case side3 => exact tCb HR386_5 HB); (case side4 => exact HC386_5.out); (case side5 => exact tCb HR386_6 HB); (case side6 => exact HC386_6.out); rintro e w29 ⟨rfl, hb⟩; replace HO_6 := Aside0.mk (Kd.R_below (tR HO_6) hb); replace HB := Aside0.mk (below_step tB hb); (try clear hb)))
       repeat (go_quiet (fail); try go_wp2)
       go_meet
       case rel => exact ⟨_, (true), tZ, H', ⟨by have := HK1.out; have := HK2.out; first | omega | exact Nat.le_refl _⟩, ⟨tR HO_6⟩, ⟨tB⟩⟩
      case rest =>
       clear HC22
       try clear c2b0
       try clear c15
       try clear c21b0
       obtain ⟨kq, x64_21, rfl, HA, HJ21, HO_6, HB⟩ := hcut
       cases kq with
       | zero => exact absurd HA.out (by simp [r36Encode.j3])
       | succ kj21 =>
        have H := HA.out
        clear HA
        simp only [r36Encode.j3] at H
        replace H := iB H
        rcases H with ⟨rfl, H⟩ | ⟨rfl, H⟩
        ·simp only [Option.some.injEq, Prod.mk.injEq] at H
         obtain ⟨rfl, rfl⟩ := H
         go_wp2
         repeat (go_quiet (fail); try go_wp2)
         go_ret2
         exact ⟨_, tE, by first | exact Kd.R_nil _ _ _ _ _ | exact Kd.N_nil _ _ _ _ _ | exact Kd.V_nil _ _ _ _ _ | exact Kd.Q_nil _ _ _ _ _ | exact Kd.S_nil _ _ _ _ _, tB⟩
        replace H := niD H
        obtain ⟨c31b0, H⟩ := H
        replace H := niD H
        obtain ⟨c32b0, H⟩ := H
        replace H := iX H
        obtain ⟨t391, A33, H⟩ := H
        replace H := niC H
        obtain ⟨c34, H⟩ := H
        have LMc34 := Aside0.mk c34
        clear c34
        obtain ⟨y394, hy394⟩ : ∃ y_ : List Int, y_ = (x6_2 ++ t391) := ⟨_, rfl⟩
        replace H : ((r36term.f kj21 ((rd_T51 l0 x7_2).f1.f0) ((rd_T51 l0 x7_2).f1.f1) ((rd_T51 l0 x7_2).f1.f2) ((rd_T51 l0 x7_2).f1.f3) ((rd_T51 l0 x7_2).f1.f4) ((rd_T51 l0 x7_2).f1.f5)).bind fun t398 => (if y394.length + t398.length < 140737488355328 then ((some (y394 ++ t398 : List Int)).bind fun y401 => ((r36term.f kj21 ((rd_T51 l0 x7_2).f2.f0) ((rd_T51 l0 x7_2).f2.f1) ((rd_T51 l0 x7_2).f2.f2) ((rd_T51 l0 x7_2).f2.f3) ((rd_T51 l0 x7_2).f2.f4) ((rd_T51 l0 x7_2).f2.f5)).bind fun t405 => (if y401.length + t405.length < 140737488355328 then (r36Encode.l2 kj21 l0 (y401 ++ t405) (wrap64 (x7_2 + 1))) else (none)))) else (none))) = some (r1, r2) := tY hy394 H
        have Ny394 := Aside0.mk hy394
        clear hy394
        replace H := iX H
        obtain ⟨t398, A35, H⟩ := H
        replace H := niC H
        obtain ⟨c36, H⟩ := H
        have LMc36 := Aside0.mk c36
        clear c36
        obtain ⟨y401, hy401⟩ : ∃ y_ : List Int, y_ = (y394 ++ t398) := ⟨_, rfl⟩
        replace H : ((r36term.f kj21 ((rd_T51 l0 x7_2).f2.f0) ((rd_T51 l0 x7_2).f2.f1) ((rd_T51 l0 x7_2).f2.f2) ((rd_T51 l0 x7_2).f2.f3) ((rd_T51 l0 x7_2).f2.f4) ((rd_T51 l0 x7_2).f2.f5)).bind fun t405 => (if y401.length + t405.length < 140737488355328 then (r36Encode.l2 kj21 l0 (y401 ++ t405) (wrap64 (x7_2 + 1))) else (none))) = some (r1, r2) := tY hy401 H
        have Ny401 := Aside0.mk hy401
        clear hy401
        replace H := iX H
        obtain ⟨t405, A37, H⟩ := H
        replace H := niC H
        obtain ⟨c38, H⟩ := H
        have LMc38 := Aside0.mk c38
        clear c38
        obtain ⟨y408, hy408⟩ : ∃ y_ : List Int, y_ = (y401 ++ t405) := ⟨_, rfl⟩
        replace H : (r36Encode.l2 kj21 l0 y408 (wrap64 (x7_2 + 1))) = some (r1, r2) := tY hy408 H
        have Ny408 := Aside0.mk hy408
        clear hy408
        have H' := Aside0.mk H
        clear H
        obtain ⟨p390, q390, ad390, A390_4, c390_4, A390_5, c390_5, A390_6, c390_6, A390_10, c390_10, A390_11, c390_11, A390_12, c390_12, rfl, hx390_0, hx390_1, hx390_2, hx390_3, hx390_4, hx390_5, hx390_6, hx390_7, hx390_8, hx390_9, hx390_10, hx390_11, hx390_12, HC390_4, HR390_4, HC390_5, HR390_5, HC390_6, HR390_6, HC390_10, HR390_10, HC390_11, HR390_11, HC390_12, HR390_12⟩ := at_B51 HR0 HB x7_2
        go_wp2_with (first | (go_at_call 26; (with_reducible refine (r36text.calls ((rd_T51 l0 x7_2).f0) t391 _ A33.out).mono ?_); rintro e w39 ⟨v392, rfl, ho0, hb⟩; have HO393 := Aside0.mk (Kd.R_lower (Kd.R_new' ho0 (Kd.R_lt (tR HO_6))) (below_size tB)); replace HO_6 := Aside0.mk (Kd.R_elder' (tR HO_6) (Kd.R_base ho0) hb); replace HB := Aside0.mk (below_step tB hb); (try clear hb); (try clear ho0); obtain ⟨Aoh393, coh393, eoh393⟩ := Kd.R_slice HO393.out; subst eoh393) | ((with_reducible refine gate_builtin (b := .append) (xs := #[.tmp 65, .tmp 71]) rfl ?_); at_builtin; refine Kd.R_append_rows (Kd.int .u8) (w0 := w) w.heap.size rfl (.tmp 65) (.tmp 71) 23 5 (.int .u8 0) 1 rfl Tryz.underlying23 info5 rfl (by decide) (by omega) u6 x6_2 t391 _ _ _ (fun k_ => some k_ ≠ (.slice Aoh393 t391.length coh393 : Value).ownBlock) (fun _ => False) rfl rfl ?aO ?aR (fun _ _ h => h) (fun _ h => h.elim) ?aF ?aB ?aS ?aL ?_; (case aR => exact tCr HO393); (case aB => exact tB); (case aF => exact (fun k_ hk => Kd.fresh' (Kd.R_lt (tR HO393)) k_ hk)); (case aO => exact (tRm HO_6)); (case aS => exact (below_size tB)); (case aL => have := LMc34.out; omega); intro v395 w40 ho hb hg hat; rw [← Ny394.out] at ho; replace HO393 := Aside0.mk (Kd.R_after (ok := (fun _ => True)) (tR HO393) hg hat); replace HB := Aside0.mk (hb); have HO396 := Aside0.mk (ho); clear HO_6 ho hb hg hat; obtain ⟨p397, q397, ad397, A397_4, c397_4, A397_5, c397_5, A397_6, c397_6, A397_10, c397_10, A397_11, c397_11, A397_12, c397_12, e397, hx397_0, hx397_1, hx397_2, hx397_3, hx397_4, hx397_5, hx397_6, hx397_7, hx397_8, hx397_9, hx397_10, hx397_11, hx397_12, HC397_4, HR397_4, HC397_5, HR397_5, HC397_6, HR397_6, HC397_10, HR397_10, HC397_11, HR397_11, HC397_12, HR397_12⟩ := at_B51 HR0 HB x7_2; obtain rfl : ad390 = ad397 := (by injection e397)) | (go_at_call 27; (with_reducible refine (r36term.calls kj21 ((rd_T51 l0 x7_2).f1.f0) ((rd_T51 l0 x7_2).f1.f1) ((rd_T51 l0 x7_2).f1.f2) _ _ ((rd_T51 l0 x7_2).f1.f3) _ _ ((rd_T51 l0 x7_2).f1.f4) _ _ ((rd_T51 l0 x7_2).f1.f5) t398 _ ?side1 ?side2 ?side3 ?side4 ?side5 ?side6 A35.out).mono ?_); (case side1 => exact tCb HR397_4 HB); (case side2 => exact HC397_4.out); (case side3 => exact tCb HR397_5 HB); (case side4 => exact HC397_5.out); (case side5 => exact tCb HR397_6 HB); (case side6 => exact HC397_6.out); rintro e w42 ⟨v399, rfl, ho0, hb⟩; have HO400 := Aside0.mk (Kd.R_lower (Kd.R_new' (Kd.R_new' ho0 (Kd.R_lt (tR HO393))) (Kd.R_lt (tR HO396))) (below_size tB)); replace HO393 := Aside0.mk (Kd.R_elder' (tR HO393) (Kd.R_base ho0) hb); replace HO396 := Aside0.mk (Kd.R_elder' (tR HO396) (Kd.R_base ho0) hb); replace HB := Aside0.mk (below_step tB hb); (try clear hb); (try clear ho0); obtain ⟨Aoh400, coh400, eoh400⟩ := Kd.R_slice HO400.out; subst eoh400) | ((with_reducible refine gate_builtin (b := .append) (xs := #[.tmp 73, .tmp 79]) rfl ?_); at_builtin; refine Kd.R_append_rows (Kd.int .u8) (w0 := w) w.heap.size rfl (.tmp 73) (.tmp 79) 23 5 (.int .u8 0) 1 rfl Tryz.underlying23 info5 rfl (by decide) (by omega) v395 y394 t398 _ _ _ (fun k_ => some k_ ≠ (.slice Aoh393 t391.length coh393 : Value).ownBlock ∧ some k_ ≠ (.slice Aoh400 t398.length coh400 : Value).ownBlock) (fun _ => False) rfl rfl ?aO ?aR (fun _ _ h => h) (fun _ h => h.elim) ?aF ?aB ?aS ?aL ?_; (case aR => exact tCr HO400); (case aB => exact tB); (case aF => exact (fun k_ hk => ⟨Kd.fresh' (Kd.R_lt (tR HO393)) k_ hk, Kd.fresh' (Kd.R_lt (tR HO400)) k_ hk⟩)); (case aO => exact (tR HO396)); (case aS => exact (below_size tB)); (case aL => have := LMc36.out; omega); intro v402 w43 ho hb hg hat; rw [← Ny401.out] at ho; replace HO393 := Aside0.mk (Kd.R_after (ok := (fun k_ => some k_ ≠ (.slice Aoh400 t398.length coh400 : Value).ownBlock)) (by (with_reducible repeat (first | apply Kd.R_alloc | apply Kd.R_drewN | apply Kd.R_drew)); exact Kd.R_mono HO393.out (fun _ hk => ⟨hk.2, hk.1.2⟩)) hg hat); replace HO400 := Aside0.mk (Kd.R_after (ok := (fun k_ => some k_ ≠ (.slice Aoh393 t391.length coh393 : Value).ownBlock)) (by (with_reducible repeat (first | apply Kd.R_alloc | apply Kd.R_drewN | apply Kd.R_drew)); exact Kd.R_mono HO400.out (fun _ hk => ⟨hk.1.2, hk.2⟩)) hg hat); replace HB := Aside0.mk (hb); have HO403 := Aside0.mk (ho); clear HO396 ho hb hg hat; obtain ⟨p404, q404, ad404, A404_4, c404_4, A404_5, c404_5, A404_6, c404_6, A404_10, c404_10, A404_11, c404_11, A404_12, c404_12, e404, hx404_0, hx404_1, hx404_2, hx404_3, hx404_4, hx404_5, hx404_6, hx404_7, hx404_8, hx404_9, hx404_10, hx404_11, hx404_12, HC404_4, HR404_4, HC404_5, HR404_5, HC404_6, HR404_6, HC404_10, HR404_10, HC404_11, HR404_11, HC404_12, HR404_12⟩ := at_B51 HR0 HB x7_2; obtain rfl : ad390 = ad404 := (by injection e404)) | (go_at_call 27; (with_reducible refine (r36term.calls kj21 ((rd_T51 l0 x7_2).f2.f0) ((rd_T51 l0 x7_2).f2.f1) ((rd_T51 l0 x7_2).f2.f2) _ _ ((rd_T51 l0 x7_2).f2.f3) _ _ ((rd_T51 l0 x7_2).f2.f4) _ _ ((rd_T51 l0 x7_2).f2.f5) t405 _ ?side1 ?side2 ?side3 ?side4 ?side5 ?side6 A37.out).mono ?_); (case side1 => exact tCb HR404_10 HB); (case side2 => exact HC404_10.out); (case side3 => exact tCb HR404_11 HB); (case side4 => exact HC404_11.out); (case side5 => exact tCb HR404_12 HB); (case side6 => exact HC404_12.out); rintro e w45 ⟨v406, rfl, ho0, hb⟩; have HO407 := Aside0.mk (Kd.R_lower (Kd.R_new' (Kd.R_new' (Kd.R_new' ho0 (Kd.R_lt (tR HO393))) (Kd.R_lt (tR HO400))) (Kd.R_lt (tR HO403))) (below_size tB)); replace HO393 := Aside0.mk (Kd.R_elder' (tR HO393) (Kd.R_base ho0) hb); replace HO400 := Aside0.mk (Kd.R_elder' (tR HO400) (Kd.R_base ho0) hb); replace HO403 := Aside0.mk (Kd.R_elder' (tR HO403) (Kd.R_base ho0) hb); replace HB := Aside0.mk (below_step tB hb); (try clear hb); (try clear ho0); obtain ⟨Aoh407, coh407, eoh407⟩ := Kd.R_slice HO407.out; subst eoh407) | ((with_reducible refine gate_builtin (b := .append) (xs := #[.tmp 81, .tmp 87]) rfl ?_); at_builtin; refine Kd.R_append_rows (Kd.int .u8) (w0 := w) w.heap.size rfl (.tmp 81) (.tmp 87) 23 5 (.int .u8 0) 1 rfl Tryz.underlying23 info5 rfl (by decide) (by omega) v402 y401 t405 _ _ _ (fun k_ => some k_ ≠ (.slice Aoh393 t391.length coh393 : Value).ownBlock ∧ some k_ ≠ (.slice Aoh400 t398.length coh400 : Value).ownBlock ∧ some k_ ≠ (.slice Aoh407 t405.length coh407 : Value).ownBlock) (fun _ => False) rfl rfl ?aO ?aR (fun _ _ h => h) (fun _ h => h.elim) ?aF ?aB ?aS ?aL ?_; (case aR => exact tCr HO407); (case aB => exact tB); (case aF => exact (fun k_ hk => ⟨Kd.fresh' (Kd.R_lt (tR HO393)) k_ hk, Kd.fresh' (Kd.R_lt (tR HO400)) k_ hk, Kd.fresh' (Kd.R_lt (tR HO407)) k_ hk⟩)); (case aO => exact (by (with_reducible repeat (first | apply Kd.R_alloc | apply Kd.R_drewN | apply Kd.R_drew)); exact Kd.R_mono HO403.out (fun _ hk => ⟨hk.1.1, ⟨hk.1.2, hk.2⟩⟩))); (case aS => exact (below_size tB)); (case aL => have := LMc38.out; omega); intro v409 w46 ho hb hg hat; rw [← Ny408.out] at ho; replace HO393 := Aside0.mk (Kd.R_after (ok := (fun k_ => some k_ ≠ (.slice Aoh400 t398.length coh400 : Value).ownBlock ∧ some k_ ≠ (.slice Aoh407 t405.length coh407 : Value).ownBlock)) (by (with_reducible repeat (first | apply Kd.R_alloc | apply Kd.R_drewN | apply Kd.R_drew)); exact Kd.R_mono HO393.out (fun _ hk => ⟨⟨hk.1.1, hk.2⟩, hk.1.2⟩)) hg hat); replace HO400 := Aside0.mk (Kd.R_after (ok := (fun k_ => some k_ ≠ (.slice Aoh393 t391.length coh393 : Value).ownBlock ∧ some k_ ≠ (.slice Aoh407 t405.length coh407 : Value).ownBlock)) (by (with_reducible repeat (first | apply Kd.R_alloc | apply Kd.R_drewN | apply Kd.R_drew)); exact Kd.R_mono HO400.out (fun _ hk => ⟨⟨hk.1.1, hk.2⟩, hk.1.2⟩)) hg hat); replace HO407 := Aside0.mk (Kd.R_after (ok := (fun k_ => some k_ ≠ (.slice Aoh393 t391.length coh393 : Value).ownBlock ∧ some k_ ≠ (.slice Aoh400 t398.length coh400 : Value).ownBlock)) (by (with_reducible repeat (first | apply Kd.R_alloc | apply Kd.R_drewN | apply Kd.R_drew)); exact Kd.R_mono HO407.out (fun _ hk => ⟨⟨hk.1.1.2, hk.1.2⟩, hk.2⟩)) hg hat); replace HB := Aside0.mk (hb); have HO410 := Aside0.mk (ho); clear HO403 ho hb hg hat))
        repeat (go_quiet (fail); try go_wp2)
        go_roundg kj21
        case measure => have := HK1.out; have := HK2.out; have := HJ21.out; omega
        case rel => exact ⟨(y408), (wrap64 (x7_2 + 1)), tZ, H', ⟨by have := HK1.out; have := HK2.out; have := HJ21.out; omega⟩, ⟨by (with_reducible repeat (first | apply Kd.R_alloc | apply Kd.R_drewN | apply Kd.R_drew)); exact Kd.R_mono HO410.out (fun _ hk => trivial)⟩, ⟨tB⟩⟩
     replace H := iX H
     obtain ⟨t379, A48, H⟩ := H
     obtain ⟨y380, hy380⟩ : ∃ y_ : List Int, y_ = (([(wrap64 (Int.tdiv t379 16777216)) % 256, (Int.tmod (wrap64 (Int.tdiv t379 65536)) 256) % 256, (Int.tmod (wrap64 (Int.tdiv t379 256)) 256) % 256, (Int.tmod t379 256) % 256] : List Int)) := ⟨_, rfl⟩
     replace H : (if x6_2.length + y380.length < 140737488355328 then ((some (x6_2 ++ y380 : List Int)).bind fun y383 => (if (y383.length : Int) > 1048576 then (some (([] : List Int), 3)) else (some (y383, 0)))) else (none)) = some (r1, r2) := tY hy380 H
     have Ny380 := Aside0.mk hy380
     clear hy380
     replace H := niC H
     obtain ⟨c49, H⟩ := H
     have LMc49 := Aside0.mk c49
     clear c49
     obtain ⟨y383, hy383⟩ : ∃ y_ : List Int, y_ = (x6_2 ++ y380) := ⟨_, rfl⟩
     replace H : (if (y383.length : Int) > 1048576 then (some (([] : List Int), 3)) else (some (y383, 0))) = some (r1, r2) := tY hy383 H
     have Ny383 := Aside0.mk hy383
     clear hy383
     replace H := iHkk H
     rcases H with ⟨c50, c50b0, H⟩ | ⟨c50, c50b0, H⟩
     ·have c50b1 : decide (1048576 < y383.length) = true := decide_eq_true (by omega)
      clear c50
      simp only [Option.some.injEq, Prod.mk.injEq] at H
      obtain ⟨rfl, rfl⟩ := H
      obtain ⟨Aoh_6, coh_6, eoh_6⟩ := Kd.R_slice HO_6.out
      subst eoh_6
      exact r36Encode.z0
     have c50b1 : decide (1048576 < y383.length) = false := decide_eq_false (by omega)
     clear c50
     simp only [Option.some.injEq, Prod.mk.injEq] at H
     obtain ⟨rfl, rfl⟩ := H
     obtain ⟨Aoh_6, coh_6, eoh_6⟩ := Kd.R_slice HO_6.out
     subst eoh_6
     exact r36Encode.z0
def w36PackEn.j0 : Nat → List (S51) → List Int → Bool → Option (Bool)
  | 0, _, _, _ => none
  | k + 1, x0, x1, x15 => if x15 = true then ((w36works.f k).bind fun t412 => (some t412)) else ((w26Sig.f k x0).bind fun t413 => ((pa_Encode.f t413).bind fun bt416 => ((r36Encode.f k x0).bind fun bt420 => (if (strOfNums bt416.1).toList = (strOfNums bt420.1).toList then (if bt416.2 = bt420.2 then ((pack_Sum.f k x1).bind fun t424 => ((r36Sum.f k x1).bind fun t425 => (if (wrap64 (t424)) = t425 then ((w36works.f k).bind fun t426 => (some t426)) else (some false)))) else (some false)) else (some false)))))
def w36PackEn.f (k : Nat) (l0 : List (S51)) (l1 : List Int) : Option (Bool) := (w36great.f k l0).bind fun t411 => (if t411 = true then (w36PackEn.j0 k l0 l1 true) else (w36PackEn.j0 k l0 l1 (decide ((l1.length : Int) > 10000))))
set_option maxHeartbeats 8000000 in
set_option maxRecDepth 100000 in
theorem w36PackEn.calls (k : Nat) (A0 : Option Addr) (c0 : Nat) (l0 : List (S51)) (A1 : Option Addr) (c1 : Nat) (l1 : List Int) (r : Bool) (w : World) (HT : Aside0 (Tab w)) (hr_ : Aside0 (r = true)) (hr0 : Kd.C k51 w A0 l0.length l0) (hc0 : l0.length ≤ c0) (hr1 : Kd.C (Kd.int .u8) w A1 l1.length l1) (hc1 : l1.length ≤ c1) (h : w36PackEn.f k l0 l1 = some r) :
  Calls Tryz.prog 3 #[.slice A0 l0.length c0, .slice A1 l1.length c1] w fun e w' => e = .returned (.bool r) ∧ Below w.heap.size w w' := by
 have HR0 := Aside0.mk hr0
 have HC0 := Aside0.mk hc0
 clear hr0 hc0
 have HR1 := Aside0.mk hr1
 have HC1 := Aside0.mk hc1
 clear hr1 hc1
 have HB := Aside0.mk (Below.refl w.heap.size w)
 have H : ((w36great.f k l0).bind fun t411 => (if t411 = true then (w36PackEn.j0 k l0 l1 true) else (w36PackEn.j0 k l0 l1 (decide ((l1.length : Int) > 10000))))) = some r := h
 clear h
 have HC3 := Aside0.mk H
 clear H
 go_enter Tryz.func3, Tryz.ntmps3
 go_upto_region 1 with (fail)
 go_cut [15] (fun v15 wc => ∃ (kq : Nat) (x15_2 : Bool), v15 = .bool x15_2 ∧ Aside0 (w36PackEn.j0 kq l0 l1 x15_2 = some r) ∧ Aside0 (kq ≤ k) ∧ Aside0 (Below w.heap.size w wc))
 case first =>
  have H := HC3.out
  clear HC3
  replace H := iX H
  obtain ⟨t411, A4, H⟩ := H
  replace H := iB H
  rcases H with ⟨rfl, H⟩ | ⟨rfl, H⟩
  ·have H' := Aside0.mk H
   clear H
   go_wp2_with (first | ((with_reducible refine gf_ 6 rfl ?_); refine gC_ (some 10) Tryz.func6 #[.slice A0 l0.length c0] ?_; (with_reducible refine (w36great.calls k _ _ l0 true _ ?side1 ?side2 A4.out).mono ?_); (case side1 => exact tCb HR0 HB); (case side2 => exact HC0.out); rintro e w6 ⟨rfl, hb⟩; refine ⟨_, rfl, ?_⟩; replace HB := Aside0.mk (below_step tB hb); (try clear hb)))
   go_meet
   case rel => exact ⟨_, (true), tZ, H', ⟨by first | omega | exact Nat.le_refl _⟩, ⟨tB⟩⟩
  have H' := Aside0.mk H
  clear H
  go_wp2_with (first | ((with_reducible refine gf_ 6 rfl ?_); refine gC_ (some 10) Tryz.func6 #[.slice A0 l0.length c0] ?_; (with_reducible refine (w36great.calls k _ _ l0 false _ ?side1 ?side2 A4.out).mono ?_); (case side1 => exact tCb HR0 HB); (case side2 => exact HC0.out); rintro e w7 ⟨rfl, hb⟩; refine ⟨_, rfl, ?_⟩; replace HB := Aside0.mk (below_step tB hb); (try clear hb)))
  go_meet
  case rel => exact ⟨_, (decide ((l1.length : Int) > 10000)), tZ, H', ⟨by first | omega | exact Nat.le_refl _⟩, ⟨tB⟩⟩
 case rest =>
  clear HC3
  obtain ⟨kq, x15_2, rfl, HA, HJ2, HB⟩ := hcut
  cases kq with
  | zero => exact absurd HA.out (by simp [w36PackEn.j0])
  | succ kj2 =>
   have H := HA.out
   clear HA
   simp only [w36PackEn.j0] at H
   replace H := iB H
   rcases H with ⟨rfl, H⟩ | ⟨rfl, H⟩
   ·replace H := iX H
    obtain ⟨t412, A9, H⟩ := H
    obtain rfl := Option.some.inj H
    go_wp2_with (first | ((with_reducible refine gf_ 7 rfl ?_); refine gC_ (some 16) Tryz.func7 #[] ?_; (with_reducible refine (w36works.calls (HT := ⟨Tab.below HT.out tB⟩) (hr_ := hr_) kj2  t412 _ A9.out).mono ?_); rintro e w10 ⟨rfl, hb⟩; refine ⟨_, rfl, ?_⟩; replace HB := Aside0.mk (below_step tB hb); (try clear hb)))
    go_ret
    exact ⟨tE, tB⟩
   replace H := iX H
   obtain ⟨t413, A11, H⟩ := H
   replace H := iX H
   obtain ⟨⟨t416, t417⟩, A12, H⟩ := H
   try dsimp only at H
   replace H := iX H
   obtain ⟨⟨t420, t421⟩, A13, H⟩ := H
   try dsimp only at H
   replace H := iE H
   rcases H with ⟨c14b0, c14b1, H⟩ | ⟨c14, c14b0, c14b1, H⟩
   ·replace H := iE H
    rcases H with ⟨c15b0, c15b1, H⟩ | ⟨c15, c15b0, c15b1, H⟩
    ·replace H := iX H
     obtain ⟨t424, A16, H⟩ := H
     replace H := iX H
     obtain ⟨t425, A17, H⟩ := H
     replace H := iE H
     rcases H with ⟨c18b0, c18b1, H⟩ | ⟨c18, c18b0, c18b1, H⟩
     ·replace H := iX H
      obtain ⟨t426, A19, H⟩ := H
      obtain rfl := Option.some.inj H
      go_wp2_with (first | ((with_reducible refine gf_ 9 rfl ?_); refine gC_ (some 19) Tryz.func9 #[.slice A0 l0.length c0] ?_; (with_reducible refine (w26Sig.calls kj2 (fun k_ => k_ < w.heap.size) _ _ l0 t413 _ ?side1 A11.out).mono ?_); (case side1 => exact Kd.V_mk HC0.out (Kd.F_below (Kd.C_F k51_heap HR0.out) tB)); rintro e w20 ⟨v414, rfl, ho0, hb⟩; refine ⟨_, rfl, ?_⟩; have HO415 := Aside0.mk (Kd.N_lower (Kd.N_mono (ok' := fun k_ => True) ho0 (fun k_ hk_ => trivial)) (below_size tB)); replace HB := Aside0.mk (below_step tB hb); (try clear hb); (try clear ho0); obtain ⟨Ao21, co21, eo21⟩ := Kd.N_slice HO415.out; subst eo21) | ((with_reducible refine gf_ 8 rfl ?_); refine gC_ (some 20) Tryz.func8 #[.slice Ao21 t413.length co21] ?_; (with_reducible refine (pa_Encode.calls (HT := ⟨Tab.below HT.out tB⟩) _ _ t413 t416 t417 _ ?side1 ?side2 A12.out).mono ?_); (case side1 => repeat (first | exact (Kd.N_reads' HO415.out).2.2 | (with_reducible refine Kd.C_alloc ?_ _) | (with_reducible refine Kd.C_drewN ?_ _) | (with_reducible refine Kd.C_drew ?_))); (case side2 => exact (Kd.N_reads' HO415.out).2.1); rintro e w22 ⟨v418, rfl, ho0, hb⟩; refine ⟨_, rfl, ?_⟩; replace HO415 := Aside0.mk (Kd.N_elder' (tN HO415) (Kd.R_base ho0) hb); have HO419 := Aside0.mk (Kd.R_lower ho0 (below_size tB)); replace HB := Aside0.mk (below_step tB hb); (try clear hb); (try clear ho0)) | ((with_reducible refine gf_ 10 rfl ?_); refine gC_ (some 25) Tryz.func10 #[.slice A0 l0.length c0] ?_; (with_reducible refine (r36Encode.calls kj2 _ _ l0 t420 t421 _ ?side1 ?side2 A13.out).mono ?_); (case side1 => exact tCb HR0 HB); (case side2 => exact HC0.out); rintro e w23 ⟨v422, rfl, ho0, hb⟩; refine ⟨_, rfl, ?_⟩; replace HO415 := Aside0.mk (Kd.N_elder' (tN HO415) (Kd.R_base ho0) hb); have HO423 := Aside0.mk (Kd.R_lower (Kd.R_new' ho0 (Kd.R_lt (tR HO419))) (below_size tB)); replace HO419 := Aside0.mk (Kd.R_elder' (tR HO419) (Kd.R_base ho0) hb); replace HB := Aside0.mk (below_step tB hb); (try clear hb); (try clear ho0); have hcv24 := own_string (P := Tryz.prog) Tryz.underlying23 Tryz.underlying5 Tryz.underlying9 (Kd.own_of_R HO419.out); have hcv25 := own_string (P := Tryz.prog) Tryz.underlying23 Tryz.underlying5 Tryz.underlying9 (Kd.own_of_R HO423.out)) | (go_at_call 11; (with_reducible refine (pack_Sum.calls kj2 _ _ l1 t424 _ ?side1 ?side2 A16.out).mono ?_); (case side1 => exact tCb HR1 HB); (case side2 => exact HC1.out); rintro e w' ⟨rfl, ⟨nd, rfl⟩⟩) | (go_at_call 12; (with_reducible refine (r36Sum.calls kj2 _ _ l1 t425 _ ?side1 ?side2 A17.out).mono ?_); (case side1 => repeat (first | exact (Kd.C_below HR1.out tB) | (with_reducible refine Kd.C_alloc ?_ _) | (with_reducible refine Kd.C_drewN ?_ _) | (with_reducible refine Kd.C_drew ?_))); (case side2 => exact HC1.out); rintro e w' ⟨rfl, ⟨nd, rfl⟩⟩) | (go_at_call 7; (with_reducible refine (w36works.calls (HT := ⟨Tab.below HT.out tB⟩) (hr_ := hr_) kj2  t426 _ A19.out).mono ?_); rintro e w26 ⟨rfl, hb⟩; replace HO415 := Aside0.mk (Kd.N_below (tN HO415) hb); replace HO419 := Aside0.mk (Kd.R_below (tR HO419) hb); replace HO423 := Aside0.mk (Kd.R_below (tR HO423) hb); replace HB := Aside0.mk (below_step tB hb); (try clear hb)))
      go_ret
      exact ⟨tE, tB⟩
     exact absurd ((Option.some.inj H).trans hr_.out) Bool.false_ne_true
    exact absurd ((Option.some.inj H).trans hr_.out) Bool.false_ne_true
   exact absurd ((Option.some.inj H).trans hr_.out) Bool.false_ne_true
end
end Go.Proofs.YtahdjajdaggmjaaGreatDoor.XPa
end
section
namespace Go.Proofs.YtahdjajdaggmjaaGreatDoor.XPa
open Go.RowKit Go.Proofs.YtahdjajdaggmjaaGreatDoorW.PrintWords Go.Proofs.YtahdjajdaggmjaaGreatDoorW.PrintLast Go.Proofs.YtahdjajdaggmjaaGreatDoorW.PrintMore
attribute [local go_sem] max2_int min2_int max_two min_two max_three min_three max_four min_four
set_option linter.unusedVariables false
set_option linter.unusedSimpArgs false
end Go.Proofs.YtahdjajdaggmjaaGreatDoor.XPa


end
section
set_option maxRecDepth 100000
set_option linter.unusedVariables false
set_option linter.unusedSimpArgs false
namespace Go.Proofs.YtahdjajdaggmjaaGreatDoor
open Go.RowKit Go.ChangeShapes Go.WideShapes Go.ChangeAt
open Go.Proofs.YtahdjajdaggmjaaGreatDoorW.PrintWords
theorem openBytes {G : Type} {enc : TypeId × Value → G} {W : World} {base : Nat} {held : Bool} {v : Value} {d : DataW G} {p : List MemPlace} {r : Reach} {b0 : Nat} (hv : Value.okWide Tryz.prog W r b0 23 v) (h : DataW.Trod enc Tryz.prog W base (fun _ => true) held 23 v d p) :
  ∃ (A : Option Addr) (cap : Nat) (l : List Int), v = .slice A l.length cap ∧ l.length ≤ cap ∧ Kd.C (Kd.int .u8) W A l.length l ∧ ∀ x ∈ l, 0 ≤ x ∧ x < 256 := by
 obtain ⟨a0, len0, cap0, rfl⟩ := okWide_slice Tryz.underlying23 hv
 obtain ⟨z0, w0⟩ : ∃ zs : List Int, (a0 = none ∧ len0 = 0 ∧ cap0 = 0 ∧ zs = []) ∨ ∃ x, a0 = some x ∧ len0 ≤ cap0 ∧ cap0 ≤ maxLen ∧ zs.length = cap0 ∧ (∀ i, i < zs.length → W.cell? (x.add i) = some (.int .u8 (zs.getD i 0))) ∧ ∀ n ∈ zs, (Lit.int .u8 n).wf = true := by
  obtain ⟨fuel, hf⟩ := h
  rcases open_ints Tryz.underlying23 Tryz.underlying5 (by kernel_rfl) hf with ⟨hcs, _⟩ | ⟨x, l, c, zs, hcs, _, hl, hm, hz, _, hcell, hwz⟩
  ·simp [Value.cells] at hcs
   obtain ⟨rfl, rfl, rfl⟩ := hcs
   exact ⟨[], .inl ⟨rfl, rfl, rfl, rfl⟩⟩
  ·simp [Value.cells] at hcs
   obtain ⟨rfl, rfl, rfl⟩ := hcs
   exact ⟨zs, .inr ⟨_, rfl, hl, hm, by simpa using hz, hcell, hwz⟩⟩
 obtain ⟨l, rfl, h1, _, h3, h4⟩ := ReadsInt.ofRowC w0
 refine ⟨a0, cap0, l, rfl, h4, Kd.C_of_reads (d := (0 : Int)) (h1 := fun _ => rfl) h1, fun x hx => ?_⟩
 have h' : 0 ≤ x ∧ x ≤ 255 := by simpa [Lit.wf, IntKind.min, IntKind.max, IntKind.bits, IntKind.signed] using h3 x hx
 omega
end Go.Proofs.YtahdjajdaggmjaaGreatDoor
end
