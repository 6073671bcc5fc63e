/-
Walks: term.own, term.all.
-/
import Derived.Test.YtahdjajdaggmjaaGreatDoorUtab
import Derived.Test.YtahdjajdaggmjaaGreatDoorZsiz
import Derived.Test.YtahdjajdaggmjaaGreatDoorWEqStruct
section
set_option linter.unusedVariables false
set_option linter.unusedSimpArgs false
namespace Go.Proofs.YtahdjajdaggmjaaGreatDoor.XPa
open Go.RowKit Go.Proofs.YtahdjajdaggmjaaGreatDoorW.PrintWords Go.Proofs.YtahdjajdaggmjaaGreatDoorW.PrintLast Go.Proofs.YtahdjajdaggmjaaGreatDoorW.PrintMore
structure OwnP (PF : List Cl → Prop) (PN : ByteArray → Prop) (fr fa : List Cl → Bool) (wi : List Cl → Int → Bool) (nm : ByteArray → Bool) : Prop where
 kids : ∀ (a : Int) (w : World), Calls Tryz.prog 85 #[.int .i64 a] w fun e w' => e = .returned (.int .i64 (kidsI a)) ∧ ∃ n, w' = w.drewN n
 parts : ∀ (a : Int) (w : World), Calls Tryz.prog 41 #[.int .i64 a] w fun e w' => e = .returned (.int .i64 (partsI a)) ∧ ∃ n, w' = w.drewN n
 fright : ∀ (A : Option Addr) (c : Nat) (l : List Cl) (w : World), Kd.C k113 w A l.length l → l.length ≤ c → PF l → Calls Tryz.prog 87 #[.slice A l.length c] w fun e w' => e = .returned (.bool (fr l)) ∧ Below w.heap.size w w'
 faright : ∀ (A : Option Addr) (c : Nat) (l : List Cl) (w : World), Kd.C k113 w A l.length l → l.length ≤ c → PF l → Calls Tryz.prog 88 #[.slice A l.length c] w fun e w' => e = .returned (.bool (fa l)) ∧ Below w.heap.size w w'
 within : ∀ (A : Option Addr) (c : Nat) (l : List Cl) (d : Int) (w : World), Kd.C k113 w A l.length l → l.length ≤ c → PF l → 0 ≤ d → d ≤ 1000 → Calls Tryz.prog 96 #[.slice A l.length c, .int .i64 d] w fun e w' => e = .returned (.bool (wi l d)) ∧ Below w.heap.size w w'
 name : ∀ (s : ByteArray) (w : World), PN s → Calls Tryz.prog 95 #[.string s] w fun e w' => e = .returned (.bool (nm s)) ∧ Below w.heap.size w w'
def ownBad (t : Tm) : Prop := kidsI t.f0 ≠ (t.f4.length : Int) ∨ t.f0 ≠ 1 ∧ t.f1 ≠ 0 ∨ t.f0 ≠ 2 ∧ t.f2.size ≠ 0 ∨ partsI t.f0 = 0 ∧ 0 < t.f5.length
instance (t : Tm) : Decidable (ownBad t) := by unfold ownBad; infer_instance
theorem ieq0 {n : Nat} (h : n = 0) : ((n : Int) == 0) = true := by simp [h]
theorem ine0 {n : Nat} (h : ¬ n = 0) : ((n : Int) == 0) = false := by simp [h]
def ownR (fa : List Cl → Bool) (wi : List Cl → Int → Bool) (kind dims : Int) (b : Br) : Bool := decide ((b.f1.length : Int) = partsI kind) && fa b.f0 && wi b.f0 dims
def ownB (fr fa : List Cl → Bool) (wi : List Cl → Int → Bool) (nm : ByteArray → Bool) (t : Tm) (vars dims : Int) : Bool :=
 if ownBad t then false else if t.f0 = 1 then decide (t.f3.length = 0) && decide (0 ≤ t.f1) && (decide (vars < 0) || decide (t.f1 < vars))
 else if t.f0 = 2 then decide (t.f3.length = 0) && nm t.f2 else if t.f0 = 13 ∨ t.f0 = 21 ∨ t.f0 = 26 then fr t.f3 && wi t.f3 dims else if t.f0 = 14 then fa t.f3 && wi t.f3 dims
 else t.f5.all (ownR fa wi t.f0 dims) && decide (t.f3.length = 0)
def okN (PF : List Cl → Prop) (PN : ByteArray → Prop) (t : Tm) : Prop := PF t.f3 ∧ PN t.f2 ∧ ∀ b ∈ t.f5, PF b.f0
theorem str_no {s : ByteArray} (h : s.size = 0) : s.toList.isEmpty = true := by
 rw [ByteArray.toList_eq, List.isEmpty_iff_length_eq_zero, data_length, h]
theorem str_yes {s : ByteArray} (h : ¬ s.size = 0) : s.toList.isEmpty = false := by
 rw [Bool.eq_false_iff, ne_eq, ByteArray.toList_eq, List.isEmpty_iff_length_eq_zero, data_length]
 exact h
set_option maxHeartbeats 4000000 in
set_option maxRecDepth 100000 in
theorem term_own {PF : List Cl → Prop} {PN : ByteArray → Prop} {fr fa : List Cl → Bool} {wi : List Cl → Int → Bool} {nm : ByteArray → Bool} (OP : OwnP PF PN fr fa wi nm) (t : Tm) (cs : List Value) (vars dims : Int) (w : World) (hK : k49.K w t cs) (ho : okN PF PN t) (hd0 : 0 ≤ dims) (hd1 : dims ≤ 1000) :
  Calls Tryz.prog 77 #[.agg cs.toArray, .int .i64 vars, .int .i64 dims] w fun e w' => e = .returned (.bool (ownB fr fa wi nm t vars dims)) ∧ Below w.heap.size w w' := by
 obtain ⟨A3, c3, A4, c4, A5, c5, rfl, l3, g3, l4, g4, l5, g5⟩ := k49_open hK
 have HP := Aside0.mk OP
 have HO := Aside0.mk ho
 have HG3 := Aside0.mk g3
 have HL3 := Aside0.mk l3
 have HG5 := Aside0.mk g5
 have hm4 : t.f4.length ≤ 9223372036854775807 := Kd.C_max g4
 have hm5 : t.f5.length ≤ 9223372036854775807 := Kd.C_max g5
 have HB0 := Aside0.mk (below_alloc (Below.refl w.heap.size w) (.cells #[.int .i64 t.f0, .int .i64 t.f1, .string t.f2, .slice A3 t.f3.length c3, .slice A4 t.f4.length c4, .slice A5 t.f5.length c5] 49))
 have HT0 := Aside0.mk (blk_new w (.cells #[.int .i64 t.f0, .int .i64 t.f1, .string t.f2, .slice A3 t.f3.length c3, .slice A4 t.f4.length c4, .slice A5 t.f5.length c5] 49))
 clear OP ho g3 g4 g5 l3 l4 l5 hK
 go_enter Tryz.func77, Tryz.ntmps77
 go_upto_region 1 with fail
 generalize hbt : w.heap.size = bt at *
 generalize hW0 : w.alloc (.cells #[.int .i64 t.f0, .int .i64 t.f1, .string t.f2, .slice A3 t.f3.length c3, .slice A4 t.f4.length c4, .slice A5 t.f5.length c5] 49) = W0 at *
 clear hW0
 go_cut [47] from 9 to 47 (fun v47 wx => ∃ bb : Bool, v47 = .bool bb ∧ Aside0 (decide (ownBad t) = bb) ∧ Aside0 (Below bt w wx) ∧ Aside0 (wx.heap[bt]? = some (.cells #[.int .i64 t.f0, .int .i64 t.f1, .string t.f2, .slice A3 t.f3.length c3, .slice A4 t.f4.length c4, .slice A5 t.f5.length c5] 49 (0, 0))))
 case first =>
  have hz0 := (blk_cell HT0.out 0).trans (rfl : _ = some (Value.int .i64 t.f0))
  have hz1 := (blk_cell HT0.out 1).trans (rfl : _ = some (Value.int .i64 t.f1))
  have hz2 := (blk_cell HT0.out 2).trans (rfl : _ = some (Value.string t.f2))
  have hz4 := (blk_cell HT0.out 4).trans (rfl : _ = some (Value.slice A4 t.f4.length c4))
  have hz5 := (blk_cell HT0.out 5).trans (rfl : _ = some (Value.slice A5 t.f5.length c5))
  by_cases q1 : kidsI t.f0 = (t.f4.length : Int)
  ·have b1 : (kidsI t.f0 != (t.f4.length : Int)) = false := by simp [q1]
   by_cases p1 : t.f0 = 1
   ·have b2 : (t.f0 != 1) = false := by simp [p1]
    by_cases q2 : t.f0 = 2
    ·have b4 : (t.f0 != 2) = false := by simp [q2]
     by_cases q4 : partsI t.f0 = 0
     ·have b6 : (partsI t.f0 == 0) = true := by simp [q4]
      by_cases q5 : t.f5.length = 0
      ·have b7 : decide (0 < (t.f5.length : Int)) = false := decide_eq_false (by omega)
       have b8 : decide (0 < t.f5.length) = false := decide_eq_false (by omega)
       have HQ : Aside0 (decide (ownBad t) = false) := ⟨by refine decide_eq_false (fun h => ?_); unfold ownBad at h; omega⟩
       clear q1 p1 q2 q4 q5
       go_quiet (first | (go_at_call 85; exact Calls.quiet_of (HP.out.kids _ _)) | (go_at_call 41; exact Calls.quiet_of (HP.out.parts _ _)))
       go_wp2
       go_meet
       exact ⟨_, rfl, HQ, ⟨pw_below_drewN HB0.out _⟩, HT0⟩
      ·have b7 : decide (0 < (t.f5.length : Int)) = true := decide_eq_true (by omega)
       have b8 : decide (0 < t.f5.length) = true := decide_eq_true (by omega)
       have HQ : Aside0 (decide (ownBad t) = true) := ⟨by exact decide_eq_true (by unfold ownBad; omega)⟩
       clear q1 p1 q2 q4 q5
       go_quiet (first | (go_at_call 85; exact Calls.quiet_of (HP.out.kids _ _)) | (go_at_call 41; exact Calls.quiet_of (HP.out.parts _ _)))
       go_wp2
       go_meet
       exact ⟨_, rfl, HQ, ⟨pw_below_drewN HB0.out _⟩, HT0⟩
     ·have b6 : (partsI t.f0 == 0) = false := by simp [q4]
      have HQ : Aside0 (decide (ownBad t) = false) := ⟨by refine decide_eq_false (fun h => ?_); unfold ownBad at h; omega⟩
      clear q1 p1 q2 q4
      go_quiet (first | (go_at_call 85; exact Calls.quiet_of (HP.out.kids _ _)) | (go_at_call 41; exact Calls.quiet_of (HP.out.parts _ _)))
      go_wp2
      go_meet
      exact ⟨_, rfl, HQ, ⟨pw_below_drewN HB0.out _⟩, HT0⟩
    ·have b4 : (t.f0 != 2) = true := by simp [q2]
     by_cases q3 : t.f2.size = 0
     ·have b5 := str_no q3
      by_cases q4 : partsI t.f0 = 0
      ·have b6 : (partsI t.f0 == 0) = true := by simp [q4]
       by_cases q5 : t.f5.length = 0
       ·have b7 : decide (0 < (t.f5.length : Int)) = false := decide_eq_false (by omega)
        have b8 : decide (0 < t.f5.length) = false := decide_eq_false (by omega)
        have HQ : Aside0 (decide (ownBad t) = false) := ⟨by refine decide_eq_false (fun h => ?_); unfold ownBad at h; omega⟩
        clear q1 p1 q2 q3 q4 q5
        go_quiet (first | (go_at_call 85; exact Calls.quiet_of (HP.out.kids _ _)) | (go_at_call 41; exact Calls.quiet_of (HP.out.parts _ _)))
        go_wp2
        go_meet
        exact ⟨_, rfl, HQ, ⟨pw_below_drewN HB0.out _⟩, HT0⟩
       ·have b7 : decide (0 < (t.f5.length : Int)) = true := decide_eq_true (by omega)
        have b8 : decide (0 < t.f5.length) = true := decide_eq_true (by omega)
        have HQ : Aside0 (decide (ownBad t) = true) := ⟨by exact decide_eq_true (by unfold ownBad; omega)⟩
        clear q1 p1 q2 q3 q4 q5
        go_quiet (first | (go_at_call 85; exact Calls.quiet_of (HP.out.kids _ _)) | (go_at_call 41; exact Calls.quiet_of (HP.out.parts _ _)))
        go_wp2
        go_meet
        exact ⟨_, rfl, HQ, ⟨pw_below_drewN HB0.out _⟩, HT0⟩
      ·have b6 : (partsI t.f0 == 0) = false := by simp [q4]
       have HQ : Aside0 (decide (ownBad t) = false) := ⟨by refine decide_eq_false (fun h => ?_); unfold ownBad at h; omega⟩
       clear q1 p1 q2 q3 q4
       go_quiet (first | (go_at_call 85; exact Calls.quiet_of (HP.out.kids _ _)) | (go_at_call 41; exact Calls.quiet_of (HP.out.parts _ _)))
       go_wp2
       go_meet
       exact ⟨_, rfl, HQ, ⟨pw_below_drewN HB0.out _⟩, HT0⟩
     ·have b5 := str_yes q3
      have HQ : Aside0 (decide (ownBad t) = true) := ⟨by exact decide_eq_true (by unfold ownBad; omega)⟩
      clear q1 p1 q2 q3
      go_quiet (first | (go_at_call 85; exact Calls.quiet_of (HP.out.kids _ _)) | (go_at_call 41; exact Calls.quiet_of (HP.out.parts _ _)))
      go_wp2
      go_meet
      exact ⟨_, rfl, HQ, ⟨pw_below_drewN HB0.out _⟩, HT0⟩
   ·have b2 : (t.f0 != 1) = true := by simp [p1]
    by_cases p2 : t.f1 = 0
    ·have b3 : (t.f1 != 0) = false := by simp [p2]
     by_cases q2 : t.f0 = 2
     ·have b4 : (t.f0 != 2) = false := by simp [q2]
      by_cases q4 : partsI t.f0 = 0
      ·have b6 : (partsI t.f0 == 0) = true := by simp [q4]
       by_cases q5 : t.f5.length = 0
       ·have b7 : decide (0 < (t.f5.length : Int)) = false := decide_eq_false (by omega)
        have b8 : decide (0 < t.f5.length) = false := decide_eq_false (by omega)
        have HQ : Aside0 (decide (ownBad t) = false) := ⟨by refine decide_eq_false (fun h => ?_); unfold ownBad at h; omega⟩
        clear q1 p1 p2 q2 q4 q5
        go_quiet (first | (go_at_call 85; exact Calls.quiet_of (HP.out.kids _ _)) | (go_at_call 41; exact Calls.quiet_of (HP.out.parts _ _)))
        go_wp2
        go_meet
        exact ⟨_, rfl, HQ, ⟨pw_below_drewN HB0.out _⟩, HT0⟩
       ·have b7 : decide (0 < (t.f5.length : Int)) = true := decide_eq_true (by omega)
        have b8 : decide (0 < t.f5.length) = true := decide_eq_true (by omega)
        have HQ : Aside0 (decide (ownBad t) = true) := ⟨by exact decide_eq_true (by unfold ownBad; omega)⟩
        clear q1 p1 p2 q2 q4 q5
        go_quiet (first | (go_at_call 85; exact Calls.quiet_of (HP.out.kids _ _)) | (go_at_call 41; exact Calls.quiet_of (HP.out.parts _ _)))
        go_wp2
        go_meet
        exact ⟨_, rfl, HQ, ⟨pw_below_drewN HB0.out _⟩, HT0⟩
      ·have b6 : (partsI t.f0 == 0) = false := by simp [q4]
       have HQ : Aside0 (decide (ownBad t) = false) := ⟨by refine decide_eq_false (fun h => ?_); unfold ownBad at h; omega⟩
       clear q1 p1 p2 q2 q4
       go_quiet (first | (go_at_call 85; exact Calls.quiet_of (HP.out.kids _ _)) | (go_at_call 41; exact Calls.quiet_of (HP.out.parts _ _)))
       go_wp2
       go_meet
       exact ⟨_, rfl, HQ, ⟨pw_below_drewN HB0.out _⟩, HT0⟩
     ·have b4 : (t.f0 != 2) = true := by simp [q2]
      by_cases q3 : t.f2.size = 0
      ·have b5 := str_no q3
       by_cases q4 : partsI t.f0 = 0
       ·have b6 : (partsI t.f0 == 0) = true := by simp [q4]
        by_cases q5 : t.f5.length = 0
        ·have b7 : decide (0 < (t.f5.length : Int)) = false := decide_eq_false (by omega)
         have b8 : decide (0 < t.f5.length) = false := decide_eq_false (by omega)
         have HQ : Aside0 (decide (ownBad t) = false) := ⟨by refine decide_eq_false (fun h => ?_); unfold ownBad at h; omega⟩
         clear q1 p1 p2 q2 q3 q4 q5
         go_quiet (first | (go_at_call 85; exact Calls.quiet_of (HP.out.kids _ _)) | (go_at_call 41; exact Calls.quiet_of (HP.out.parts _ _)))
         go_wp2
         go_meet
         exact ⟨_, rfl, HQ, ⟨pw_below_drewN HB0.out _⟩, HT0⟩
        ·have b7 : decide (0 < (t.f5.length : Int)) = true := decide_eq_true (by omega)
         have b8 : decide (0 < t.f5.length) = true := decide_eq_true (by omega)
         have HQ : Aside0 (decide (ownBad t) = true) := ⟨by exact decide_eq_true (by unfold ownBad; omega)⟩
         clear q1 p1 p2 q2 q3 q4 q5
         go_quiet (first | (go_at_call 85; exact Calls.quiet_of (HP.out.kids _ _)) | (go_at_call 41; exact Calls.quiet_of (HP.out.parts _ _)))
         go_wp2
         go_meet
         exact ⟨_, rfl, HQ, ⟨pw_below_drewN HB0.out _⟩, HT0⟩
       ·have b6 : (partsI t.f0 == 0) = false := by simp [q4]
        have HQ : Aside0 (decide (ownBad t) = false) := ⟨by refine decide_eq_false (fun h => ?_); unfold ownBad at h; omega⟩
        clear q1 p1 p2 q2 q3 q4
        go_quiet (first | (go_at_call 85; exact Calls.quiet_of (HP.out.kids _ _)) | (go_at_call 41; exact Calls.quiet_of (HP.out.parts _ _)))
        go_wp2
        go_meet
        exact ⟨_, rfl, HQ, ⟨pw_below_drewN HB0.out _⟩, HT0⟩
      ·have b5 := str_yes q3
       have HQ : Aside0 (decide (ownBad t) = true) := ⟨by exact decide_eq_true (by unfold ownBad; omega)⟩
       clear q1 p1 p2 q2 q3
       go_quiet (first | (go_at_call 85; exact Calls.quiet_of (HP.out.kids _ _)) | (go_at_call 41; exact Calls.quiet_of (HP.out.parts _ _)))
       go_wp2
       go_meet
       exact ⟨_, rfl, HQ, ⟨pw_below_drewN HB0.out _⟩, HT0⟩
    ·have b3 : (t.f1 != 0) = true := by simp [p2]
     have HQ : Aside0 (decide (ownBad t) = true) := ⟨by exact decide_eq_true (by unfold ownBad; omega)⟩
     clear q1 p1 p2
     go_quiet (first | (go_at_call 85; exact Calls.quiet_of (HP.out.kids _ _)) | (go_at_call 41; exact Calls.quiet_of (HP.out.parts _ _)))
     go_wp2
     go_meet
     exact ⟨_, rfl, HQ, ⟨pw_below_drewN HB0.out _⟩, HT0⟩
  ·have b1 : (kidsI t.f0 != (t.f4.length : Int)) = true := by simp [q1]
   have HQ : Aside0 (ownBad t) := ⟨.inl q1⟩
   clear q1
   go_quiet (first | (go_at_call 85; exact Calls.quiet_of (HP.out.kids _ _)) | (go_at_call 41; exact Calls.quiet_of (HP.out.parts _ _)))
   go_wp2
   go_meet
   exact ⟨true, rfl, ⟨decide_eq_true HQ.out⟩, ⟨pw_below_drewN HB0.out _⟩, HT0⟩
 case rest =>
  clear HB0 HT0
  obtain ⟨bb, rfl, HBB, HB, HT⟩ := hcut
  have hz0 := (blk_cell HT.out 0).trans (rfl : _ = some (Value.int .i64 t.f0))
  have hz1 := (blk_cell HT.out 1).trans (rfl : _ = some (Value.int .i64 t.f1))
  have hz2 := (blk_cell HT.out 2).trans (rfl : _ = some (Value.string t.f2))
  have hz3 := (blk_cell HT.out 3).trans (rfl : _ = some (Value.slice A3 t.f3.length c3))
  have hz5 := (blk_cell HT.out 5).trans (rfl : _ = some (Value.slice A5 t.f5.length c5))
  have hlen3 := Kd.C_max HG3.out
  cases bb
  rotate_left
  ·have hbad : ownBad t := of_decide_eq_true HBB.out
   have HQ : Aside0 (ownB fr fa wi nm t vars dims = false) := ⟨by rw [ownB, if_pos hbad]⟩
   clear hbad
   go_wp2
   go_ret
   exact ⟨by rw [HQ.out]; rfl, by rw [hbt]; exact HB.out⟩
  ·have hbad : ¬ ownBad t := of_decide_eq_false HBB.out
   have HQ0 : Aside0 (ownB fr fa wi nm t vars dims = if t.f0 = 1 then decide (t.f3.length = 0) && decide (0 ≤ t.f1) && (decide (vars < 0) || decide (t.f1 < vars))
     else if t.f0 = 2 then decide (t.f3.length = 0) && nm t.f2 else if t.f0 = 13 ∨ t.f0 = 21 ∨ t.f0 = 26 then fr t.f3 && wi t.f3 dims else if t.f0 = 14 then fa t.f3 && wi t.f3 dims
     else t.f5.all (ownR fa wi t.f0 dims) && decide (t.f3.length = 0)) := ⟨by rw [ownB, if_neg hbad]⟩
   clear hbad
   by_cases k1 : t.f0 = 1
   ·have b1 : (t.f0 == 1) = true := by simp [k1]
    have HQ1 : Aside0 (ownB fr fa wi nm t vars dims = (decide (t.f3.length = 0) && decide (0 ≤ t.f1) && (decide (vars < 0) || decide (t.f1 < vars)))) := ⟨by rw [HQ0.out, if_pos k1]⟩
    clear k1
    by_cases r1 : t.f3.length = 0
    ·have d1 : ((t.f3.length : Int) == 0) = true := ieq0 r1
     have e1 : decide (t.f3.length = 0) = true := decide_eq_true r1
     by_cases r2 : 0 ≤ t.f1
     ·have e2 : decide (0 ≤ t.f1) = true := decide_eq_true r2
      by_cases r3 : vars < 0
      ·have e3 : decide (vars < 0) = true := decide_eq_true r3
       have HQ : Aside0 (ownB fr fa wi nm t vars dims = true) := ⟨by rw [HQ1.out, e1, e2, e3]; rfl⟩
       clear r1 r2 r3
       go_wp2
       go_ret
       exact ⟨by rw [HQ.out]; rfl, by rw [hbt]; exact HB.out⟩
      ·have e3 : decide (vars < 0) = false := decide_eq_false r3
       have HQ : Aside0 (ownB fr fa wi nm t vars dims = decide (t.f1 < vars)) := ⟨by rw [HQ1.out, e1, e2, e3]; rfl⟩
       clear r1 r2 r3
       go_wp2
       go_ret
       exact ⟨by rw [HQ.out]; rfl, by rw [hbt]; exact HB.out⟩
     ·have e2 : decide (0 ≤ t.f1) = false := decide_eq_false r2
      have HQ : Aside0 (ownB fr fa wi nm t vars dims = false) := ⟨by rw [HQ1.out, e1, e2]; rfl⟩
      clear r1 r2
      go_wp2
      go_ret
      exact ⟨by rw [HQ.out]; rfl, by rw [hbt]; exact HB.out⟩
    ·have d1 : ((t.f3.length : Int) == 0) = false := ine0 r1
     have HQ : Aside0 (ownB fr fa wi nm t vars dims = false) := ⟨by rw [HQ1.out, decide_eq_false r1]; rfl⟩
     clear r1
     go_wp2
     go_ret
     exact ⟨by rw [HQ.out]; rfl, by rw [hbt]; exact HB.out⟩
   ·have b1 : (t.f0 == 1) = false := by simp [k1]
    by_cases k2 : t.f0 = 2
    ·have b2 : (t.f0 == 2) = true := by simp [k2]
     have HQ1 : Aside0 (ownB fr fa wi nm t vars dims = (decide (t.f3.length = 0) && nm t.f2)) := ⟨by rw [HQ0.out, if_neg k1, if_pos k2]⟩
     have hcn := HP.out.name t.f2 wc HO.out.2.1
     clear k1 k2
     by_cases r1 : t.f3.length = 0
     ·have d1 : ((t.f3.length : Int) == 0) = true := ieq0 r1
      have HQ : Aside0 (ownB fr fa wi nm t vars dims = nm t.f2) := ⟨by rw [HQ1.out, decide_eq_true r1]; rfl⟩
      clear r1
      go_wp2_with (go_at_call 95; refine hcn.mono ?_; rintro e w2 ⟨rfl, hb2⟩; have HB2 := Aside0.mk (HB.out.trans (hb2.mono (by have := HB.out.size; omega))); clear hb2 hcn)
      go_ret
      exact ⟨by rw [HQ.out]; rfl, by rw [hbt]; exact HB2.out⟩
     ·have d1 : ((t.f3.length : Int) == 0) = false := ine0 r1
      have HQ : Aside0 (ownB fr fa wi nm t vars dims = false) := ⟨by rw [HQ1.out, decide_eq_false r1]; rfl⟩
      clear r1
      go_wp2
      go_ret
      exact ⟨by rw [HQ.out]; rfl, by rw [hbt]; exact HB.out⟩
    ·have b2 : (t.f0 == 2) = false := by simp [k2]
     have HBw : Aside0 (Below w.heap.size w wc) := ⟨by rw [hbt]; exact HB.out⟩
     by_cases k3 : t.f0 = 13 ∨ t.f0 = 21 ∨ t.f0 = 26
     ·have hbs : (t.f0 == 13) = true ∨ (t.f0 == 13) = false ∧ (t.f0 == 21) = true ∨ (t.f0 == 13) = false ∧ (t.f0 == 21) = false ∧ (t.f0 == 26) = true := by
       rcases k3 with e | e | e <;> simp [e]
      have HQ1 : Aside0 (ownB fr fa wi nm t vars dims = (fr t.f3 && wi t.f3 dims)) := ⟨by rw [HQ0.out, if_neg k1, if_neg k2, if_pos k3]⟩
      clear k1 k2 k3
      have hcr := HP.out.fright A3 c3 t.f3 wc (Kd.C_below HG3.out HBw.out) HL3.out HO.out.1
      cases hr : fr t.f3
      ·rw [hr] at hcr
       have HQ : Aside0 (ownB fr fa wi nm t vars dims = false) := ⟨by rw [HQ1.out, hr]; rfl⟩
       clear hr
       rcases hbs with b3 | ⟨b3, b4⟩ | ⟨b3, b4, b5⟩
       all_goals
        go_wp2_with (go_at_call 87; refine hcr.mono ?_; rintro e w2 ⟨rfl, hb2⟩; have HB2 := Aside0.mk (HB.out.trans (hb2.mono (by have := HB.out.size; omega))); clear hb2 hcr)
        go_ret
        exact ⟨by rw [HQ.out]; rfl, by rw [hbt]; exact HB2.out⟩
      ·rw [hr] at hcr
       have HQ : Aside0 (ownB fr fa wi nm t vars dims = wi t.f3 dims) := ⟨by rw [HQ1.out, hr]; rfl⟩
       clear hr
       rcases hbs with b3 | ⟨b3, b4⟩ | ⟨b3, b4, b5⟩
       all_goals
        go_wp2_with (first
         | (go_at_call 87; refine hcr.mono ?_; rintro e w2 ⟨rfl, hb2⟩; have HB2 := Aside0.mk (below_step HBw.out hb2); have HT2 := Aside0.mk (blk_below HT.out hb2); have hz3b := (blk_cell HT2.out 3).trans (rfl : _ = some (Value.slice A3 t.f3.length c3)); have hcw := HP.out.within A3 c3 t.f3 dims w2 (Kd.C_below HG3.out HB2.out) HL3.out HO.out.1 hd0 hd1; clear hb2 hcr)
         | (go_at_call 96; refine hcw.mono ?_; rintro e w3 ⟨rfl, hb3⟩; have HB3 := Aside0.mk (below_step HB2.out hb3); clear hb3 hcw))
        go_ret
        exact ⟨by rw [HQ.out]; rfl, HB3.out⟩
     ·have b3 : (t.f0 == 13) = false := by simp; omega
      have b4 : (t.f0 == 21) = false := by simp; omega
      have b5 : (t.f0 == 26) = false := by simp; omega
      by_cases k4 : t.f0 = 14
      ·have b6 : (t.f0 == 14) = true := by simp [k4]
       have HQ1 : Aside0 (ownB fr fa wi nm t vars dims = (fa t.f3 && wi t.f3 dims)) := ⟨by rw [HQ0.out, if_neg k1, if_neg k2, if_neg k3, if_pos k4]⟩
       clear k1 k2 k3 k4
       have hcr := HP.out.faright A3 c3 t.f3 wc (Kd.C_below HG3.out HBw.out) HL3.out HO.out.1
       cases hr : fa t.f3
       ·rw [hr] at hcr
        have HQ : Aside0 (ownB fr fa wi nm t vars dims = false) := ⟨by rw [HQ1.out, hr]; rfl⟩
        clear hr
        go_wp2_with (go_at_call 88; refine hcr.mono ?_; rintro e w2 ⟨rfl, hb2⟩; have HB2 := Aside0.mk (HB.out.trans (hb2.mono (by have := HB.out.size; omega))); clear hb2 hcr)
        go_ret
        exact ⟨by rw [HQ.out]; rfl, by rw [hbt]; exact HB2.out⟩
       ·rw [hr] at hcr
        have HQ : Aside0 (ownB fr fa wi nm t vars dims = wi t.f3 dims) := ⟨by rw [HQ1.out, hr]; rfl⟩
        clear hr
        go_wp2_with (first
         | (go_at_call 88; refine hcr.mono ?_; rintro e w2 ⟨rfl, hb2⟩; have HB2 := Aside0.mk (below_step HBw.out hb2); have HT2 := Aside0.mk (blk_below HT.out hb2); have hz3b := (blk_cell HT2.out 3).trans (rfl : _ = some (Value.slice A3 t.f3.length c3)); have hcw := HP.out.within A3 c3 t.f3 dims w2 (Kd.C_below HG3.out HB2.out) HL3.out HO.out.1 hd0 hd1; clear hb2 hcr)
         | (go_at_call 96; refine hcw.mono ?_; rintro e w3 ⟨rfl, hb3⟩; have HB3 := Aside0.mk (below_step HB2.out hb3); clear hb3 hcw))
        go_ret
        exact ⟨by rw [HQ.out]; rfl, HB3.out⟩
      ·have b6 : (t.f0 == 14) = false := by simp [k4]
       have HQ1 : Aside0 (ownB fr fa wi nm t vars dims = (t.f5.all (ownR fa wi t.f0 dims) && decide (t.f3.length = 0))) := ⟨by rw [HQ0.out, if_neg k1, if_neg k2, if_neg k3, if_neg k4]⟩
       clear k1 k2 k3 k4 HQ0 hz1 hz2 hz3
       go_wp2
       go_loopg [109] (t.f5.length + 1) (fun kq v109 wx => ∃ i : Nat, v109 = .int .i64 (i : Int) ∧ i ≤ t.f5.length ∧ kq + i = t.f5.length + 1 ∧ Aside0 ((t.f5.take i).all (ownR fa wi t.f0 dims) = true) ∧ Aside0 (Below w.heap.size w wx) ∧ Aside0 (wx.heap[bt]? = some (.cells #[.int .i64 t.f0, .int .i64 t.f1, .string t.f2, .slice A3 t.f3.length c3, .slice A4 t.f4.length c4, .slice A5 t.f5.length c5] 49 (0, 0))))
       case atStart => exact ⟨0, rfl, Nat.zero_le _, rfl, ⟨rfl⟩, HBw, HT⟩
       case round =>
        clear HB HT HBw hz5 hz0
        obtain ⟨i, rfl, hi, hki, HA, HB, HT⟩ := hrel
        by_cases hli : i < t.f5.length
        ·have hdi : decide ((i : Int) < (t.f5.length : Int)) = true := decide_eq_true (by omega)
         obtain ⟨ad, A0b, c0b, A1b, c1b, e, h0, h1, l0, g0, l1, g1⟩ := at_br HG5.out i hli
         cases e
         have hmb : t.f5[i] ∈ t.f5 := List.getElem_mem _
         obtain ⟨b, hbb⟩ : ∃ b, t.f5[i] = b := ⟨_, rfl⟩
         have htk : (t.f5.take (i + 1)).all (ownR fa wi t.f0 dims) = ownR fa wi t.f0 dims b := by rw [List.take_succ_eq_append_getElem hli, List.all_append, HA.out, hbb]; simp
         have hall : ownR fa wi t.f0 dims b = false → t.f5.all (ownR fa wi t.f0 dims) = false := fun h => by rw [List.all_eq_false]; exact ⟨b, by rw [← hbb]; exact hmb, by rw [h]; exact Bool.false_ne_true⟩
         rw [hbb] at h0 h1 l0 g0 l1 g1 hmb
         replace h0 := pw_cell_below HB.out h0
         replace h1 := pw_cell_below HB.out h1
         have hmk1 : b.f1.length ≤ 9223372036854775807 := Kd.C_max g1
         have HTK := Aside0.mk htk
         have HALL := Aside0.mk hall
         have HOK := Aside0.mk (HO.out.2.2 b hmb)
         have HG0 := Aside0.mk g0
         have HL0 := Aside0.mk l0
         clear htk hall hmb hbb g0 g1 l0 l1
         have HBA := Aside0.mk (HB.out.alloc HB.out.size (.cells #[.slice A0b b.f0.length c0b, .slice A1b b.f1.length c1b] 90))
         have HTA := Aside0.mk (blk_alloc HT.out (.cells #[.slice A0b b.f0.length c0b, .slice A1b b.f1.length c1b] 90))
         have HNA := Aside0.mk (blk_new wr (.cells #[.slice A0b b.f0.length c0b, .slice A1b b.f1.length c1b] 90))
         go_upto_region 17 with fail
         generalize hbr : wr.heap.size = bb at *
         generalize hWA : wr.alloc (.cells #[.slice A0b b.f0.length c0b, .slice A1b b.f1.length c1b] 90) = WA at *
         clear hWA hbr h0 h1 HB HT
         have hn0 := (blk_cell HNA.out 0).trans (rfl : _ = some (Value.slice A0b b.f0.length c0b))
         have hn1 := (blk_cell HNA.out 1).trans (rfl : _ = some (Value.slice A1b b.f1.length c1b))
         have hz0 := (blk_cell HTA.out 0).trans (rfl : _ = some (Value.int .i64 t.f0))
         by_cases q1 : (b.f1.length : Int) = partsI t.f0
         ·have b1 : ((b.f1.length : Int) != partsI t.f0) = false := by simp [q1]
          cases hf : fa b.f0
          ·have HQ : Aside0 (ownR fa wi t.f0 dims b = false) := ⟨by rw [ownR, decide_eq_true q1, hf]; rfl⟩
           have hcf : ∀ w1, Below w.heap.size w w1 → Calls Tryz.prog 88 #[.slice A0b b.f0.length c0b] w1 fun e w' => e = .returned (.bool false) ∧ Below w1.heap.size w1 w' := fun w1 h => by have := HP.out.faright A0b c0b b.f0 w1 (Kd.C_below HG0.out h) HL0.out HOK.out; rwa [hf] at this
           clear hf q1
           refine start_ (n := 20) (S := fun w' => w'.cell? ⟨bb, 0, none⟩ = some (.slice A0b b.f0.length c0b) ∧ w'.cell? ⟨bb, 1, none⟩ = some (.slice A1b b.f1.length c1b) ∧ w'.cell? ⟨bt, 0, none⟩ = some (.int .i64 t.f0)) (ds := []) #[false, false, false, false, false, false, false, false, false, false, false, false, false, false, false, false, false, false, false, false] (by kernel_rfl) rfl rfl ⟨hn0, hn1, hz0⟩ (fun hHeld => ?_)
           have HBD := Aside0.mk (below_drew HBA.out)
           clear hn0 hn1 hz0
           generalize WA.drew = W1 at *
           refine pu_ 0 113 ?_
           refine ta_ 1 114 ?_
           refine pu_ 2 115 ?_
           refine pu_ 3 116 ?_
           refine ta_ 4 117 ?_
           refine on_ 5 (some 118) fun K hK => ?_
           refine goes_ Tryz.func41 (by kernel_rfl) rfl #[.int .i64 t.f0] (by rfl) rfl rfl (by (try simp only [List.map_toArray, List.map_cons, List.map_nil]); first | done | rfl) ?_
           with_reducible refine (HP.out.parts t.f0 _).mono ?_
           rintro e w2 ⟨rfl, n2, rfl⟩
           refine ⟨_, rfl, ?_⟩
           have hHeld_ := hHeld
           refine hK.out _ _ hHeld (fun hHeld => ?_)
           clear hK K hHeld_
           refine no_ 118 ?_
           refine pu_ 6 119 ?_
           refine pu_ 7 120 ?_
           refine pu_ 8 121 ?_
           refine ta_ 9 122 ?_
           refine on_ 10 (some 123) fun K hK => ?_
           refine goes_ Tryz.func88 (by kernel_rfl) rfl #[.slice A0b b.f0.length c0b] (by rfl) rfl rfl (by (try simp only [List.map_toArray, List.map_cons, List.map_nil]); first | done | rfl) ?_
           with_reducible refine (hcf _ (pw_below_drewN HBD.out _)).mono ?_
           rintro e w3 ⟨rfl, hb3⟩
           refine ⟨_, rfl, ?_⟩
           have HB3 := Aside0.mk (below_step (pw_below_drewN HBD.out _) hb3)
           have s0 := pw_cell_below hb3 hHeld.1
           have s1 := pw_cell_below hb3 hHeld.2.1
           have s2 := pw_cell_below hb3 hHeld.2.2
           clear hb3
           have hHeld_ := hHeld
           refine hK.out _ _ ⟨s0, s1, s2⟩ (fun hHeld => ?_)
           clear hK K hHeld_
           refine no_ 123 ?_
           refine pu_ 11 124 ?_
           refine pu_ 12 125 ?_
           refine pu_ 13 126 ?_
           refine po_ 14 127 ?_
           refine po_ 15 128 ?_
           refine po_ 16 129 ?_
           refine po_ 17 130 ?_
           refine po_ 18 131 ?_
           refine pu_ 19 132 ?_
           refine done_ (by kernel_rfl) ?_
           go_wp2
           go_ret
           exact ⟨by rw [HQ1.out, HALL.out HQ.out]; rfl, HB3.out⟩
          ·have HFA : Aside0 (∀ w1, w1.cell? ⟨bb, 0, none⟩ = some (.slice A0b b.f0.length c0b) ∧ w1.cell? ⟨bb, 1, none⟩ = some (.slice A1b b.f1.length c1b) ∧ w1.cell? ⟨bt, 0, none⟩ = some (.int .i64 t.f0) ∧ w1.heap[bt]? = some (.cells #[.int .i64 t.f0, .int .i64 t.f1, .string t.f2, .slice A3 t.f3.length c3, .slice A4 t.f4.length c4, .slice (some ad) t.f5.length c5] 49 (0, 0)) ∧ Below w.heap.size w w1 → Calls Tryz.prog 88 #[.slice A0b b.f0.length c0b] w1 fun e w' => e = .returned (.bool true) ∧ w'.cell? ⟨bb, 0, none⟩ = some (.slice A0b b.f0.length c0b) ∧ w'.cell? ⟨bb, 1, none⟩ = some (.slice A1b b.f1.length c1b) ∧ w'.cell? ⟨bt, 0, none⟩ = some (.int .i64 t.f0) ∧ w'.heap[bt]? = some (.cells #[.int .i64 t.f0, .int .i64 t.f1, .string t.f2, .slice A3 t.f3.length c3, .slice A4 t.f4.length c4, .slice (some ad) t.f5.length c5] 49 (0, 0)) ∧ Below w.heap.size w w') := ⟨fun w1 ⟨h0, h1, h2, h3, h⟩ => by have := HP.out.faright A0b c0b b.f0 w1 (Kd.C_below HG0.out h) HL0.out HOK.out; rw [hf] at this; exact this.mono fun e w' ⟨he, hb⟩ => ⟨he, pw_cell_below hb h0, pw_cell_below hb h1, pw_cell_below hb h2, blk_below h3 hb, below_step h hb⟩⟩
           cases hw : wi b.f0 dims
           ·have HQ : Aside0 (ownR fa wi t.f0 dims b = false) := ⟨by rw [ownR, decide_eq_true q1, hf, hw]; rfl⟩
            have HWI : Aside0 (∀ w1, w1.cell? ⟨bb, 0, none⟩ = some (.slice A0b b.f0.length c0b) ∧ w1.cell? ⟨bb, 1, none⟩ = some (.slice A1b b.f1.length c1b) ∧ w1.cell? ⟨bt, 0, none⟩ = some (.int .i64 t.f0) ∧ w1.heap[bt]? = some (.cells #[.int .i64 t.f0, .int .i64 t.f1, .string t.f2, .slice A3 t.f3.length c3, .slice A4 t.f4.length c4, .slice (some ad) t.f5.length c5] 49 (0, 0)) ∧ Below w.heap.size w w1 → Calls Tryz.prog 96 #[.slice A0b b.f0.length c0b, .int .i64 dims] w1 fun e w' => e = .returned (.bool false) ∧ w'.cell? ⟨bb, 0, none⟩ = some (.slice A0b b.f0.length c0b) ∧ w'.cell? ⟨bb, 1, none⟩ = some (.slice A1b b.f1.length c1b) ∧ w'.cell? ⟨bt, 0, none⟩ = some (.int .i64 t.f0) ∧ w'.heap[bt]? = some (.cells #[.int .i64 t.f0, .int .i64 t.f1, .string t.f2, .slice A3 t.f3.length c3, .slice A4 t.f4.length c4, .slice (some ad) t.f5.length c5] 49 (0, 0)) ∧ Below w.heap.size w w') := ⟨fun w1 ⟨h0, h1, h2, h3, h⟩ => by have := HP.out.within A0b c0b b.f0 dims w1 (Kd.C_below HG0.out h) HL0.out HOK.out hd0 hd1; rw [hw] at this; exact this.mono fun e w' ⟨he, hb⟩ => ⟨he, pw_cell_below hb h0, pw_cell_below hb h1, pw_cell_below hb h2, blk_below h3 hb, below_step h hb⟩⟩
            clear hf hw q1
            go_region_held3 (fun w' => w'.cell? ⟨bb, 0, none⟩ = some (.slice A0b b.f0.length c0b) ∧ w'.cell? ⟨bb, 1, none⟩ = some (.slice A1b b.f1.length c1b) ∧ w'.cell? ⟨bt, 0, none⟩ = some (.int .i64 t.f0) ∧ w'.heap[bt]? = some (.cells #[.int .i64 t.f0, .int .i64 t.f1, .string t.f2, .slice A3 t.f3.length c3, .slice A4 t.f4.length c4, .slice (some ad) t.f5.length c5] 49 (0, 0)) ∧ Below w.heap.size w w')
             (refine ⟨?_, ?_, ?_, ?_, ?_⟩ <;> first | assumption | exact below_drew HBA.out | exact HTA.out | exact pw_below_drewN HBA.out _)
             (first
              | (go_at_call 41; refine (HP.out.parts _ _).mono ?_; rintro e w2 ⟨rfl, n2, rfl⟩)
              | (go_at_call 88; refine (HFA.out _ (by refine ⟨?_, ?_, ?_, ?_, ?_⟩ <;> first | assumption | exact below_drew HBA.out | exact HTA.out | exact pw_below_drewN HBA.out _)).mono ?_; rintro e w2 ⟨rfl, s0, s1, s2, s2b, s3⟩)
              | (go_at_call 96; refine (HWI.out _ (by refine ⟨?_, ?_, ?_, ?_, ?_⟩ <;> first | assumption | exact below_drew HBA.out | exact HTA.out | exact pw_below_drewN HBA.out _)).mono ?_; rintro e w3 ⟨rfl, s4, s5, s6, s6b, s7⟩))
            go_wp2
            go_ret
            exact ⟨by rw [HQ1.out, HALL.out HQ.out]; rfl, s7⟩
           ·have HQ : Aside0 (ownR fa wi t.f0 dims b = true) := ⟨by rw [ownR, decide_eq_true q1, hf, hw]; rfl⟩
            have HWI : Aside0 (∀ w1, w1.cell? ⟨bb, 0, none⟩ = some (.slice A0b b.f0.length c0b) ∧ w1.cell? ⟨bb, 1, none⟩ = some (.slice A1b b.f1.length c1b) ∧ w1.cell? ⟨bt, 0, none⟩ = some (.int .i64 t.f0) ∧ w1.heap[bt]? = some (.cells #[.int .i64 t.f0, .int .i64 t.f1, .string t.f2, .slice A3 t.f3.length c3, .slice A4 t.f4.length c4, .slice (some ad) t.f5.length c5] 49 (0, 0)) ∧ Below w.heap.size w w1 → Calls Tryz.prog 96 #[.slice A0b b.f0.length c0b, .int .i64 dims] w1 fun e w' => e = .returned (.bool true) ∧ w'.cell? ⟨bb, 0, none⟩ = some (.slice A0b b.f0.length c0b) ∧ w'.cell? ⟨bb, 1, none⟩ = some (.slice A1b b.f1.length c1b) ∧ w'.cell? ⟨bt, 0, none⟩ = some (.int .i64 t.f0) ∧ w'.heap[bt]? = some (.cells #[.int .i64 t.f0, .int .i64 t.f1, .string t.f2, .slice A3 t.f3.length c3, .slice A4 t.f4.length c4, .slice (some ad) t.f5.length c5] 49 (0, 0)) ∧ Below w.heap.size w w') := ⟨fun w1 ⟨h0, h1, h2, h3, h⟩ => by have := HP.out.within A0b c0b b.f0 dims w1 (Kd.C_below HG0.out h) HL0.out HOK.out hd0 hd1; rw [hw] at this; exact this.mono fun e w' ⟨he, hb⟩ => ⟨he, pw_cell_below hb h0, pw_cell_below hb h1, pw_cell_below hb h2, blk_below h3 hb, below_step h hb⟩⟩
            clear hf hw q1
            go_region_held3 (fun w' => w'.cell? ⟨bb, 0, none⟩ = some (.slice A0b b.f0.length c0b) ∧ w'.cell? ⟨bb, 1, none⟩ = some (.slice A1b b.f1.length c1b) ∧ w'.cell? ⟨bt, 0, none⟩ = some (.int .i64 t.f0) ∧ w'.heap[bt]? = some (.cells #[.int .i64 t.f0, .int .i64 t.f1, .string t.f2, .slice A3 t.f3.length c3, .slice A4 t.f4.length c4, .slice (some ad) t.f5.length c5] 49 (0, 0)) ∧ Below w.heap.size w w')
             (refine ⟨?_, ?_, ?_, ?_, ?_⟩ <;> first | assumption | exact below_drew HBA.out | exact HTA.out | exact pw_below_drewN HBA.out _)
             (first
              | (go_at_call 41; refine (HP.out.parts _ _).mono ?_; rintro e w2 ⟨rfl, n2, rfl⟩)
              | (go_at_call 88; refine (HFA.out _ (by refine ⟨?_, ?_, ?_, ?_, ?_⟩ <;> first | assumption | exact below_drew HBA.out | exact HTA.out | exact pw_below_drewN HBA.out _)).mono ?_; rintro e w2 ⟨rfl, s0, s1, s2, s2b, s3⟩)
              | (go_at_call 96; refine (HWI.out _ (by refine ⟨?_, ?_, ?_, ?_, ?_⟩ <;> first | assumption | exact below_drew HBA.out | exact HTA.out | exact pw_below_drewN HBA.out _)).mono ?_; rintro e w3 ⟨rfl, s4, s5, s6, s6b, s7⟩))
            go_wp2
            go_roundg (gk - 1)
            case measure => omega
            case rel => exact ⟨i + 1, rfl, by omega, by omega, ⟨by rw [HTK.out, HQ.out]⟩, ⟨s7⟩, ⟨s6b⟩⟩
         ·have b1 : ((b.f1.length : Int) != partsI t.f0) = true := by simp [q1]
          have HQ : Aside0 (ownR fa wi t.f0 dims b = false) := ⟨by rw [ownR, decide_eq_false q1]; rfl⟩
          clear q1
          go_quiet ((go_at_call 41; exact Calls.quiet_of (HP.out.parts _ _)))
          go_wp2
          go_ret
          exact ⟨by rw [HQ1.out, HALL.out HQ.out]; rfl, pw_below_drewN HBA.out _⟩
        ·have hdi : decide ((i : Int) < (t.f5.length : Int)) = false := decide_eq_false (by omega)
         have hz3 := (blk_cell HT.out 3).trans (rfl : _ = some (Value.slice A3 t.f3.length c3))
         have HQ : Aside0 (ownB fr fa wi nm t vars dims = decide (t.f3.length = 0)) := ⟨by have h := HA.out; rw [List.take_of_length_le (by omega)] at h; rw [HQ1.out, h, Bool.true_and]⟩
         clear hki
         by_cases r1 : t.f3.length = 0
         ·have d1 : ((t.f3.length : Int) == 0) = true := ieq0 r1
          have HQ2 : Aside0 (ownB fr fa wi nm t vars dims = true) := ⟨by rw [HQ.out, decide_eq_true r1]⟩
          clear r1
          go_wp2
          go_ret
          exact ⟨by rw [HQ2.out]; rfl, HB.out⟩
         ·have d1 : ((t.f3.length : Int) == 0) = false := ine0 r1
          have HQ2 : Aside0 (ownB fr fa wi nm t vars dims = false) := ⟨by rw [HQ.out, decide_eq_false r1]⟩
          clear r1
          go_wp2
          go_ret
          exact ⟨by rw [HQ2.out]; rfl, HB.out⟩
section
variable (fr fa : List Cl → Bool) (wi : List Cl → Int → Bool) (nm : ByteArray → Bool)
mutual
def allT : Tm → Int → Int → Bool
 | ⟨k, n, s, r, ks, bs⟩, v, d => decide (d ≤ 24) && ownB fr fa wi nm ⟨k, n, s, r, ks, bs⟩ v d && (allL k ks 0 v d && allBs k bs v d)
def allL (kind : Int) : List Tm → Nat → Int → Int → Bool
 | [], _, _, _ => true
 | t :: r, i, v, d => allT t (v + (bindsI kind (i : Int)).1) (d + (bindsI kind (i : Int)).2) && allL kind r (i + 1) v d
def allBs (kind : Int) : List Br → Int → Int → Bool
 | [], _, _ => true
 | b :: r, v, d => allBr kind b v d && allBs kind r v d
def allBr (kind : Int) : Br → Int → Int → Bool
 | ⟨_, ks⟩, v, d => allP ks v (d + moreI kind)
def allP : List Tm → Int → Int → Bool
 | [], _, _ => true
 | t :: r, v, d => allT t v d && allP r v d
end
end
section
variable (PF : List Cl → Prop) (PN : ByteArray → Prop)
mutual
def okS : Tm → Prop
 | ⟨_, _, s, r, ks, bs⟩ => PF r ∧ PN s ∧ okSL ks ∧ okSB bs
def okSL : List Tm → Prop
 | [] => True
 | t :: r => okS t ∧ okSL r
def okSB : List Br → Prop
 | [] => True
 | b :: r => okSR b ∧ okSB r
def okSR : Br → Prop
 | ⟨f, ks⟩ => PF f ∧ okSL ks
end
end
section
variable {PF : List Cl → Prop} {PN : ByteArray → Prop}
theorem okS_eq {t : Tm} (h : okS PF PN t) : PF t.f3 ∧ PN t.f2 ∧ okSL PF PN t.f4 ∧ okSB PF PN t.f5 := by
 cases t
 rwa [okS] at h
theorem okSR_eq {b : Br} (h : okSR PF PN b) : PF b.f0 ∧ okSL PF PN b.f1 := by
 cases b
 rwa [okSR] at h
theorem okSL_mem {k : Tm} : ∀ {l : List Tm}, okSL PF PN l → k ∈ l → okS PF PN k
 | [], _, h => absurd h (by simp)
 | t :: r, ho, h => by
  rw [okSL] at ho
  rcases List.mem_cons.1 h with rfl | h
  ·exact ho.1
  ·exact okSL_mem ho.2 h
theorem okSB_mem {b : Br} : ∀ {l : List Br}, okSB PF PN l → b ∈ l → okSR PF PN b
 | [], _, h => absurd h (by simp)
 | t :: r, ho, h => by
  rw [okSB] at ho
  rcases List.mem_cons.1 h with rfl | h
  ·exact ho.1
  ·exact okSB_mem ho.2 h
theorem okS_N {t : Tm} (h : okS PF PN t) : okN PF PN t := ⟨(okS_eq h).1, (okS_eq h).2.1, fun b hb => (okSR_eq (okSB_mem (okS_eq h).2.2.2 hb)).1⟩
end
section
variable {PF : List Cl → Prop} {PN : ByteArray → Prop} {fr fa : List Cl → Bool} {wi : List Cl → Int → Bool} {nm : ByteArray → Bool}
theorem allT_eq (t : Tm) (v d : Int) : allT fr fa wi nm t v d = (decide (d ≤ 24) && ownB fr fa wi nm t v d && (allL fr fa wi nm t.f0 t.f4 0 v d && allBs fr fa wi nm t.f0 t.f5 v d)) := by
 cases t
 rw [allT]
theorem eachL_all3 (p : Tm → Int → Int → Bool) : ∀ l : List (Tm × Int × Int), (eachL (fun k v d (_ : Unit) => (p k v d, ())) l ()).1 = l.all (fun x => p x.1 x.2.1 x.2.2)
 | [] => by rw [eachL]; rfl
 | (k, v, d) :: r => by
  cases h : p k v d
  ·rw [eachL_no (by exact h), List.all_cons, h]
   rfl
  ·rw [eachL_yes (by exact h), List.all_cons, h, Bool.true_and]
   exact eachL_all3 p r
theorem all_kidsA (kind v d : Int) : ∀ (l : List Tm) (i : Nat), (kidsA kind l i).all (fun x => allT fr fa wi nm x.1 (v + x.2.1) (d + x.2.2)) = allL fr fa wi nm kind l i v d
 | [], _ => by rw [kidsA, allL]; rfl
 | k :: r, i => by rw [kidsA, List.all_cons, all_kidsA kind v d r, allL]
theorem all_kidsP (kind v d : Int) : ∀ (l : List Tm), (kidsP kind l).all (fun x => allT fr fa wi nm x.1 (v + x.2.1) (d + x.2.2)) = allP fr fa wi nm l v (d + moreI kind)
 | [] => by rw [allP]; rfl
 | k :: r => by
  rw [kidsP, List.map_cons, List.all_cons, ← kidsP, all_kidsP kind v d r, allP]
  simp
theorem all_kidsB (kind v d : Int) : ∀ (l : List Br), (kidsB kind l).all (fun x => allT fr fa wi nm x.1 (v + x.2.1) (d + x.2.2)) = allBs fr fa wi nm kind l v d
 | [] => by rw [allBs]; rfl
 | ⟨f, ks⟩ :: r => by
  rw [kidsB, List.flatMap_cons, List.all_append, ← kidsB, all_kidsB kind v d r, allBs, allBr, all_kidsP]
theorem all_kids (t : Tm) (v d : Int) : (eachL (fun k x y (_ : Unit) => (allT fr fa wi nm k (v + x) (d + y), ())) (kidsOf t) ()).1 = (allL fr fa wi nm t.f0 t.f4 0 v d && allBs fr fa wi nm t.f0 t.f5 v d) := by
 rw [eachL_all3 (fun k x y => allT fr fa wi nm k (v + x) (d + y)), kidsOf, List.all_append, all_kidsA, all_kidsB]
set_option maxHeartbeats 1000000 in
set_option maxRecDepth 100000 in
theorem all_fn (vars dims : Int) (h0 : 0 ≤ vars) (h1 : vars ≤ 1000000000) (h2 : 0 ≤ dims) (h3 : dims ≤ 24) (k : Tm) (HIH : Aside0 (∀ (v d : Int) (ks : List Value) (w : World), 0 ≤ v ∧ v ≤ 1 ∧ 0 ≤ d ∧ d ≤ 1 → k49.K w k ks → Calls Tryz.prog 55 #[.agg ks.toArray, .int .i64 (vars + v), .int .i64 (dims + d), .bool true] w fun e w' => e = .returned (.bool (allT fr fa wi nm k (vars + v) (dims + d))) ∧ Below w.heap.size w w'))
  (v d : Int) (hvd : 0 ≤ v ∧ v ≤ 1 ∧ 0 ≤ d ∧ d ≤ 1) (ks : List Value) (bv bd bb : Nat) (w : World) (hK : k49.K w k ks) (hv : w.heap[bv]? = some (.cells #[.int .i64 vars] 3 (0, 0))) (hd : w.heap[bd]? = some (.cells #[.int .i64 dims] 3 (0, 0))) (hb : w.heap[bb]? = some (.cells #[.bool true] 4 (0, 0))) :
  Calls Tryz.prog 79 #[.agg ks.toArray, .int .i64 v, .int .i64 d, .pointer (some ⟨bv, 0, none⟩), .pointer (some ⟨bd, 0, none⟩), .pointer (some ⟨bb, 0, none⟩)] w fun e w' => e = .returned (.bool (allT fr fa wi nm k (vars + v) (dims + d))) ∧ Below w.heap.size w w' := by
 obtain ⟨A3, c3, A4, c4, A5, c5, rfl, l3, g3, l4, g4, l5, g5⟩ := k49_open hK
 have hba : Below w.heap.size w (w.alloc (.cells #[.int .i64 k.f0, .int .i64 k.f1, .string k.f2, .slice A3 k.f3.length c3, .slice A4 k.f4.length c4, .slice A5 k.f5.length c5] 49)) := below_alloc (Below.refl _ _) _
 have hzv := (blk_cell (blk_below hv hba) 0).trans (rfl : _ = some (Value.int .i64 vars))
 have hzd := (blk_cell (blk_below hd hba) 0).trans (rfl : _ = some (Value.int .i64 dims))
 have hzb := (blk_cell (blk_below hb hba) 0).trans (rfl : _ = some (Value.bool true))
 have hc := HIH.out v d _ _ hvd (k49.K_below hba hK)
 have HBA := Aside0.mk hba
 have hd0 : decide (vars < 0) = false := decide_eq_false (by omega)
 obtain ⟨v0, v1, d0, d1⟩ := hvd
 clear hba hv hd hb g3 g4 g5 l3 l4 l5 hK
 go_enter Tryz.func79, Tryz.ntmps79
 go_wp2_with (go_at_call 55; refine hc.mono ?_; rintro e w1 ⟨rfl, hb1⟩; have HB1 := Aside0.mk hb1; clear hb1 hc)
 go_ret
 exact ⟨rfl, below_step HBA.out HB1.out⟩
set_option maxHeartbeats 2000000 in
set_option maxRecDepth 100000 in
theorem term_all (OP : OwnP PF PN fr fa wi nm) (HBinds : Aside0 (∀ (a i : Int) (w : World), Calls Tryz.prog 97 #[.int .i64 a, .int .i64 i] w fun e w' => e = .returned (.tuple #[.int .i64 (bindsI a i).1, .int .i64 (bindsI a i).2]) ∧ Below w.heap.size w w'))
  (eg : ∀ args w, (callFunc 79 args).run Tryz.prog w = .ok (.enter 79 args) w) : ∀ (N : Nat) (k : Tm) (vars dims : Int) (ks : List Value) (w : World), sizeT k ≤ N → okS PF PN k → 0 ≤ vars → vars + N ≤ 1000000000 → 0 ≤ dims → dims ≤ 25 → k49.K w k ks →
  Calls Tryz.prog 55 #[.agg ks.toArray, .int .i64 vars, .int .i64 dims, .bool true] w fun e w' => e = .returned (.bool (allT fr fa wi nm k vars dims)) ∧ Below w.heap.size w w' := by
 intro N
 induction N with
 | zero => intro k vars dims ks w h; have := sizeT_pos k; omega
 | succ N ih =>
 intro k vars dims ks w hN ho h0 h1 h2 h3 hK
 have HIH := Aside0.mk ih
 have HO := Aside0.mk ho
 have hco := fun w1 hb => term_own OP k ks vars dims w1 (k49.K_below hb hK) (okS_N ho) h2 (by omega)
 obtain ⟨A3, c3, A4, c4, A5, c5, rfl, l3, g3, l4, g4, l5, g5⟩ := k49_open hK
 have HK := Aside0.mk hK
 have HQ := Aside0.mk (allT_eq (fr := fr) (fa := fa) (wi := wi) (nm := nm) k vars dims)
 clear g3 g4 g5 l3 l4 l5 hK ih ho
 have hba : Below w.heap.size w ((((w.alloc (.cells #[.int .i64 k.f0, .int .i64 k.f1, .string k.f2, .slice A3 k.f3.length c3, .slice A4 k.f4.length c4, .slice A5 k.f5.length c5] 49)).alloc (.cells #[.int .i64 vars] 3)).alloc (.cells #[.int .i64 dims] 3)).alloc (.cells #[.bool true] 4)) := ((((Below.refl _ _).alloc (Nat.le_refl _) _).alloc (by simp) _).alloc (by simp; omega) _).alloc (by simp; omega) _
 have hbv : ((((w.alloc (.cells #[.int .i64 k.f0, .int .i64 k.f1, .string k.f2, .slice A3 k.f3.length c3, .slice A4 k.f4.length c4, .slice A5 k.f5.length c5] 49)).alloc (.cells #[.int .i64 vars] 3)).alloc (.cells #[.int .i64 dims] 3)).alloc (.cells #[.bool true] 4)).heap[w.heap.size + 1]? = some (.cells #[.int .i64 vars] 3 (0, 0)) := by
  have := blk_new (w.alloc (.cells #[.int .i64 k.f0, .int .i64 k.f1, .string k.f2, .slice A3 k.f3.length c3, .slice A4 k.f4.length c4, .slice A5 k.f5.length c5] 49)) (.cells #[.int .i64 vars] 3)
  rw [World.size_alloc] at this
  exact blk_alloc (blk_alloc this _) _
 have hbd : ((((w.alloc (.cells #[.int .i64 k.f0, .int .i64 k.f1, .string k.f2, .slice A3 k.f3.length c3, .slice A4 k.f4.length c4, .slice A5 k.f5.length c5] 49)).alloc (.cells #[.int .i64 vars] 3)).alloc (.cells #[.int .i64 dims] 3)).alloc (.cells #[.bool true] 4)).heap[w.heap.size + 1 + 1]? = some (.cells #[.int .i64 dims] 3 (0, 0)) := by
  have := blk_new ((w.alloc (.cells #[.int .i64 k.f0, .int .i64 k.f1, .string k.f2, .slice A3 k.f3.length c3, .slice A4 k.f4.length c4, .slice A5 k.f5.length c5] 49)).alloc (.cells #[.int .i64 vars] 3)) (.cells #[.int .i64 dims] 3)
  rw [World.size_alloc, World.size_alloc] at this
  exact blk_alloc this _
 have hbb : ((((w.alloc (.cells #[.int .i64 k.f0, .int .i64 k.f1, .string k.f2, .slice A3 k.f3.length c3, .slice A4 k.f4.length c4, .slice A5 k.f5.length c5] 49)).alloc (.cells #[.int .i64 vars] 3)).alloc (.cells #[.int .i64 dims] 3)).alloc (.cells #[.bool true] 4)).heap[w.heap.size + 1 + 1 + 1]? = some (.cells #[.bool true] 4 (0, 0)) := by
  have := blk_new (((w.alloc (.cells #[.int .i64 k.f0, .int .i64 k.f1, .string k.f2, .slice A3 k.f3.length c3, .slice A4 k.f4.length c4, .slice A5 k.f5.length c5] 49)).alloc (.cells #[.int .i64 vars] 3)).alloc (.cells #[.int .i64 dims] 3)) (.cells #[.bool true] 4)
  rw [World.size_alloc, World.size_alloc, World.size_alloc] at this
  exact this
 have hnb : ((((w.alloc (.cells #[.int .i64 k.f0, .int .i64 k.f1, .string k.f2, .slice A3 k.f3.length c3, .slice A4 k.f4.length c4, .slice A5 k.f5.length c5] 49)).alloc (.cells #[.int .i64 vars] 3)).alloc (.cells #[.int .i64 dims] 3)).alloc (.cells #[.bool true] 4)).heap[w.heap.size]? = some (.cells #[.int .i64 k.f0, .int .i64 k.f1, .string k.f2, .slice A3 k.f3.length c3, .slice A4 k.f4.length c4, .slice A5 k.f5.length c5] 49 (0, 0)) := blk_alloc (blk_alloc (blk_alloc (blk_new _ _) _) _) _
 have hmf : ∀ (fn : Fn) (first cap : Array Value) (w : World), (Instr.makeFunc fn first cap).run Tryz.prog w = .ok (.func fn first cap) w := fun _ _ _ _ => rfl
 by_cases q1 : dims ≤ 24
 ·have e1 : decide (24 < dims) = false := decide_eq_false (by omega)
  have hco' := hco _ hba
  cases hw : ownB fr fa wi nm k vars dims
  ·have HR : Aside0 (allT fr fa wi nm k vars dims = false) := ⟨by rw [HQ.out, hw, decide_eq_true q1]; rfl⟩
   rw [hw] at hco'
   have HBA := Aside0.mk hba
   clear hw hco hba hbv hbd hbb hnb
   go_enter Tryz.func55, Tryz.ntmps55
   go_wp2_with (go_at_call 77; refine hco'.mono ?_; rintro e w1 ⟨rfl, hb1⟩; have HB1 := Aside0.mk hb1; clear hb1 hco')
   go_ret
   exact ⟨by rw [HR.out]; rfl, below_step HBA.out HB1.out⟩
  ·have HR : Aside0 (allT fr fa wi nm k vars dims = (eachL (fun k x y (_ : Unit) => (allT fr fa wi nm k (vars + x) (dims + y), ())) (kidsOf k) ()).1) := ⟨by rw [HQ.out, hw, decide_eq_true q1, all_kids]; rfl⟩
   rw [hw] at hco'
   have HBA := Aside0.mk hba
   have HBV := Aside0.mk hbv
   have HBD := Aside0.mk hbd
   have HBB := Aside0.mk hbb
   have HNB := Aside0.mk hnb
   have HEA : Aside0 (∀ w1, Below w.heap.size w w1 → w1.heap[w.heap.size + 1]? = some (.cells #[.int .i64 vars] 3 (0, 0)) → w1.heap[w.heap.size + 1 + 1]? = some (.cells #[.int .i64 dims] 3 (0, 0)) → w1.heap[w.heap.size + 1 + 1 + 1]? = some (.cells #[.bool true] 4 (0, 0)) →
     Calls Tryz.prog 78 #[.agg #[.int .i64 k.f0, .int .i64 k.f1, .string k.f2, .slice A3 k.f3.length c3, .slice A4 k.f4.length c4, .slice A5 k.f5.length c5], .func (.func 79) #[] #[.pointer (some ⟨w.heap.size + 1, 0, none⟩), .pointer (some ⟨w.heap.size + 1 + 1, 0, none⟩), .pointer (some ⟨w.heap.size + 1 + 1 + 1, 0, none⟩)]] w1 fun e w' => e = .returned (.bool (allT fr fa wi nm k vars dims)) ∧ Below w.heap.size w w') := ⟨fun w1 g0 g1 g2 g3 => by
    rw [HR.out]
    refine (te_each3 HBinds.out 79 (.pointer (some ⟨w.heap.size + 1, 0, none⟩)) (.pointer (some ⟨w.heap.size + 1 + 1, 0, none⟩)) (.pointer (some ⟨w.heap.size + 1 + 1 + 1, 0, none⟩)) (fun k x y (_ : Unit) => (allT fr fa wi nm k (vars + x) (dims + y), ())) (fun _ wx => Below w.heap.size w wx ∧ wx.heap[w.heap.size + 1]? = some (.cells #[.int .i64 vars] 3 (0, 0)) ∧ wx.heap[w.heap.size + 1 + 1]? = some (.cells #[.int .i64 dims] 3 (0, 0)) ∧ wx.heap[w.heap.size + 1 + 1 + 1]? = some (.cells #[.bool true] 4 (0, 0))) (fun wx => Below w.heap.size w wx) (fun q => sizeT q < sizeT k ∧ okS PF PN q) w k _ () w1 eg HK.out
     (fun _ _ h => h.1) (fun _ _ _ h hb => ⟨below_step h.1 hb, blk_below h.2.1 hb, blk_below h.2.2.1 hb, blk_below h.2.2.2 hb⟩)
     (fun q v d s qs w2 hq hvd hs hqK => (all_fn vars dims h0 (by omega) h2 q1 q ⟨fun v d ks w3 hvd hK3 => HIH.out q (vars + v) (dims + d) ks w3 (by omega) hq.2 (by omega) (by omega) (by omega) (by omega) hK3⟩ v d hvd qs _ _ _ w2 (k49.K_below hs.1 hqK) hs.2.1 hs.2.2.1 hs.2.2.2).mono (fun e w' ⟨he, hb⟩ => ⟨he, fun _ => ⟨below_step hs.1 hb, blk_below hs.2.1 hb, blk_below hs.2.2.1 hb, blk_below hs.2.2.2 hb⟩, fun _ => below_step hs.1 hb, KeepT.of_below hb⟩))
     (fun q hq => ⟨sizeT_kid hq, okSL_mem (okS_eq HO.out).2.2.1 hq⟩) (fun b hb q hq => ⟨sizeT_part hb hq, okSL_mem (okSR_eq (okSB_mem (okS_eq HO.out).2.2.2 hb)).2 hq⟩) ⟨g0, g1, g2, g3⟩).mono ?_
    rintro e w' ⟨he, hs1, hn1, _⟩
    refine ⟨he, ?_⟩
    cases hx : (eachL (fun k x y (_ : Unit) => (allT fr fa wi nm k (vars + x) (dims + y), ())) (kidsOf k) ()).1
    ·exact hn1 hx
    ·exact (hs1 hx).1⟩
   clear hw hco hba hbv hbd hbb hnb
   go_enter Tryz.func55, Tryz.ntmps55
   go_wp2_with (first
    | (go_at_call 77; refine hco'.mono ?_; rintro e w1 ⟨rfl, hb1⟩; have HN1 := Aside0.mk (blk_below HNB.out hb1); have hq0 := (blk_cell HN1.out 0).trans (rfl : _ = some (Value.int .i64 k.f0)); have hq1 := (blk_cell HN1.out 1).trans (rfl : _ = some (Value.int .i64 k.f1)); have hq2 := (blk_cell HN1.out 2).trans (rfl : _ = some (Value.string k.f2)); have hq3 := (blk_cell HN1.out 3).trans (rfl : _ = some (Value.slice A3 k.f3.length c3)); have hq4 := (blk_cell HN1.out 4).trans (rfl : _ = some (Value.slice A4 k.f4.length c4)); have hq5 := (blk_cell HN1.out 5).trans (rfl : _ = some (Value.slice A5 k.f5.length c5)); have hce := HEA.out w1 (below_step HBA.out hb1) (blk_below HBV.out hb1) (blk_below HBD.out hb1) (blk_below HBB.out hb1); clear hb1 hco')
    | (go_at_call 78; refine hce.mono ?_; rintro e w2 ⟨rfl, hb2⟩; have HB2 := Aside0.mk hb2; clear hb2 hce))
   go_ret
   exact ⟨rfl, HB2.out⟩
 ·have e1 : decide (24 < dims) = true := decide_eq_true (by omega)
  have HR : Aside0 (allT fr fa wi nm k vars dims = false) := ⟨by rw [HQ.out, decide_eq_false q1]; rfl⟩
  have HBA := Aside0.mk hba
  clear hco hba hbv hbd hbb hnb
  go_enter Tryz.func55, Tryz.ntmps55
  go_wp2
  go_ret
  exact ⟨by rw [HR.out]; rfl, HBA.out⟩
end
end Go.Proofs.YtahdjajdaggmjaaGreatDoor.XPa
end
