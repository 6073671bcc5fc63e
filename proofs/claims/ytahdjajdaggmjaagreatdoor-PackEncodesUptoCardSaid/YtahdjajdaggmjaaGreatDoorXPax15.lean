-- Written for this claim by a program of ours (wip/xp.py), out of the translation and of hand-written contracts.
import Derived.Test.YtahdjajdaggmjaaGreatDoorSx
import Derived.Test.YtahdjajdaggmjaaGreatDoorYrec
import Derived.Test.YtahdjajdaggmjaaGreatDoorYdec
import Derived.Test.YtahdjajdaggmjaaGreatDoorZrall
import Derived.Test.YtahdjajdaggmjaaGreatDoorZwr
import Derived.Test.YtahdjajdaggmjaaGreatDoorUtab
import Derived.Test.YtahdjajdaggmjaaGreatDoorXPax8
section
namespace Go.Proofs.YtahdjajdaggmjaaGreatDoor.XPa
noncomputable section
open Go.RowKit Go.Proofs.YtahdjajdaggmjaaGreatDoorW.PrintWords Go.Proofs.YtahdjajdaggmjaaGreatDoorW.PrintLast Go.Proofs.YtahdjajdaggmjaaGreatDoorW.PrintMore
attribute [local go_sem] max2_int min2_int max_two min_two max_three min_three max_four min_four
set_option linter.unusedVariables false
set_option linter.unusedSimpArgs false
attribute [local go_sem high] eqA113
mutual
def r10name.l0 : Nat → ByteArray → Int → Option (Bool)
  | 0, _, _ => none
  | k + 1, x0, x3 => if x3 < (x0.size : Int) then (if 0 ≤ x3 then (if (bt x0 x3) ≥ 48 then (if (bt x0 x3) ≤ 57 then (r10name.j1 k x0 x3 (bt x0 x3) (decide (x3 > 0))) else (r10name.j1 k x0 x3 (bt x0 x3) false)) else (r10name.j1 k x0 x3 (bt x0 x3) false)) else (none)) else (some (decide ((x0.size : Int) > 0)))
def r10name.j1 : Nat → ByteArray → Int → Int → Bool → Option (Bool)
  | 0, _, _, _, _ => none
  | k + 1, x0, x3, x4, x23 => if x23 = true then (r10name.l0 k x0 (wrap64 (x3 + 1))) else (if x4 = 95 then (r10name.l0 k x0 (wrap64 (x3 + 1))) else (if x4 < 97 then (if x4 < 65 then (some false) else (if x4 > 90 then (some false) else (r10name.l0 k x0 (wrap64 (x3 + 1))))) else (if x4 > 122 then (if x4 < 65 then (some false) else (if x4 > 90 then (some false) else (r10name.l0 k x0 (wrap64 (x3 + 1))))) else (r10name.l0 k x0 (wrap64 (x3 + 1))))))
end
def r10name.f (k : Nat) (a0 : ByteArray) : Option (Bool) := r10name.l0 k a0 0
theorem r10name.mono_l : ∀ k, (∀ y0 y1, LeO (r10name.l0 k y0 y1) (r10name.l0 (k + 1) y0 y1)) ∧ (∀ y0 y1 y2 y3, LeO (r10name.j1 k y0 y1 y2 y3) (r10name.j1 (k + 1) y0 y1 y2 y3))
  | 0 => ⟨fun _ _ r h => by simp [r10name.l0] at h, fun _ _ _ _ r h => by simp [r10name.j1] at h⟩
  | k + 1 => by
    obtain ⟨ih0, ih1⟩ := r10name.mono_l k
    refine ⟨?_, ?_⟩
    · intros; unfold r10name.l0; exact tMo
    · intros; unfold r10name.j1; exact tMo
theorem r10name.mono : ∀ a0 k, LeO (r10name.f k a0) (r10name.f (k + 1) a0) := by
  intro a0 k
  obtain ⟨ih0, ih1⟩ := r10name.mono_l k
  unfold r10name.f
  exact tMo
set_option maxHeartbeats 8000000 in
set_option maxRecDepth 100000 in
theorem r10name.calls (k : Nat) (a0 : ByteArray) (r : Bool) (w : World) (h : r10name.f k a0 = some r) :
  Calls Tryz.prog 64 #[.string a0] w fun e w' => e = .returned (.bool r) ∧ Drawn0 w w' := by
 have H : (r10name.l0 k a0 0) = some r := h
 clear h
 have H' := Aside0.mk H
 clear H
 go_enter Tryz.func64, Tryz.ntmps64
 go_wp2
 go_loopg [3] k (fun kq v3 w' => ∃ (x3_1 : Int), v3 = .int .i64 x3_1 ∧ Aside0 (r10name.l0 kq a0 x3_1 = some r) ∧ Aside0 (kq ≤ k) ∧ Drawn0 w w')
 case atStart => exact ⟨(0), tS, H', ⟨Nat.le_refl _⟩, tD⟩
 case round =>
  clear H'
  obtain ⟨x3_1, rfl, HA, HK1, ⟨m1, rfl⟩⟩ := hrel
  cases gk with
  | zero => exact absurd HA.out (by simp [r10name.l0])
  | succ k1 =>
   have H := HA.out
   clear HA
   simp only [r10name.l0] at H
   replace H := iD H
   rcases H with ⟨c2b0, H⟩ | ⟨c2b0, H⟩
   ·replace H := niD H
    obtain ⟨c3b0, H⟩ := H
    have HC5 := Aside0.mk H
    clear H
    have p4 : 0 ≤ (x3_1 : Int) := tA
    have q4 : x3_1 < (a0.size : Int) := tA
    have hx4 := bt_at a0 x3_1
    replace p4 := eq_true p4
    replace q4 := eq_true q4
    go_upto_region 5 with (fail)
    go_cut [23] (fun v23 wc => ∃ (kq : Nat) (x23_4 : Bool), v23 = .bool x23_4 ∧ Aside0 (r10name.j1 kq a0 x3_1 (bt a0 x3_1) x23_4 = some r) ∧ Aside0 (kq ≤ k1) ∧ Drawn0 w wc)
    case first =>
     have H := HC5.out
     clear HC5
     replace H := iG H
     rcases H with ⟨c6b0, H⟩ | ⟨c6b0, H⟩
     ·(first | rw [c6b0] | (simp only [i64_w, i32_w]; rw [c6b0]) | skip)
      replace H := iD H
      rcases H with ⟨c7b0, H⟩ | ⟨c7b0, H⟩
      ·have H' := Aside0.mk H
       clear H
       go_wp2
       go_meet
       case rel => exact ⟨_, (decide (x3_1 > 0)), tS, H', ⟨by have := HK1.out; first | omega | exact Nat.le_refl _⟩, tD⟩
      exact zz6
     (first | rw [c6b0] | (simp only [i64_w, i32_w]; rw [c6b0]) | skip)
     exact zz6
    case rest =>
     clear HC5
     try clear c2b0
     try clear c3b0
     try clear p4
     try clear q4
     try clear hx4
     try clear p4
     try clear q4
     obtain ⟨kq, x23_4, rfl, HA, HJ4, ⟨mc4, rfl⟩⟩ := hcut
     cases kq with
     | zero => exact absurd HA.out (by simp [r10name.j1])
     | succ kj4 =>
      have H := HA.out
      clear HA
      simp only [r10name.j1] at H
      replace H := iB H
      rcases H with ⟨rfl, H⟩ | ⟨rfl, H⟩
      ·exact zz7
      replace H := iE H
      rcases H with ⟨c9b0, c9b1, H⟩ | ⟨c9, c9b0, c9b1, H⟩
      ·exact zz7
      replace H := iD H
      rcases H with ⟨c10b0, H⟩ | ⟨c10b0, H⟩
      ·replace H := iD H
       rcases H with ⟨c11b0, H⟩ | ⟨c11b0, H⟩
       ·exact zz5
       replace H := iH H
       rcases H with ⟨c12b0, H⟩ | ⟨c12b0, H⟩
       ·exact zz5
       exact zz7
      replace H := iH H
      rcases H with ⟨c13b0, H⟩ | ⟨c13b0, H⟩
      ·replace H := iD H
       rcases H with ⟨c14b0, H⟩ | ⟨c14b0, H⟩
       ·exact zz5
       replace H := iH H
       rcases H with ⟨c15b0, H⟩ | ⟨c15b0, H⟩
       ·exact zz5
       exact zz7
      exact zz7
   exact zz5
def r02Same.l0 : Nat → List (S113) → List (S113) → Int → Option (Bool)
  | 0, _, _, _ => none
  | k + 1, x0, x1, x5 => if x5 < (x0.length : Int) then (if 0 ≤ x5 then (if x5 < (x1.length : Int) then (if (!(((rd_T113 x0 x5).f0) == ((rd_T113 x1 x5).f0)) || (!(((rd_T113 x0 x5).f1) == ((rd_T113 x1 x5).f1)))) = true then (some false) else (r02Same.l0 k x0 x1 (wrap64 (x5 + 1)))) else (none)) else (none)) else (some true)
def r02Same.f (k : Nat) (l0 : List (S113)) (l1 : List (S113)) : Option (Bool) := if (l0.length : Int) = (l1.length : Int) then (r02Same.l0 k l0 l1 0) else (some false)
theorem r02Same.mono_l : ∀ k, (∀ y0 y1 y2, LeO (r02Same.l0 k y0 y1 y2) (r02Same.l0 (k + 1) y0 y1 y2))
  | 0 => fun _ _ _ r h => by simp [r02Same.l0] at h
  | k + 1 => by
    have ih0 := r02Same.mono_l k
    · intros; unfold r02Same.l0; exact tMo
theorem r02Same.mono : ∀ a0 a1 k, LeO (r02Same.f k a0 a1) (r02Same.f (k + 1) a0 a1) := by
  intro a0 a1 k
  have ih0 := r02Same.mono_l k
  unfold r02Same.f
  exact tMo
set_option maxHeartbeats 8000000 in
set_option maxRecDepth 100000 in
theorem r02Same.calls (k : Nat) (A0 : Option Addr) (c0 : Nat) (l0 : List (S113)) (A1 : Option Addr) (c1 : Nat) (l1 : List (S113)) (r : Bool) (w : World) (hr0 : Kd.C k113 w A0 l0.length l0) (hc0 : l0.length ≤ c0) (hr1 : Kd.C k113 w A1 l1.length l1) (hc1 : l1.length ≤ c1) (h : r02Same.f k l0 l1 = some r) :
  Calls Tryz.prog 51 #[.slice A0 l0.length c0, .slice A1 l1.length c1] w fun e w' => e = .returned (.bool r) ∧ Drawn0 w w' := by
 have hu113 := Tryz.underlying113
 have HR0 := Aside0.mk hr0
 have HC0 := Aside0.mk hc0
 clear hr0 hc0
 have HR1 := Aside0.mk hr1
 have HC1 := Aside0.mk hc1
 clear hr1 hc1
 have H : (if (l0.length : Int) = (l1.length : Int) then (r02Same.l0 k l0 l1 0) else (some false)) = some r := h
 clear h
 replace H := iEk H
 rcases H with ⟨c3, c3b0, c3b1, H⟩ | ⟨c3, c3b0, c3b1, H⟩
 ·have c3b2 : (l0.length == l1.length) = true := by first | simpa using c3 | (simp at c3 ⊢; omega)
  clear c3
  have H' := Aside0.mk H
  clear H
  go_enter Tryz.func51, Tryz.ntmps51
  go_wp2
  repeat (go_quiet (fail); try go_wp2)
  go_loopg [5] k (fun kq v5 w' => ∃ (x5_1 : Int), v5 = .int .i64 x5_1 ∧ Aside0 (r02Same.l0 kq l0 l1 x5_1 = some r) ∧ Aside0 (kq ≤ k) ∧ Drawn0 w w')
  case atStart => exact ⟨(0), tS, H', ⟨Nat.le_refl _⟩, tD⟩
  case round =>
   clear H'
   try clear c3
   try clear c3b0
   try clear c3b1
   try clear c3b2
   obtain ⟨x5_1, rfl, HA, HK1, ⟨m1, rfl⟩⟩ := hrel
   cases gk with
   | zero => exact absurd HA.out (by simp [r02Same.l0])
   | succ k1 =>
    have H := HA.out
    clear HA
    simp only [r02Same.l0] at H
    replace H := iD H
    rcases H with ⟨c4b0, H⟩ | ⟨c4b0, H⟩
    ·replace H := niD H
     obtain ⟨c5b0, H⟩ := H
     replace H := niD H
     obtain ⟨c6b0, H⟩ := H
     replace H := iC H
     rcases H with ⟨c7, H⟩ | ⟨c7, H⟩
     ·have c7b0 : (!(((rd_T113 l0 x5_1).f0) == ((rd_T113 l1 x5_1).f0)) || (!(((rd_T113 l0 x5_1).f1) == ((rd_T113 l1 x5_1).f1)))) = true := c7
      clear c7
      obtain rfl := Option.some.inj H
      have p248 : 0 ≤ (x5_1 : Int) := tA
      have q248 : x5_1 < (l0.length : Int) := tA
      obtain ⟨ad248, e248, hx248_0, hx248_1⟩ := at_T113 HR0.out x5_1 p248 q248
      cases e248
      replace p248 := eq_true p248
      replace q248 := eq_true q248
      have p249 : 0 ≤ (x5_1 : Int) := tA
      have q249 : x5_1 < (l1.length : Int) := tA
      obtain ⟨ad249, e249, hx249_0, hx249_1⟩ := at_T113 HR1.out x5_1 p249 q249
      cases e249
      replace p249 := eq_true p249
      replace q249 := eq_true q249
      go_wp2
      repeat (go_quiet (fail); try go_wp2)
      go_ret
      exact ⟨tS, tD⟩
     have c7b0 : (!(((rd_T113 l0 x5_1).f0) == ((rd_T113 l1 x5_1).f0)) || (!(((rd_T113 l0 x5_1).f1) == ((rd_T113 l1 x5_1).f1)))) = false := by simpa using c7
     clear c7
     have H' := Aside0.mk H
     clear H
     have p248 : 0 ≤ (x5_1 : Int) := tA
     have q248 : x5_1 < (l0.length : Int) := tA
     obtain ⟨ad248, e248, hx248_0, hx248_1⟩ := at_T113 HR0.out x5_1 p248 q248
     cases e248
     replace p248 := eq_true p248
     replace q248 := eq_true q248
     have p249 : 0 ≤ (x5_1 : Int) := tA
     have q249 : x5_1 < (l1.length : Int) := tA
     obtain ⟨ad249, e249, hx249_0, hx249_1⟩ := at_T113 HR1.out x5_1 p249 q249
     cases e249
     replace p249 := eq_true p249
     replace q249 := eq_true q249
     go_wp2
     repeat (go_quiet (fail); try go_wp2)
     go_roundg k1
     case measure => have := HK1.out; omega
     case rel => exact ⟨(wrap64 (x5_1 + 1)), tS, H', ⟨by have := HK1.out; omega⟩, tD⟩
    exact zz8
 have c3b2 : (l0.length == l1.length) = false := by first | simpa using c3 | (simp at c3 ⊢; omega)
 obtain rfl := Option.some.inj H
 go_enter Tryz.func51, Tryz.ntmps51
 go_wp2
 repeat (go_quiet (fail); try go_wp2)
 go_ret
 exact ⟨tS, tD⟩
def r01power.l0 : Nat → Int → Int → Int → Option (Int)
  | 0, _, _, _ => none
  | k + 1, x0, x3, x4 => if x4 < x0 then (r01power.l0 k x0 (wrap64 (x3 * 2)) (wrap64 (x4 + 1))) else (some x3)
def r01power.f (k : Nat) (a0 : Int) : Option (Int) := r01power.l0 k a0 1 0
theorem r01power.mono_l : ∀ k, (∀ y0 y1 y2, LeO (r01power.l0 k y0 y1 y2) (r01power.l0 (k + 1) y0 y1 y2))
  | 0 => fun _ _ _ r h => by simp [r01power.l0] at h
  | k + 1 => by
    have ih0 := r01power.mono_l k
    · intros; unfold r01power.l0; exact tMo
theorem r01power.mono : ∀ a0 k, LeO (r01power.f k a0) (r01power.f (k + 1) a0) := by
  intro a0 k
  have ih0 := r01power.mono_l k
  unfold r01power.f
  exact tMo
set_option maxHeartbeats 8000000 in
set_option maxRecDepth 100000 in
theorem r01power.calls (k : Nat) (a0 : Int) (r : Int) (w : World) (h : r01power.f k a0 = some r) :
  Calls Tryz.prog 112 #[.int .i64 a0] w fun e w' => e = .returned (.int .i64 r) ∧ Drawn0 w w' := by
 have H : (r01power.l0 k a0 1 0) = some r := h
 clear h
 have H' := Aside0.mk H
 clear H
 go_enter Tryz.func112, Tryz.ntmps112
 go_wp2
 go_loopg [3, 4] k (fun kq v3 v4 w' => ∃ (x3_1 : Int) (x4_1 : Int), v3 = .int .i64 x3_1 ∧ v4 = .int .i64 x4_1 ∧ Aside0 (r01power.l0 kq a0 x3_1 x4_1 = some r) ∧ Aside0 (kq ≤ k) ∧ Drawn0 w w')
 case atStart => exact ⟨(1), (0), tS, tS, H', ⟨Nat.le_refl _⟩, tD⟩
 case round =>
  clear H'
  obtain ⟨x3_1, x4_1, rfl, rfl, HA, HK1, ⟨m1, rfl⟩⟩ := hrel
  cases gk with
  | zero => exact absurd HA.out (by simp [r01power.l0])
  | succ k1 =>
   have H := HA.out
   clear HA
   simp only [r01power.l0] at H
   replace H := iD H
   rcases H with ⟨c2b0, H⟩ | ⟨c2b0, H⟩
   ·have H' := Aside0.mk H
    clear H
    go_wp2
    go_roundg k1
    case measure => have := HK1.out; omega
    case rel => exact ⟨(wrap64 (x3_1 * 2)), (wrap64 (x4_1 + 1)), tS, tS, H', ⟨by have := HK1.out; omega⟩, tD⟩
   exact zz5
def r01Right.f (k : Nat) (a0 : Int) : Option (Bool) := (r01power.f k 24).bind fun t250 => (some (decide ((wrap64 (a0)) < t250)))
set_option maxHeartbeats 8000000 in
set_option maxRecDepth 100000 in
theorem r01Right.calls (k : Nat) (a0 : Int) (r : Bool) (w : World) (h : r01Right.f k a0 = some r) :
  Calls Tryz.prog 110 #[.int .u32 a0] w fun e w' => e = .returned (.bool r) ∧ Drawn0 w w' := by
 have H : ((r01power.f k 24).bind fun t250 => (some (decide ((wrap64 (a0)) < t250)))) = some r := h
 clear h
 replace H := iX H
 obtain ⟨t250, A2, H⟩ := H
 obtain rfl := Option.some.inj H
 go_enter Tryz.func110, Tryz.ntmps110
 go_wp2_with (first | ((with_reducible refine gf_ 112 rfl ?_); refine gC_ (some 5) Tryz.func112 #[.int .i64 24] ?_; (with_reducible refine (r01power.calls k 24 t250 _ A2.out).mono ?_); rintro e w' ⟨rfl, ⟨nd, rfl⟩⟩; refine ⟨_, rfl, ?_⟩))
 go_ret
 exact ⟨tS, tD⟩
def r02Right.f (k : Nat) (a0_0 : Int) (a0_1 : Int) : Option (Bool) := (r01Right.f k a0_0).bind fun t252 => (if t252 = true then ((r01Right.f k a0_1).bind fun t253 => (some t253)) else (some false))
theorem r02Right.z0 {p : Prop} (h_ : p := by go_wp2_with (first | ((with_reducible refine gd_ 1 rfl ?_); refine boxE 1 #[.int .u32 a0_0, .int .u32 a0_1] 113 ?_; intro gb251 hg wa hbox hb; have BK251 := Aside0.mk (hbox); have GW251 := Aside0.mk (tG : w.heap.size ≤ gb251); have GE251 := Aside0.mk (tG : w.heap.size ≤ gb251); replace HB := Aside0.mk (below_step tB hb); clear hb hbox hg; have hcza := cz2 BK251.out) | ((with_reducible refine gf_ 110 rfl ?_); refine gC_ (some 5) Tryz.func110 #[.int .u32 a0_0] ?_; (with_reducible refine (r01Right.calls k a0_0 false _ A2.out).mono ?_); rintro e w' ⟨rfl, ⟨nd, rfl⟩⟩; refine ⟨_, rfl, ?_⟩) | ((with_reducible refine gf_ 110 rfl ?_); refine gC_ (some 5) Tryz.func110 #[.int .u32 a0_0] ?_; (with_reducible refine (r01Right.calls k a0_0 true _ A2.out).mono ?_); rintro e w' ⟨rfl, ⟨nd, rfl⟩⟩; refine ⟨_, rfl, ?_⟩) | (go_at_call 110; (with_reducible refine (r01Right.calls k a0_1 t253 _ A4.out).mono ?_); rintro e w' ⟨rfl, ⟨nd, rfl⟩⟩)); go_ret; exact ⟨tE, by repeat (first | (with_reducible first | exact HB.out | apply below_alloc | apply pw_below_drewN | apply below_drew1 | refine below_set ?_ GE251.out) | exact HB.out)⟩) : p := h_
set_option maxHeartbeats 8000000 in
set_option maxRecDepth 100000 in
theorem r02Right.calls (k : Nat) (a0_0 : Int) (a0_1 : Int) (r : Bool) (w : World) (h : r02Right.f k a0_0 a0_1 = some r) :
  Calls Tryz.prog 98 #[.agg #[.int .u32 a0_0, .int .u32 a0_1]] w fun e w' => e = .returned (.bool r) ∧ Below w.heap.size w w' := by
 have hu113 := Tryz.underlying113
 have HB := Aside0.mk (Below.refl w.heap.size w)
 have H : ((r01Right.f k a0_0).bind fun t252 => (if t252 = true then ((r01Right.f k a0_1).bind fun t253 => (some t253)) else (some false))) = some r := h
 clear h
 replace H := iX H
 obtain ⟨t252, A2, H⟩ := H
 replace H := iB H
 rcases H with ⟨rfl, H⟩ | ⟨rfl, H⟩
 ·replace H := iX H
  obtain ⟨t253, A4, H⟩ := H
  obtain rfl := Option.some.inj H
  go_enter Tryz.func98, Tryz.ntmps98
  exact r02Right.z0
 obtain rfl := Option.some.inj H
 go_enter Tryz.func98, Tryz.ntmps98
 exact r02Right.z0
def r02Below.f (a0_0 : Int) (a0_1 : Int) (a1_0 : Int) (a1_1 : Int) : Option (Bool) := if (Go.bits .or .u32 a0_0 a1_0) = a0_0 then (some ((Go.bits .or .u32 a0_1 a1_1) == a0_1)) else (some false)
theorem r02Below.z0 {p : Prop} (h_ : p := by go_wp2_with (first | ((with_reducible refine gd_ 2 rfl ?_); refine boxE 2 #[.int .u32 a0_0, .int .u32 a0_1] 113 ?_; intro gb254 hg wa hbox hb; have BK254 := Aside0.mk (hbox); have GW254 := Aside0.mk (tG : w.heap.size ≤ gb254); have GE254 := Aside0.mk (tG : w.heap.size ≤ gb254); replace HB := Aside0.mk (below_step tB hb); clear hb hbox hg) | ((with_reducible refine gd_ 3 rfl ?_); refine boxE 3 #[.int .u32 a1_0, .int .u32 a1_1] 113 ?_; intro gb255 hg wa hbox hb; have BK255 := Aside0.mk (hbox); have GW255 := Aside0.mk ((by rw [hg]; exact (below_size (tBs GE254)) : w.heap.size ≤ gb255)); have GE255 := Aside0.mk ((by rw [hg]; exact (below_size (tBs GE254)) : w.heap.size ≤ gb255)); replace HB := Aside0.mk (below_step (tBs GE254) hb); have NB254_255 := Aside0.mk ((by rw [hg]; exact Nat.ne_of_lt (blk_lt (g := gb254) (o := .cells #[.int .u32 a0_0, .int .u32 a0_1] 113 (0, 0)) (tK BK254)) : gb254 ≠ gb255)); have NB255_254 := Aside0.mk ((by rw [hg]; exact Nat.ne_of_gt (blk_lt (g := gb254) (o := .cells #[.int .u32 a0_0, .int .u32 a0_1] 113 (0, 0)) (tK BK254)) : gb255 ≠ gb254)); replace BK254 := Aside0.mk (blk_below (g := gb254) (o := .cells #[.int .u32 a0_0, .int .u32 a0_1] 113 (0, 0)) (tK BK254) hb); clear hb hbox hg; have hnba := NB254_255.out; have hnca := NB255_254.out; have hcza := cz2 BK254.out; have hczb := cz2 BK255.out)); go_ret; exact ⟨tE, by repeat (first | (with_reducible first | exact HB.out | apply below_alloc | apply pw_below_drewN | apply below_drew1 | refine below_set ?_ GE254.out | refine below_set ?_ GE255.out) | exact HB.out)⟩) : p := h_
set_option maxHeartbeats 8000000 in
set_option maxRecDepth 100000 in
theorem r02Below.calls (a0_0 : Int) (a0_1 : Int) (a1_0 : Int) (a1_1 : Int) (r : Bool) (w : World) (h : r02Below.f a0_0 a0_1 a1_0 a1_1 = some r) :
  Calls Tryz.prog 111 #[.agg #[.int .u32 a0_0, .int .u32 a0_1], .agg #[.int .u32 a1_0, .int .u32 a1_1]] w fun e w' => e = .returned (.bool r) ∧ Below w.heap.size w w' := by
 have hu113 := Tryz.underlying113
 have HB := Aside0.mk (Below.refl w.heap.size w)
 have H : (if (Go.bits .or .u32 a0_0 a1_0) = a0_0 then (some ((Go.bits .or .u32 a0_1 a1_1) == a0_1)) else (some false)) = some r := h
 clear h
 replace H := iE H
 rcases H with ⟨c3b0, c3b1, H⟩ | ⟨c3, c3b0, c3b1, H⟩
 ·obtain rfl := Option.some.inj H
  go_enter Tryz.func111, Tryz.ntmps111
  exact r02Below.z0
 obtain rfl := Option.some.inj H
 go_enter Tryz.func111, Tryz.ntmps111
 exact r02Below.z0
def r02needed.l0 : Nat → List (S113) → Int → Int → Int → Option (Bool)
  | 0, _, _, _, _ => none
  | k + 1, x0, x5, x257000, x257001 => if x5 < (x0.length : Int) then (if 0 ≤ x5 then (if (!(((rd_T113 x0 x5).f0) == x257000) || (!(((rd_T113 x0 x5).f1) == x257001))) = true then ((r02Below.f x257000 x257001 ((rd_T113 x0 x5).f0) ((rd_T113 x0 x5).f1)).bind fun t259 => (if t259 = true then (some false) else (r02needed.l0 k x0 (wrap64 (x5 + 1)) x257000 x257001))) else (r02needed.l0 k x0 (wrap64 (x5 + 1)) x257000 x257001)) else (none)) else (some true)
def r02needed.f (k : Nat) (l0 : List (S113)) (a1_0 : Int) (a1_1 : Int) : Option (Bool) := r02needed.l0 k l0 0 a1_0 a1_1
def r02needed.T4 : Bool × List (List Nat × List Nat) := (true, [([], []), ([], []), ([0, 1], [0, 1]), ([2], [2]), ([], []), ([3, 4], [3, 4]), ([5], [5]), ([6], [6]), ([6], [6]), ([6], [6]), ([8, 9, 6], [6, 8, 9]), ([10, 6], [6, 10]), ([7, 11, 6, 6], [6, 7, 11]), ([6, 12], [6, 12])])
def r02needed.B4 : List Nat := [0, 0, 3, 7, 0, 31, 63, 127, 127, 127, 895, 1919, 4095, 8191]
theorem r02needed.tab4 : rtab .any (opsOf Tryz.f99 4) = r02needed.T4 := by kernel_rfl
theorem r02needed.bits4 : waitsOk r02needed.T4.2 r02needed.B4 = true := by kernel_rfl
set_option maxHeartbeats 8000000 in
set_option maxRecDepth 100000 in
theorem r02needed.calls (k : Nat) (A0 : Option Addr) (c0 : Nat) (l0 : List (S113)) (a1_0 : Int) (a1_1 : Int) (r : Bool) (w : World) (hr0 : Kd.C k113 w A0 l0.length l0) (hc0 : l0.length ≤ c0) (h : r02needed.f k l0 a1_0 a1_1 = some r) :
  Calls Tryz.prog 99 #[.slice A0 l0.length c0, .agg #[.int .u32 a1_0, .int .u32 a1_1]] w fun e w' => e = .returned (.bool r) ∧ Below w.heap.size w w' := by
 have hu113 := Tryz.underlying113
 have HR0 := Aside0.mk hr0
 have HC0 := Aside0.mk hc0
 clear hr0 hc0
 have HB := Aside0.mk (Below.refl w.heap.size w)
 have H : (r02needed.l0 k l0 0 a1_0 a1_1) = some r := h
 clear h
 have H' := Aside0.mk H
 clear H
 go_enter Tryz.func99, Tryz.ntmps99
 go_wp2_with (first | ((with_reducible refine gd_ 3 rfl ?_); refine boxE 3 #[.int .u32 a1_0, .int .u32 a1_1] 113 ?_; intro gb256 hg w3 hbox hb; have BK256 := Aside0.mk (hbox); have GW256 := Aside0.mk (tG : w.heap.size ≤ gb256); have GE256 := Aside0.mk (tG : w.heap.size ≤ gb256); replace HB := Aside0.mk (below_step tB hb); clear hb hbox hg))
 go_loopg [5] k (fun kq v5 w' => ∃ (x5_1 : Int), v5 = .int .i64 x5_1 ∧ Aside0 (r02needed.l0 kq l0 x5_1 a1_0 a1_1 = some r) ∧ Aside0 (kq ≤ k) ∧ Aside0 (w'.heap[gb256]? = some (.cells #[.int .u32 a1_0, .int .u32 a1_1] 113 (0, 0))) ∧ Aside0 (Below w.heap.size w w'))
 case atStart => exact ⟨(0), tS, H', ⟨Nat.le_refl _⟩, ⟨tK BK256⟩, ⟨tBs GE256⟩⟩
 case round =>
  clear H'
  obtain ⟨x5_1, rfl, HA, HK1, BK256, HB⟩ := hrel
  cases gk with
  | zero => exact absurd HA.out (by simp [r02needed.l0])
  | succ k1 =>
   have H := HA.out
   clear HA
   simp only [r02needed.l0] at H
   replace H := iD H
   rcases H with ⟨c4b0, H⟩ | ⟨c4b0, H⟩
   ·replace H := niD H
    obtain ⟨c5b0, H⟩ := H
    replace H := iC H
    rcases H with ⟨c6, H⟩ | ⟨c6, H⟩
    ·have c6b0 : (!(((rd_T113 l0 x5_1).f0) == a1_0) || (!(((rd_T113 l0 x5_1).f1) == a1_1))) = true := c6
     clear c6
     replace H := iX H
     obtain ⟨t259, A7, H⟩ := H
     replace H := iB H
     rcases H with ⟨rfl, H⟩ | ⟨rfl, H⟩
     ·obtain rfl := Option.some.inj H
      try go_wp2
      have n0_ := Aside0.mk (blk_drew BK256.out)
      have n1_ := Aside0.mk (below_drew1 HB.out)
      clear BK256
      clear HB
      have BK256 := n0_
      have HB := n1_
      clear n0_ n1_
      have p257 : 0 ≤ (x5_1 : Int) := tA
      have q257 : x5_1 < (l0.length : Int) := tA
      obtain ⟨ad257, e257, hx257_0, hx257_1⟩ := at_T113 HR0.out x5_1 p257 q257
      have hw257_1 := hx257_1
      have hw257_0 := hx257_0
      cases e257
      replace hx257_0 := tc HB hx257_0
      replace hx257_1 := tc HB hx257_1
      replace p257 := eq_true p257
      replace q257 := eq_true q257
      have p258 : 0 ≤ (x5_1 : Int) := tA
      have q258 : x5_1 < (l0.length : Int) := tA
      obtain ⟨ad258, e258, hx258_0, hx258_1⟩ := at_T113 HR0.out x5_1 p258 q258
      have hw258_1 := hx258_1
      have hw258_0 := hx258_0
      obtain rfl : ad257 = ad258 := (by injection e258)
      replace hx258_0 := tc HB hx258_0
      replace hx258_1 := tc HB hx258_1
      replace p258 := eq_true p258
      replace q258 := eq_true q258
      refine start_ (n := 14) (S := fun w' => w'.cell? ⟨gb256, 0, none⟩ = some (.int .u32 a1_0) ∧ w'.cell? ⟨gb256, 1, none⟩ = some (.int .u32 a1_1) ∧ w'.cell? (ad257.add ((x5_1).toNat * 2)) = some (.int .u32 ((rd_T113 l0 x5_1).f0)) ∧ w'.cell? ⟨(ad257.add ((x5_1).toNat * 2)).block, (ad257.add ((x5_1).toNat * 2)).off + 1, none⟩ = some (.int .u32 ((rd_T113 l0 x5_1).f1)) ∧ w'.cell? (ad257.add ((x5_1).toNat * 2)) = some (.int .u32 ((rd_T113 l0 x5_1).f0)) ∧ w'.cell? ⟨(ad257.add ((x5_1).toNat * 2)).block, (ad257.add ((x5_1).toNat * 2)).off + 1, none⟩ = some (.int .u32 ((rd_T113 l0 x5_1).f1))) (ds := []) #[false, false, false, false, false, false, false, false, false, false, false, false, false, false] (by kernel_rfl) rfl rfl ⟨(blk_cell BK256.out 0).trans rfl, (blk_cell BK256.out 1).trans rfl, ((HB.out.cell (World.block_lt_of_cell? w _ hw257_0)).trans hw257_0), ((HB.out.cell (World.block_lt_of_cell? w _ hw257_1)).trans hw257_1), ((HB.out.cell (World.block_lt_of_cell? w _ hw258_0)).trans hw258_0), ((HB.out.cell (World.block_lt_of_cell? w _ hw258_1)).trans hw258_1)⟩ (fun hHeld => ?_); refine with_tabW r02needed.tab4 r02needed.bits4 (fun HT_ HW_ => ?_)
      generalize wr.drew = w9 at BK256 HB hx257_0 hx257_1 hx258_0 hx258_1 hHeld ⊢
      refine pw_ 0 12 ?_
      refine pw_ 1 13 ?_
      refine pw_ 2 14 ?_
      refine tw_ 3 15 ?_
      refine tw_ 4 16 ?_
      refine pw_ 5 17 ?_
      refine pw_ 6 18 ?_
      refine pw_ 8 20 ?_
      refine pw_ 9 21 ?_
      refine pw_ 10 22 ?_
      refine tw_ 7 19 ?_
      refine tw_ 11 23 ?_
      refine on_ 12 (some 24) fun K hK => ?_
      refine goes_ Tryz.func111 (by kernel_rfl) rfl #[.agg #[.int .u32 a1_0, .int .u32 a1_1], .agg #[.int .u32 ((rd_T113 l0 x5_1).f0), .int .u32 ((rd_T113 l0 x5_1).f1)]] (by rfl) rfl rfl tM ?_
      with_reducible refine (r02Below.calls a1_0 a1_1 ((rd_T113 l0 x5_1).f0) ((rd_T113 l0 x5_1).f1) true _ A7.out).mono ?_
      rintro e w10 ⟨rfl, hb⟩
      refine ⟨_, rfl, ?_⟩
      have n0_ := Aside0.mk (blk_below (g := gb256) (o := .cells #[.int .u32 a1_0, .int .u32 a1_1] 113 (0, 0)) (tK BK256) hb)
      have n1_ := Aside0.mk (below_step (tBs GE256) hb)
      clear BK256
      clear HB
      have BK256 := n0_
      have HB := n1_
      clear n0_ n1_
      (try clear hb)
      (try clear hb2)
      (try clear hk)
      (try clear hi)
      refine hK.out _ _ ⟨(blk_cell BK256.out 0).trans rfl, (blk_cell BK256.out 1).trans rfl, ((HB.out.cell (World.block_lt_of_cell? w _ hw257_0)).trans hw257_0), ((HB.out.cell (World.block_lt_of_cell? w _ hw257_1)).trans hw257_1), ((HB.out.cell (World.block_lt_of_cell? w _ hw258_0)).trans hw258_0), ((HB.out.cell (World.block_lt_of_cell? w _ hw258_1)).trans hw258_1)⟩ (fun hHeld => ?_)
      clear hK K
      refine norm_ (a' := ?_) ?_ ?_
      rotate_left
      ·show Act.put _ (some 24) _ = _
       simp only [Act.put, List.setIfInBounds_toArray, List.set_cons_zero, List.set_cons_succ, i64_w, i32_w]
       rfl
      refine pw_ 13 25 ?_
      refine done_ (done_of HT_.out (by kernel_rfl)) ?_
      try go_wp2
      go_ret
      exact ⟨tE, by repeat (first | (with_reducible first | exact HB.out | apply below_alloc | apply pw_below_drewN | apply below_drew1 | refine below_set ?_ GE256.out) | exact HB.out)⟩
     have H' := Aside0.mk H
     clear H
     try go_wp2
     have n0_ := Aside0.mk (blk_drew BK256.out)
     have n1_ := Aside0.mk (below_drew1 HB.out)
     clear BK256
     clear HB
     have BK256 := n0_
     have HB := n1_
     clear n0_ n1_
     have p257 : 0 ≤ (x5_1 : Int) := tA
     have q257 : x5_1 < (l0.length : Int) := tA
     obtain ⟨ad257, e257, hx257_0, hx257_1⟩ := at_T113 HR0.out x5_1 p257 q257
     have hw257_1 := hx257_1
     have hw257_0 := hx257_0
     cases e257
     replace hx257_0 := tc HB hx257_0
     replace hx257_1 := tc HB hx257_1
     replace p257 := eq_true p257
     replace q257 := eq_true q257
     have p258 : 0 ≤ (x5_1 : Int) := tA
     have q258 : x5_1 < (l0.length : Int) := tA
     obtain ⟨ad258, e258, hx258_0, hx258_1⟩ := at_T113 HR0.out x5_1 p258 q258
     have hw258_1 := hx258_1
     have hw258_0 := hx258_0
     obtain rfl : ad257 = ad258 := (by injection e258)
     replace hx258_0 := tc HB hx258_0
     replace hx258_1 := tc HB hx258_1
     replace p258 := eq_true p258
     replace q258 := eq_true q258
     refine start_ (n := 14) (S := fun w' => w'.cell? ⟨gb256, 0, none⟩ = some (.int .u32 a1_0) ∧ w'.cell? ⟨gb256, 1, none⟩ = some (.int .u32 a1_1) ∧ w'.cell? (ad257.add ((x5_1).toNat * 2)) = some (.int .u32 ((rd_T113 l0 x5_1).f0)) ∧ w'.cell? ⟨(ad257.add ((x5_1).toNat * 2)).block, (ad257.add ((x5_1).toNat * 2)).off + 1, none⟩ = some (.int .u32 ((rd_T113 l0 x5_1).f1)) ∧ w'.cell? (ad257.add ((x5_1).toNat * 2)) = some (.int .u32 ((rd_T113 l0 x5_1).f0)) ∧ w'.cell? ⟨(ad257.add ((x5_1).toNat * 2)).block, (ad257.add ((x5_1).toNat * 2)).off + 1, none⟩ = some (.int .u32 ((rd_T113 l0 x5_1).f1))) (ds := []) #[false, false, false, false, false, false, false, false, false, false, false, false, false, false] (by kernel_rfl) rfl rfl ⟨(blk_cell BK256.out 0).trans rfl, (blk_cell BK256.out 1).trans rfl, ((HB.out.cell (World.block_lt_of_cell? w _ hw257_0)).trans hw257_0), ((HB.out.cell (World.block_lt_of_cell? w _ hw257_1)).trans hw257_1), ((HB.out.cell (World.block_lt_of_cell? w _ hw258_0)).trans hw258_0), ((HB.out.cell (World.block_lt_of_cell? w _ hw258_1)).trans hw258_1)⟩ (fun hHeld => ?_); refine with_tabW r02needed.tab4 r02needed.bits4 (fun HT_ HW_ => ?_)
     generalize wr.drew = w11 at BK256 HB hx257_0 hx257_1 hx258_0 hx258_1 hHeld ⊢
     refine pw_ 0 12 ?_
     refine pw_ 1 13 ?_
     refine pw_ 2 14 ?_
     refine tw_ 3 15 ?_
     refine tw_ 4 16 ?_
     refine pw_ 5 17 ?_
     refine pw_ 6 18 ?_
     refine pw_ 8 20 ?_
     refine pw_ 9 21 ?_
     refine pw_ 10 22 ?_
     refine tw_ 7 19 ?_
     refine tw_ 11 23 ?_
     refine on_ 12 (some 24) fun K hK => ?_
     refine goes_ Tryz.func111 (by kernel_rfl) rfl #[.agg #[.int .u32 a1_0, .int .u32 a1_1], .agg #[.int .u32 ((rd_T113 l0 x5_1).f0), .int .u32 ((rd_T113 l0 x5_1).f1)]] (by rfl) rfl rfl tM ?_
     with_reducible refine (r02Below.calls a1_0 a1_1 ((rd_T113 l0 x5_1).f0) ((rd_T113 l0 x5_1).f1) false _ A7.out).mono ?_
     rintro e w12 ⟨rfl, hb⟩
     refine ⟨_, rfl, ?_⟩
     have n0_ := Aside0.mk (blk_below (g := gb256) (o := .cells #[.int .u32 a1_0, .int .u32 a1_1] 113 (0, 0)) (tK BK256) hb)
     have n1_ := Aside0.mk (below_step (tBs GE256) hb)
     clear BK256
     clear HB
     have BK256 := n0_
     have HB := n1_
     clear n0_ n1_
     (try clear hb)
     (try clear hb2)
     (try clear hk)
     (try clear hi)
     refine hK.out _ _ ⟨(blk_cell BK256.out 0).trans rfl, (blk_cell BK256.out 1).trans rfl, ((HB.out.cell (World.block_lt_of_cell? w _ hw257_0)).trans hw257_0), ((HB.out.cell (World.block_lt_of_cell? w _ hw257_1)).trans hw257_1), ((HB.out.cell (World.block_lt_of_cell? w _ hw258_0)).trans hw258_0), ((HB.out.cell (World.block_lt_of_cell? w _ hw258_1)).trans hw258_1)⟩ (fun hHeld => ?_)
     clear hK K
     refine norm_ (a' := ?_) ?_ ?_
     rotate_left
     ·show Act.put _ (some 24) _ = _
      simp only [Act.put, List.setIfInBounds_toArray, List.set_cons_zero, List.set_cons_succ, i64_w, i32_w]
      rfl
     refine pw_ 13 25 ?_
     refine done_ (done_of HT_.out (by kernel_rfl)) ?_
     try go_wp2
     go_roundg k1
     case measure => have := HK1.out; omega
     case rel => exact ⟨(wrap64 (x5_1 + 1)), tS, H', ⟨by have := HK1.out; omega⟩, ⟨tK BK256⟩, ⟨tBs GE256⟩⟩
    have c6b0 : (!(((rd_T113 l0 x5_1).f0) == a1_0) || (!(((rd_T113 l0 x5_1).f1) == a1_1))) = false := by simpa using c6
    clear c6
    have H' := Aside0.mk H
    clear H
    try go_wp2
    have n0_ := Aside0.mk (blk_drew BK256.out)
    have n1_ := Aside0.mk (below_drew1 HB.out)
    clear BK256
    clear HB
    have BK256 := n0_
    have HB := n1_
    clear n0_ n1_
    have p257 : 0 ≤ (x5_1 : Int) := tA
    have q257 : x5_1 < (l0.length : Int) := tA
    obtain ⟨ad257, e257, hx257_0, hx257_1⟩ := at_T113 HR0.out x5_1 p257 q257
    have hw257_1 := hx257_1
    have hw257_0 := hx257_0
    cases e257
    replace hx257_0 := tc HB hx257_0
    replace hx257_1 := tc HB hx257_1
    replace p257 := eq_true p257
    replace q257 := eq_true q257
    refine start_ (n := 14) (S := fun w' => w'.cell? ⟨gb256, 0, none⟩ = some (.int .u32 a1_0) ∧ w'.cell? ⟨gb256, 1, none⟩ = some (.int .u32 a1_1) ∧ w'.cell? (ad257.add ((x5_1).toNat * 2)) = some (.int .u32 ((rd_T113 l0 x5_1).f0)) ∧ w'.cell? ⟨(ad257.add ((x5_1).toNat * 2)).block, (ad257.add ((x5_1).toNat * 2)).off + 1, none⟩ = some (.int .u32 ((rd_T113 l0 x5_1).f1))) (ds := []) #[false, false, false, false, false, false, false, false, false, false, false, false, false, false] (by kernel_rfl) rfl rfl ⟨(blk_cell BK256.out 0).trans rfl, (blk_cell BK256.out 1).trans rfl, ((HB.out.cell (World.block_lt_of_cell? w _ hw257_0)).trans hw257_0), ((HB.out.cell (World.block_lt_of_cell? w _ hw257_1)).trans hw257_1)⟩ (fun hHeld => ?_); refine with_tabW r02needed.tab4 r02needed.bits4 (fun HT_ HW_ => ?_)
    generalize wr.drew = w13 at BK256 HB hx257_0 hx257_1 hHeld ⊢
    refine pw_ 0 12 ?_
    refine pw_ 1 13 ?_
    refine pw_ 2 14 ?_
    refine tw_ 3 15 ?_
    refine tw_ 4 16 ?_
    refine pw_ 5 17 ?_
    refine pw_ 6 18 ?_
    refine po_ 7 19 ?_
    refine po_ 8 20 ?_
    refine po_ 9 21 ?_
    refine po_ 10 22 ?_
    refine po_ 11 23 ?_
    refine po_ 12 24 ?_
    refine pw_ 13 25 ?_
    refine done_ (done_of HT_.out (by kernel_rfl)) ?_
    try go_wp2
    go_roundg k1
    case measure => have := HK1.out; omega
    case rel => exact ⟨(wrap64 (x5_1 + 1)), tS, H', ⟨by have := HK1.out; omega⟩, ⟨tK BK256⟩, ⟨tBs GE256⟩⟩
   obtain rfl := Option.some.inj H
   go_wp2
   go_ret
   exact ⟨tE, by repeat (first | (with_reducible first | exact HB.out | apply below_alloc | apply pw_below_drewN | apply below_drew1 | refine below_set ?_ GE256.out) | exact HB.out)⟩
def r02Less.f (a0_0 : Int) (a0_1 : Int) (a1_0 : Int) (a1_1 : Int) : Option (Bool) := if a0_0 < a1_0 then (some true) else (if a0_0 = a1_0 then (some (decide (a0_1 < a1_1))) else (some false))
theorem r02Less.z0 {p : Prop} (h_ : p := by go_wp2_with (first | ((with_reducible refine gd_ 2 rfl ?_); refine boxE 2 #[.int .u32 a0_0, .int .u32 a0_1] 113 ?_; intro gb260 hg wa hbox hb; have BK260 := Aside0.mk (hbox); have GW260 := Aside0.mk (tG : w.heap.size ≤ gb260); have GE260 := Aside0.mk (tG : w.heap.size ≤ gb260); replace HB := Aside0.mk (below_step tB hb); clear hb hbox hg) | ((with_reducible refine gd_ 3 rfl ?_); refine boxE 3 #[.int .u32 a1_0, .int .u32 a1_1] 113 ?_; intro gb261 hg wa hbox hb; have BK261 := Aside0.mk (hbox); have GW261 := Aside0.mk ((by rw [hg]; exact (below_size (tBs GE260)) : w.heap.size ≤ gb261)); have GE261 := Aside0.mk ((by rw [hg]; exact (below_size (tBs GE260)) : w.heap.size ≤ gb261)); replace HB := Aside0.mk (below_step (tBs GE260) hb); have NB260_261 := Aside0.mk ((by rw [hg]; exact Nat.ne_of_lt (blk_lt (g := gb260) (o := .cells #[.int .u32 a0_0, .int .u32 a0_1] 113 (0, 0)) (tK BK260)) : gb260 ≠ gb261)); have NB261_260 := Aside0.mk ((by rw [hg]; exact Nat.ne_of_gt (blk_lt (g := gb260) (o := .cells #[.int .u32 a0_0, .int .u32 a0_1] 113 (0, 0)) (tK BK260)) : gb261 ≠ gb260)); replace BK260 := Aside0.mk (blk_below (g := gb260) (o := .cells #[.int .u32 a0_0, .int .u32 a0_1] 113 (0, 0)) (tK BK260) hb); clear hb hbox hg; have hnba := NB260_261.out; have hnca := NB261_260.out; have hcza := cz2 BK260.out; have hczb := cz2 BK261.out)); go_ret; exact ⟨tE, by repeat (first | (with_reducible first | exact HB.out | apply below_alloc | apply pw_below_drewN | apply below_drew1 | refine below_set ?_ GE260.out | refine below_set ?_ GE261.out) | exact HB.out)⟩) : p := h_
set_option maxHeartbeats 8000000 in
set_option maxRecDepth 100000 in
theorem r02Less.calls (a0_0 : Int) (a0_1 : Int) (a1_0 : Int) (a1_1 : Int) (r : Bool) (w : World) (h : r02Less.f a0_0 a0_1 a1_0 a1_1 = some r) :
  Calls Tryz.prog 100 #[.agg #[.int .u32 a0_0, .int .u32 a0_1], .agg #[.int .u32 a1_0, .int .u32 a1_1]] w fun e w' => e = .returned (.bool r) ∧ Below w.heap.size w w' := by
 have hu113 := Tryz.underlying113
 have HB := Aside0.mk (Below.refl w.heap.size w)
 have H : (if a0_0 < a1_0 then (some true) else (if a0_0 = a1_0 then (some (decide (a0_1 < a1_1))) else (some false))) = some r := h
 clear h
 replace H := iD H
 rcases H with ⟨c3b0, H⟩ | ⟨c3b0, H⟩
 ·obtain rfl := Option.some.inj H
  go_enter Tryz.func100, Tryz.ntmps100
  exact r02Less.z0
 replace H := iE H
 rcases H with ⟨c9b0, c9b1, H⟩ | ⟨c9, c9b0, c9b1, H⟩
 ·obtain rfl := Option.some.inj H
  go_enter Tryz.func100, Tryz.ntmps100
  exact r02Less.z0
 obtain rfl := Option.some.inj H
 go_enter Tryz.func100, Tryz.ntmps100
 exact r02Less.z0
theorem power24 : r01power.f 30 24 = some 16777216 := by decide +kernel
theorem refr24 (x : UInt32) : r01Right.f 30 (un x) = some (H.r1 x) := by
  have h := un_range x
  have e : wrap64 (un x) = un x := by
    unfold wrap64
    omega
  unfold r01Right.f
  rw [power24, Option.bind_some, e]
  unfold H.r1 un
  rw [Option.some.injEq, Bool.eq_iff_iff, decide_eq_true_eq, decide_eq_true_eq]
  omega
theorem refright24 (c : H.C) : r02Right.f 30 (un c.1) (un c.2) = some (H.ok c) := by
  unfold r02Right.f
  rw [refr24, Option.bind_some, refr24, Option.bind_some]
  unfold H.ok
  cases H.r1 c.1 <;> rfl
theorem refbelow24 (a b : H.C) : r02Below.f (un a.1) (un a.2) (un b.1) (un b.2) = some (H.below a b) := by
  unfold r02Below.f
  rw [un_or, un_or, un_beq]
  by_cases h : a.1 ||| b.1 = a.1
  · rw [if_pos (by rw [h]), Option.some.injEq, Bool.eq_iff_iff, H.below_iff]
    simp [h]
  · rw [if_neg (fun e => h (un_inj.1 e)), Option.some.injEq, Bool.eq_iff_iff, H.below_iff]
    simp [h]
theorem less24 (a b : H.C) : r02Less.f (un a.1) (un a.2) (un b.1) (un b.2) = some (H.ltC a b) := by
  unfold r02Less.f H.ltC
  by_cases h : a.1.toNat < b.1.toNat
  · rw [if_pos (by unfold un; omega), decide_eq_true (.inl h)]
  · rw [if_neg (by unfold un; omega)]
    by_cases h2 : a.1 = b.1
    · rw [if_pos (by rw [h2]), Option.some.injEq, Bool.eq_iff_iff, decide_eq_true_eq, decide_eq_true_eq]
      unfold un
      constructor
      · intro h3
        exact .inr ⟨h2, by omega⟩
      · rintro (h3 | ⟨_, h3⟩)
        · exact absurd h3 h
        · omega
    · rw [if_neg (fun e => h2 (un_inj.1 e)), decide_eq_false]
      rintro (h3 | ⟨h3, _⟩)
      · exact h h3
      · exact h2 h3
theorem needed_l024 (l : List H.C) (c : H.C) (hl : l.length ≤ 1000000) : ∀ (d k i : Nat), i + d = l.length → d < k → (∀ x ∈ l.take i, (decide (x ≠ c) && H.below c x) = false) → r02needed.l0 k (l.map ofC24) (i : Int) (un c.1) (un c.2) = some (H.needed l c)
  | d, 0, _, _, hk, _ => absurd hk (by omega)
  | 0, k + 1, i, hi, _, ht => by
    rw [r02needed.l0, if_neg (by rw [List.length_map]; omega)]
    unfold H.needed
    rw [List.any_eq_false.2]
    · rfl
    · intro x hx
      rw [ht x (by rw [List.take_of_length_le (by omega)]; exact hx)]
      exact Bool.false_ne_true
  | d + 1, k + 1, i, hi, hk, ht => by
    have hil : i < l.length := by omega
    have e2 : wrap64 ((i : Int) + 1) = ((i + 1 : Nat) : Int) := by
      unfold wrap64
      omega
    have r : rd_T113 (l.map ofC24) (i : Int) = ofC24 l[i] := by
      unfold rd_T113
      rw [Int.toNat_natCast, List.getD_eq_getElem?_getD, List.getElem?_map, List.getElem?_eq_getElem hil]
      rfl
    have hq : (!((ofC24 l[i]).f0 == un c.1) || !((ofC24 l[i]).f1 == un c.2)) = decide (l[i] ≠ c) := by
      unfold ofC24
      rw [un_beq, un_beq, Bool.eq_iff_iff]
      simp [Prod.ext_iff]
    have next : (decide (l[i] ≠ c) && H.below c l[i]) = false → r02needed.l0 k (l.map ofC24) ((i + 1 : Nat) : Int) (un c.1) (un c.2) = some (H.needed l c) := fun hn => by
      refine needed_l024 l c hl d k (i + 1) (by omega) (by omega) fun x hx => ?_
      rw [List.take_succ_eq_append_getElem hil] at hx
      rcases List.mem_append.1 hx with h | h
      · exact ht x h
      · rw [List.mem_singleton.1 h]
        exact hn
    have hB : r02Below.f (un c.1) (un c.2) (ofC24 l[i]).f0 (ofC24 l[i]).f1 = some (H.below c l[i]) := refbelow24 c l[i]
    rw [r02needed.l0, if_pos (by rw [List.length_map]; omega), if_pos (by omega), r, hq, e2, hB, Option.bind_some]
    by_cases h1 : l[i] = c
    · rw [if_neg (by simp [h1])]
      exact next (by simp [h1])
    · rw [if_pos (by simp [h1])]
      cases h2 : H.below c l[i]
      · rw [if_neg (by simp)]
        exact next (by rw [h2, Bool.and_false])
      · rw [if_pos rfl]
        unfold H.needed
        rw [List.any_eq_true.2 ⟨l[i], List.getElem_mem _, by rw [h2]; simp [h1]⟩]
        rfl
theorem smallR24 : SmallR where
  right c w := r02Right.calls 30 (un c.1) (un c.2) (H.ok c) w (refright24 c)
  less a b w := r02Less.calls (un a.1) (un a.2) (un b.1) (un b.2) (H.ltC a b) w (less24 a b)
  needed A cap l c w hR hc hl := by
    have h := r02needed.calls (l.length + 1) A cap (l.map ofC24) (un c.1) (un c.2) (H.needed l c) w (kd24 hR hl) (by rw [List.length_map]; exact hc) (needed_l024 l c hl l.length _ 0 (by omega) (by omega) (by simp))
    rw [List.length_map] at h
    exact h
def r02Least.f (l0 : List S113) : Option (List S113 × Int) := if okL24 l0 then some ((H.leastR (l0.map toC24)).1.map ofC24, (H.leastR (l0.map toC24)).2) else none
theorem r02Least.calls (A0 : Option Addr) (c0 : Nat) (l0 : List (S113)) (r1 : List (S113)) (r2 : Int) (w : World) (hr0 : Kd.C k113 w A0 l0.length l0) (hc0 : l0.length ≤ c0) (h : r02Least.f l0 = some (r1, r2)) :
    Calls Tryz.prog 81 #[.slice A0 l0.length c0] w fun e w' => ∃ v0_ : Value, e = .returned (.tuple #[v0_, .int .i64 r2]) ∧ Kd.R k113 113 w' w.heap.size (fun _ => True) v0_ r1 ∧ Below w.heap.size w w' := by
 unfold r02Least.f at h
 by_cases hr : okL24 l0
 ·rw [if_pos hr] at h
  simp only [Option.some.injEq, Prod.mk.injEq] at h
  obtain ⟨rfl, rfl⟩ := h
  have hk0 := hr
  have hc := ref_Least smallR24 A0 c0 (l0.map toC24) w (rd24 hr0 hk0.1 hk0.2) (by rw [List.length_map]; exact hc0) (by rw [List.length_map]; exact hk0.2)
  simp only [List.length_map] at hc
  refine hc.mono ?_
  rintro e w' ⟨v, rfl, ho, hb⟩
  exact ⟨v, rfl, own24 ho, hb⟩
 ·rw [if_neg hr] at h
  exact absurd h (by simp)
def r03Right.f (k : Nat) (l0 : List (S113)) : Option (Bool) := (r02Least.f l0).bind fun bt262 => (if bt262.2 = 0 then ((r02Same.f k bt262.1 l0).bind fun t266 => (some t266)) else (some false))
theorem r03Right.mono : ∀ a0 k, LeO (r03Right.f k a0) (r03Right.f (k + 1) a0) := by
  intro a0 k
  unfold r03Right.f
  have m0_ := @r02Same.mono
  exact tMo
set_option maxHeartbeats 8000000 in
set_option maxRecDepth 100000 in
theorem r03Right.calls (k : Nat) (A0 : Option Addr) (c0 : Nat) (l0 : List (S113)) (r : Bool) (w : World) (hr0 : Kd.C k113 w A0 l0.length l0) (hc0 : l0.length ≤ c0) (h : r03Right.f k l0 = some r) :
  Calls Tryz.prog 65 #[.slice A0 l0.length c0] w fun e w' => e = .returned (.bool r) ∧ Below w.heap.size w w' := by
 have HR0 := Aside0.mk hr0
 have HC0 := Aside0.mk hc0
 clear hr0 hc0
 have HB := Aside0.mk (Below.refl w.heap.size w)
 have H : ((r02Least.f l0).bind fun bt262 => (if bt262.2 = 0 then ((r02Same.f k bt262.1 l0).bind fun t266 => (some t266)) else (some false))) = some r := h
 clear h
 replace H := iX H
 obtain ⟨⟨t262, t263⟩, A2, H⟩ := H
 try dsimp only at H
 replace H := iE H
 rcases H with ⟨c3b0, c3b1, H⟩ | ⟨c3, c3b0, c3b1, H⟩
 ·replace H := iX H
  obtain ⟨t266, A4, H⟩ := H
  obtain rfl := Option.some.inj H
  go_enter Tryz.func65, Tryz.ntmps65
  go_wp2_with (first | ((with_reducible refine gf_ 81 rfl ?_); refine gC_ (some 7) Tryz.func81 #[.slice A0 l0.length c0] ?_; (with_reducible refine (r02Least.calls _ _ l0 t262 t263 _ ?side1 ?side2 A2.out).mono ?_); (case side1 => repeat (first | exact HR0.out | (with_reducible refine Kd.C_alloc ?_ _) | (with_reducible refine Kd.C_drewN ?_ _) | (with_reducible refine Kd.C_drew ?_))); (case side2 => exact HC0.out); rintro e w5 ⟨v264, rfl, ho0, hb⟩; refine ⟨_, rfl, ?_⟩; have HO265 := Aside0.mk (Kd.R_lower ho0 (below_size tB)); replace HB := Aside0.mk (below_step tB hb); (try clear hb); (try clear ho0); obtain ⟨Aoh265, coh265, eoh265⟩ := Kd.R_slice HO265.out; subst eoh265) | (go_at_call 51; (with_reducible refine (r02Same.calls k _ _ t262 _ _ l0 t266 _ ?side1 ?side2 ?side3 ?side4 A4.out).mono ?_); (case side1 => exact tCr HO265); (case side2 => exact (Kd.R_reads' HO265.out).2.1); (case side3 => exact tCb HR0 HB); (case side4 => exact HC0.out); rintro e w' ⟨rfl, ⟨nd, rfl⟩⟩))
  go_ret
  exact ⟨tE, tB⟩
 obtain rfl := Option.some.inj H
 go_enter Tryz.func65, Tryz.ntmps65
 go_wp2_with (first | ((with_reducible refine gf_ 81 rfl ?_); refine gC_ (some 7) Tryz.func81 #[.slice A0 l0.length c0] ?_; (with_reducible refine (r02Least.calls _ _ l0 t262 t263 _ ?side1 ?side2 A2.out).mono ?_); (case side1 => repeat (first | exact HR0.out | (with_reducible refine Kd.C_alloc ?_ _) | (with_reducible refine Kd.C_drewN ?_ _) | (with_reducible refine Kd.C_drew ?_))); (case side2 => exact HC0.out); rintro e w7 ⟨v264, rfl, ho0, hb⟩; refine ⟨_, rfl, ?_⟩; have HO265 := Aside0.mk (Kd.R_lower ho0 (below_size tB)); replace HB := Aside0.mk (below_step tB hb); (try clear hb); (try clear ho0)))
 go_ret
 exact ⟨tE, tB⟩
def r01Has.f (k : Nat) (a0 : Int) (a1 : Int) : Option (Bool) := if a1 ≥ 0 then (if a1 < 24 then ((r01power.f k a1).bind fun t267 => (if t267 = 0 then (none) else (some ((Int.tmod (wrap64 (Int.tdiv (wrap64 (a0)) t267)) 2) == 1)))) else (some false)) else (some false)
theorem r01Has.mono : ∀ a0 a1 k, LeO (r01Has.f k a0 a1) (r01Has.f (k + 1) a0 a1) := by
  intro a0 a1 k
  unfold r01Has.f
  have m0_ := @r01power.mono
  exact tMo
set_option maxHeartbeats 8000000 in
set_option maxRecDepth 100000 in
theorem r01Has.calls (k : Nat) (a0 : Int) (a1 : Int) (r : Bool) (w : World) (h : r01Has.f k a0 a1 = some r) :
  Calls Tryz.prog 101 #[.int .u32 a0, .int .i64 a1] w fun e w' => e = .returned (.bool r) ∧ Drawn0 w w' := by
 have H : (if a1 ≥ 0 then (if a1 < 24 then ((r01power.f k a1).bind fun t267 => (if t267 = 0 then (none) else (some ((Int.tmod (wrap64 (Int.tdiv (wrap64 (a0)) t267)) 2) == 1)))) else (some false)) else (some false)) = some r := h
 clear h
 replace H := iG H
 rcases H with ⟨c3b0, H⟩ | ⟨c3b0, H⟩
 ·replace H := iD H
  rcases H with ⟨c4b0, H⟩ | ⟨c4b0, H⟩
  ·replace H := iX H
   obtain ⟨t267, A5, H⟩ := H
   by_cases c6 : t267 = 0
   ·rw [if_pos c6] at H
    exact absurd H (by simp)
   ·rw [if_neg c6] at H
    have c6b0 : (t267 == 0) = false := beq_eq_false_iff_ne.mpr c6
    have c6b1 : (t267 != 0) = true := bne_iff_ne.mpr c6
    obtain rfl := Option.some.inj H
    go_enter Tryz.func101, Tryz.ntmps101
    go_wp2_with (first | (go_at_call 112; (with_reducible refine (r01power.calls k a1 t267 _ A5.out).mono ?_); rintro e w' ⟨rfl, ⟨nd, rfl⟩⟩))
    go_ret
    exact ⟨tS, tD⟩
  obtain rfl := Option.some.inj H
  go_enter Tryz.func101, Tryz.ntmps101
  exact zz0
 obtain rfl := Option.some.inj H
 go_enter Tryz.func101, Tryz.ntmps101
 exact zz0
end
end Go.Proofs.YtahdjajdaggmjaaGreatDoor.XPa
end
