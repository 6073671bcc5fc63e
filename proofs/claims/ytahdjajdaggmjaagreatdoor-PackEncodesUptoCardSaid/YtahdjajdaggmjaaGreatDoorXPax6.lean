-- Written for this claim by a program of ours (wip/xp.py), out of the translation and of hand-written contracts.
import Derived.Test.YtahdjajdaggmjaaGreatDoorSx
import Derived.Test.YtahdjajdaggmjaaGreatDoorYrec
import Derived.Test.YtahdjajdaggmjaaGreatDoorYdec
import Derived.Test.YtahdjajdaggmjaaGreatDoorZrall
import Derived.Test.YtahdjajdaggmjaaGreatDoorZwr
section
namespace Go.Proofs.YtahdjajdaggmjaaGreatDoor.XPa
noncomputable section
open Go.RowKit Go.Proofs.YtahdjajdaggmjaaGreatDoorW.PrintWords Go.Proofs.YtahdjajdaggmjaaGreatDoorW.PrintLast Go.Proofs.YtahdjajdaggmjaaGreatDoorW.PrintMore
attribute [local go_sem] max2_int min2_int max_two min_two max_three min_three max_four min_four
set_option linter.unusedVariables false
set_option linter.unusedSimpArgs false
mutual
def te_Binds.j2 : Nat → Int → Option (Int × Int)
  | 0, _ => none
  | k + 1, x1 => if x1 = 0 then (some (1, 0)) else (some (0, 0))
def te_Binds.j0 : Nat → Int → Int → Bool → Option (Int × Int)
  | 0, _, _, _ => none
  | k + 1, x1, x6, x7 => if x7 = true then (if x1 = 1 then (some (1, 0)) else (some (0, 0))) else (if x6 = 5 then (te_Binds.j2 k x1) else (if x6 = 22 then (te_Binds.j2 k x1) else (if x6 = 27 then (te_Binds.j2 k x1) else (if x6 = 11 then (te_Binds.j1 k x1 (x6 == 11)) else (if x6 = 12 then (te_Binds.j1 k x1 (x6 == 12)) else (te_Binds.j1 k x1 (x6 == 14)))))))
def te_Binds.j1 : Nat → Int → Bool → Option (Int × Int)
  | 0, _, _ => none
  | k + 1, x1, x16 => if x16 = true then (if x1 = 0 then (some (0, 1)) else (some (0, 0))) else (some (0, 0))
end
def te_Binds.f (k : Nat) (a0 : Int) (a1 : Int) : Option (Int × Int) := if a0 = 4 then (te_Binds.j0 k a1 a0 (a0 == 4)) else (te_Binds.j0 k a1 a0 (a0 == 7))
set_option maxHeartbeats 8000000 in
set_option maxRecDepth 100000 in
theorem te_Binds.calls (k : Nat) (a0 : Int) (a1 : Int) (r1 : Int) (r2 : Int) (w : World) (h : te_Binds.f k a0 a1 = some (r1, r2)) :
  Calls Tryz.prog 97 #[.int .i64 a0, .int .i64 a1] w fun e w' => e = .returned (.tuple #[.int .i64 r1, .int .i64 r2]) ∧ Drawn0 w w' := by
 have H : (if a0 = 4 then (te_Binds.j0 k a1 a0 (a0 == 4)) else (te_Binds.j0 k a1 a0 (a0 == 7))) = some (r1, r2) := h
 clear h
 have HC3 := Aside0.mk H
 clear H
 go_enter Tryz.func97, Tryz.ntmps97
 go_upto_block 4 with (fail)
 go_cut [] (fun wc => ∃ (kq : Nat), Aside0 (te_Binds.j2 kq a1 = some (r1, r2)) ∧ Aside0 (kq ≤ k) ∧ Drawn0 w wc)
 case first =>
  have H := HC3.out
  clear HC3
  have HC4 := Aside0.mk H
  clear H
  go_upto_if 7 with (fail)
  go_cut [7] (fun v7 wc => ∃ (kq : Nat) (x7_3 : Bool), v7 = .bool x7_3 ∧ Aside0 (te_Binds.j0 kq a1 a0 x7_3 = some (r1, r2)) ∧ Aside0 (kq ≤ k) ∧ Drawn0 w wc)
  case first =>
   have H := HC4.out
   clear HC4
   replace H := iE H
   rcases H with ⟨c5b0, c5b1, H⟩ | ⟨c5, c5b0, c5b1, H⟩
   ·(first | rw [c5b0] | (simp only [i64_w, i32_w]; rw [c5b0]) | skip)
    have H' := Aside0.mk H
    clear H
    go_wp2
    go_meet
    case rel => exact ⟨_, ((a0 == 4)), tS, H', ⟨by first | omega | exact Nat.le_refl _⟩, tD⟩
   (first | rw [c5b0] | (simp only [i64_w, i32_w]; rw [c5b0]) | skip)
   exact zz11
  case rest =>
   clear HC4
   obtain ⟨kq, x7_3, rfl, HA, HJ3, ⟨mc3, rfl⟩⟩ := hcut
   cases kq with
   | zero => exact absurd HA.out (by simp [te_Binds.j0])
   | succ kj3 =>
    have H := HA.out
    clear HA
    simp only [te_Binds.j0] at H
    replace H := iB H
    rcases H with ⟨rfl, H⟩ | ⟨rfl, H⟩
    ·replace H := iE H
     rcases H with ⟨c7b0, c7b1, H⟩ | ⟨c7, c7b0, c7b1, H⟩
     ·exact zz12
     exact zz12
    replace H := iE H
    rcases H with ⟨c8b0, c8b1, H⟩ | ⟨c8, c8b0, c8b1, H⟩
    ·exact zz19
    replace H := iE H
    rcases H with ⟨c9b0, c9b1, H⟩ | ⟨c9, c9b0, c9b1, H⟩
    ·exact zz19
    replace H := iE H
    rcases H with ⟨c10b0, c10b1, H⟩ | ⟨c10, c10b0, c10b1, H⟩
    ·exact zz19
    have HC11 := Aside0.mk H
    clear H
    go_upto_if 16 with (fail)
    go_cut [16] (fun v16 wc => ∃ (kq : Nat) (x16_10 : Bool), v16 = .bool x16_10 ∧ Aside0 (te_Binds.j1 kq a1 x16_10 = some (r1, r2)) ∧ Aside0 (kq ≤ kj3) ∧ Drawn0 w wc)
    case first =>
     have H := HC11.out
     clear HC11
     replace H := iE H
     rcases H with ⟨c12b0, c12b1, H⟩ | ⟨c12, c12b0, c12b1, H⟩
     ·(first | rw [c12b0] | (simp only [i64_w, i32_w]; rw [c12b0]) | skip)
      have H' := Aside0.mk H
      clear H
      go_wp2
      go_meet
      case rel => exact ⟨_, ((a0 == 11)), tS, H', ⟨by have := HJ3.out; first | omega | exact Nat.le_refl _⟩, tD⟩
     (first | rw [c12b0] | (simp only [i64_w, i32_w]; rw [c12b0]) | skip)
     replace H := iE H
     rcases H with ⟨c13b0, c13b1, H⟩ | ⟨c13, c13b0, c13b1, H⟩
     ·have H' := Aside0.mk H
      clear H
      go_wp2
      go_meet
      case rel => exact ⟨_, ((a0 == 12)), tS, H', ⟨by have := HJ3.out; first | omega | exact Nat.le_refl _⟩, tD⟩
     have H' := Aside0.mk H
     clear H
     go_wp2
     go_meet
     case rel => exact ⟨_, ((a0 == 14)), tS, H', ⟨by have := HJ3.out; first | omega | exact Nat.le_refl _⟩, tD⟩
    case rest =>
     clear HC11
     try clear c8
     try clear c8b0
     try clear c8b1
     try clear c9
     try clear c9b0
     try clear c9b1
     try clear c10
     try clear c10b0
     try clear c10b1
     obtain ⟨kq, x16_10, rfl, HA, HJ10, ⟨mc10, rfl⟩⟩ := hcut
     cases kq with
     | zero => exact absurd HA.out (by simp [te_Binds.j1])
     | succ kj10 =>
      have H := HA.out
      clear HA
      simp only [te_Binds.j1] at H
      replace H := iB H
      rcases H with ⟨rfl, H⟩ | ⟨rfl, H⟩
      ·replace H := iE H
       rcases H with ⟨c15b0, c15b1, H⟩ | ⟨c15, c15b0, c15b1, H⟩
       ·exact zz12
       exact zz12
      exact zz12
 case rest =>
  clear HC3
  obtain ⟨kq, HA, HJ2, ⟨mc2, rfl⟩⟩ := hcut
  cases kq with
  | zero => exact absurd HA.out (by simp [te_Binds.j2])
  | succ kj2 =>
   have H := HA.out
   clear HA
   simp only [te_Binds.j2] at H
   replace H := iE H
   rcases H with ⟨c16b0, c16b1, H⟩ | ⟨c16, c16b0, c16b1, H⟩
   ·exact zz12
   exact zz12
theorem bindsx (a i : Int) : te_Binds.f 6 a i = some (bindsI a i) := by
  have h : a = 4 ∨ a = 7 ∨ a = 5 ∨ a = 22 ∨ a = 27 ∨ a = 11 ∨ a = 12 ∨ a = 14 ∨ (a ≠ 4 ∧ a ≠ 7 ∧ a ≠ 5 ∧ a ≠ 22 ∧ a ≠ 27 ∧ a ≠ 11 ∧ a ≠ 12 ∧ a ≠ 14) := by omega
  rcases h with rfl | rfl | rfl | rfl | rfl | rfl | rfl | rfl | ⟨h4, h7, h5, h22, h27, h11, h12, h14⟩
  · by_cases h1 : i = 1 <;> by_cases h0 : i = 0 <;> first | (simp [te_Binds.f, te_Binds.j0, te_Binds.j1, te_Binds.j2, bindsI, h0, h1]; done) | omega
  · by_cases h1 : i = 1 <;> by_cases h0 : i = 0 <;> first | (simp [te_Binds.f, te_Binds.j0, te_Binds.j1, te_Binds.j2, bindsI, h0, h1]; done) | omega
  · by_cases h1 : i = 1 <;> by_cases h0 : i = 0 <;> first | (simp [te_Binds.f, te_Binds.j0, te_Binds.j1, te_Binds.j2, bindsI, h0, h1]; done) | omega
  · by_cases h1 : i = 1 <;> by_cases h0 : i = 0 <;> first | (simp [te_Binds.f, te_Binds.j0, te_Binds.j1, te_Binds.j2, bindsI, h0, h1]; done) | omega
  · by_cases h1 : i = 1 <;> by_cases h0 : i = 0 <;> first | (simp [te_Binds.f, te_Binds.j0, te_Binds.j1, te_Binds.j2, bindsI, h0, h1]; done) | omega
  · by_cases h1 : i = 1 <;> by_cases h0 : i = 0 <;> first | (simp [te_Binds.f, te_Binds.j0, te_Binds.j1, te_Binds.j2, bindsI, h0, h1]; done) | omega
  · by_cases h1 : i = 1 <;> by_cases h0 : i = 0 <;> first | (simp [te_Binds.f, te_Binds.j0, te_Binds.j1, te_Binds.j2, bindsI, h0, h1]; done) | omega
  · by_cases h1 : i = 1 <;> by_cases h0 : i = 0 <;> first | (simp [te_Binds.f, te_Binds.j0, te_Binds.j1, te_Binds.j2, bindsI, h0, h1]; done) | omega
  · simp [te_Binds.f, te_Binds.j0, te_Binds.j1, te_Binds.j2, bindsI, h4, h7, h5, h22, h27, h11, h12, h14]
theorem binds_all : Aside0 (∀ (a i : Int) (w : World), Calls Tryz.prog 97 #[.int .i64 a, .int .i64 i] w fun e w' => e = .returned (.tuple #[.int .i64 (bindsI a i).1, .int .i64 (bindsI a i).2]) ∧ Below w.heap.size w w') :=
  ⟨fun a i w => (te_Binds.calls 6 a i _ _ w (bindsx a i)).mono fun e w' ⟨he, hb⟩ => ⟨he, hb.below⟩⟩
def te_shallo.f (a0_0 a0_1 : Int) (a0_2 : ByteArray) (l0_3 : List S113) (l0_4 : List S49) (l0_5 : List S90) (a1 : Int) : Option Bool := if 0 ≤ a1 ∧ a1 ≤ 1000000 then some (decide (depthT (⟨a0_0, a0_1, a0_2, l0_3, l0_4, l0_5⟩ : Tm) ≤ a1.toNat)) else none
theorem te_shallo.calls (a0_0 : Int) (a0_1 : Int) (a0_2 : ByteArray) (A0_3 : Option Addr) (c0_3 : Nat) (l0_3 : List (S113)) (A0_4 : Option Addr) (c0_4 : Nat) (l0_4 : List (S49)) (A0_5 : Option Addr) (c0_5 : Nat) (l0_5 : List (S90)) (a1 : Int) (r : Bool) (w : World) (hr0_3 : Kd.C k113 w A0_3 l0_3.length l0_3) (hc0_3 : l0_3.length ≤ c0_3) (hr0_4 : Kd.C k49 w A0_4 l0_4.length l0_4) (hc0_4 : l0_4.length ≤ c0_4) (hr0_5 : Kd.C k90 w A0_5 l0_5.length l0_5) (hc0_5 : l0_5.length ≤ c0_5) (h : te_shallo.f a0_0 a0_1 a0_2 l0_3 l0_4 l0_5 a1 = some r) :
    Calls Tryz.prog 75 #[.agg #[.int .i64 a0_0, .int .i64 a0_1, .string a0_2, .slice A0_3 l0_3.length c0_3, .slice A0_4 l0_4.length c0_4, .slice A0_5 l0_5.length c0_5], .int .i64 a1] w fun e w' => e = .returned (.bool r) ∧ Below w.heap.size w w' := by
 unfold te_shallo.f at h
 by_cases hr : 0 ≤ a1 ∧ a1 ≤ 1000000
 ·rw [if_pos hr] at h
  obtain rfl := Option.some.inj h
  have hc := te_shallo binds_all (enters_ Tryz.func92 (by kernel_rfl) rfl) a1.toNat (by omega) (⟨a0_0, a0_1, a0_2, l0_3, l0_4, l0_5⟩ : Tm) _ w (k49_mk w (⟨a0_0, a0_1, a0_2, l0_3, l0_4, l0_5⟩ : Tm) hc0_3 hr0_3 hc0_4 hr0_4 hc0_5 hr0_5)
  rw [show ((a1.toNat : Nat) : Int) = a1 by omega] at hc
  exact hc
 ·rw [if_neg hr] at h
  exact absurd h (by simp)
def te_small.f (a0_0 a0_1 : Int) (a0_2 : ByteArray) (l0_3 : List S113) (l0_4 : List S49) (l0_5 : List S90) (a1 : Int) : Option Bool := if 0 ≤ a1 ∧ a1 ≤ 1000000 then some (decide (sizeT (⟨a0_0, a0_1, a0_2, l0_3, l0_4, l0_5⟩ : Tm) ≤ a1.toNat)) else none
theorem te_small.calls (a0_0 : Int) (a0_1 : Int) (a0_2 : ByteArray) (A0_3 : Option Addr) (c0_3 : Nat) (l0_3 : List (S113)) (A0_4 : Option Addr) (c0_4 : Nat) (l0_4 : List (S49)) (A0_5 : Option Addr) (c0_5 : Nat) (l0_5 : List (S90)) (a1 : Int) (r : Bool) (w : World) (hr0_3 : Kd.C k113 w A0_3 l0_3.length l0_3) (hc0_3 : l0_3.length ≤ c0_3) (hr0_4 : Kd.C k49 w A0_4 l0_4.length l0_4) (hc0_4 : l0_4.length ≤ c0_4) (hr0_5 : Kd.C k90 w A0_5 l0_5.length l0_5) (hc0_5 : l0_5.length ≤ c0_5) (h : te_small.f a0_0 a0_1 a0_2 l0_3 l0_4 l0_5 a1 = some r) :
    Calls Tryz.prog 76 #[.agg #[.int .i64 a0_0, .int .i64 a0_1, .string a0_2, .slice A0_3 l0_3.length c0_3, .slice A0_4 l0_4.length c0_4, .slice A0_5 l0_5.length c0_5], .int .i64 a1] w fun e w' => e = .returned (.bool r) ∧ Below w.heap.size w w' := by
 unfold te_small.f at h
 by_cases hr : 0 ≤ a1 ∧ a1 ≤ 1000000
 ·rw [if_pos hr] at h
  obtain rfl := Option.some.inj h
  have hc := te_small binds_all (enters_ Tryz.func93 (by kernel_rfl) rfl) (enters_ Tryz.func94 (by kernel_rfl) rfl) a1.toNat (by omega) (⟨a0_0, a0_1, a0_2, l0_3, l0_4, l0_5⟩ : Tm) _ w (k49_mk w (⟨a0_0, a0_1, a0_2, l0_3, l0_4, l0_5⟩ : Tm) hc0_3 hr0_3 hc0_4 hr0_4 hc0_5 hr0_5)
  rw [show ((a1.toNat : Nat) : Int) = a1 by omega] at hc
  exact hc
 ·rw [if_neg hr] at h
  exact absurd h (by simp)
def te_sized.f (a0_0 : Int) (a0_1 : Int) (a0_2 : ByteArray) (l0_3 : List (S113)) (l0_4 : List (S49)) (l0_5 : List (S90)) : Option (Int) := (te_shallo.f a0_0 a0_1 a0_2 l0_3 l0_4 l0_5 200).bind fun t146 => (if t146 = true then ((te_small.f a0_0 a0_1 a0_2 l0_3 l0_4 l0_5 20000).bind fun t147 => (if t147 = true then (some 0) else (some 221))) else (some 62))
theorem te_sized.z0 {p : Prop} (h_ : p := by go_wp2_with (first | ((with_reducible refine gd_ 1 rfl ?_); refine boxE 1 #[.int .i64 a0_0, .int .i64 a0_1, .string a0_2, .slice A0_3 l0_3.length c0_3, .slice A0_4 l0_4.length c0_4, .slice A0_5 l0_5.length c0_5] 49 ?_; intro gb145 hg wa hbox hb; have BK145 := Aside0.mk (hbox); have GW145 := Aside0.mk (tG : w.heap.size ≤ gb145); have GE145 := Aside0.mk (tG : w.heap.size ≤ gb145); replace HB := Aside0.mk (below_step tB hb); clear hb hbox hg; have hcza := cz6 BK145.out) | ((with_reducible refine gf_ 75 rfl ?_); refine gC_ (some 5) Tryz.func75 #[.agg #[.int .i64 a0_0, .int .i64 a0_1, .string a0_2, .slice A0_3 l0_3.length c0_3, .slice A0_4 l0_4.length c0_4, .slice A0_5 l0_5.length c0_5], .int .i64 200] ?_; (with_reducible refine (te_shallo.calls a0_0 a0_1 a0_2 _ _ l0_3 _ _ l0_4 _ _ l0_5 200 false _ ?side1 ?side2 ?side3 ?side4 ?side5 ?side6 A2.out).mono ?_); (case side1 => exact tCb HR0_3 HB); (case side2 => exact HC0_3.out); (case side3 => exact tCb HR0_4 HB); (case side4 => exact HC0_4.out); (case side5 => exact tCb HR0_5 HB); (case side6 => exact HC0_5.out); rintro e wa ⟨rfl, hb⟩; refine ⟨_, rfl, ?_⟩; replace BK145 := Aside0.mk (blk_below (g := gb145) (o := .cells #[.int .i64 a0_0, .int .i64 a0_1, .string a0_2, .slice A0_3 l0_3.length c0_3, .slice A0_4 l0_4.length c0_4, .slice A0_5 l0_5.length c0_5] 49 (0, 0)) (tK BK145) hb); replace HB := Aside0.mk (below_step (tBs GE145) hb); (try clear hb)) | ((with_reducible refine gf_ 75 rfl ?_); refine gC_ (some 5) Tryz.func75 #[.agg #[.int .i64 a0_0, .int .i64 a0_1, .string a0_2, .slice A0_3 l0_3.length c0_3, .slice A0_4 l0_4.length c0_4, .slice A0_5 l0_5.length c0_5], .int .i64 200] ?_; (with_reducible refine (te_shallo.calls a0_0 a0_1 a0_2 _ _ l0_3 _ _ l0_4 _ _ l0_5 200 true _ ?side1 ?side2 ?side3 ?side4 ?side5 ?side6 A2.out).mono ?_); (case side1 => exact tCb HR0_3 HB); (case side2 => exact HC0_3.out); (case side3 => exact tCb HR0_4 HB); (case side4 => exact HC0_4.out); (case side5 => exact tCb HR0_5 HB); (case side6 => exact HC0_5.out); rintro e wa ⟨rfl, hb⟩; refine ⟨_, rfl, ?_⟩; replace BK145 := Aside0.mk (blk_below (g := gb145) (o := .cells #[.int .i64 a0_0, .int .i64 a0_1, .string a0_2, .slice A0_3 l0_3.length c0_3, .slice A0_4 l0_4.length c0_4, .slice A0_5 l0_5.length c0_5] 49 (0, 0)) (tK BK145) hb); replace HB := Aside0.mk (below_step (tBs GE145) hb); (try clear hb); have hcza := cz6 BK145.out) | ((with_reducible refine gf_ 76 rfl ?_); refine gC_ (some 9) Tryz.func76 #[.agg #[.int .i64 a0_0, .int .i64 a0_1, .string a0_2, .slice A0_3 l0_3.length c0_3, .slice A0_4 l0_4.length c0_4, .slice A0_5 l0_5.length c0_5], .int .i64 20000] ?_; (with_reducible refine (te_small.calls a0_0 a0_1 a0_2 _ _ l0_3 _ _ l0_4 _ _ l0_5 20000 false _ ?side1 ?side2 ?side3 ?side4 ?side5 ?side6 A4.out).mono ?_); (case side1 => exact tCb HR0_3 HB); (case side2 => exact HC0_3.out); (case side3 => exact tCb HR0_4 HB); (case side4 => exact HC0_4.out); (case side5 => exact tCb HR0_5 HB); (case side6 => exact HC0_5.out); rintro e wa ⟨rfl, hb⟩; refine ⟨_, rfl, ?_⟩; replace BK145 := Aside0.mk (blk_below (g := gb145) (o := .cells #[.int .i64 a0_0, .int .i64 a0_1, .string a0_2, .slice A0_3 l0_3.length c0_3, .slice A0_4 l0_4.length c0_4, .slice A0_5 l0_5.length c0_5] 49 (0, 0)) (tK BK145) hb); replace HB := Aside0.mk (below_step (tBs GE145) hb); (try clear hb)) | ((with_reducible refine gf_ 76 rfl ?_); refine gC_ (some 9) Tryz.func76 #[.agg #[.int .i64 a0_0, .int .i64 a0_1, .string a0_2, .slice A0_3 l0_3.length c0_3, .slice A0_4 l0_4.length c0_4, .slice A0_5 l0_5.length c0_5], .int .i64 20000] ?_; (with_reducible refine (te_small.calls a0_0 a0_1 a0_2 _ _ l0_3 _ _ l0_4 _ _ l0_5 20000 true _ ?side1 ?side2 ?side3 ?side4 ?side5 ?side6 A4.out).mono ?_); (case side1 => exact tCb HR0_3 HB); (case side2 => exact HC0_3.out); (case side3 => exact tCb HR0_4 HB); (case side4 => exact HC0_4.out); (case side5 => exact tCb HR0_5 HB); (case side6 => exact HC0_5.out); rintro e wa ⟨rfl, hb⟩; refine ⟨_, rfl, ?_⟩; replace BK145 := Aside0.mk (blk_below (g := gb145) (o := .cells #[.int .i64 a0_0, .int .i64 a0_1, .string a0_2, .slice A0_3 l0_3.length c0_3, .slice A0_4 l0_4.length c0_4, .slice A0_5 l0_5.length c0_5] 49 (0, 0)) (tK BK145) hb); replace HB := Aside0.mk (below_step (tBs GE145) hb); (try clear hb))); go_ret; exact ⟨tE, by repeat (first | (with_reducible first | exact HB.out | apply below_alloc | apply pw_below_drewN | apply below_drew1 | refine below_set ?_ GE145.out) | exact HB.out)⟩) : p := h_
set_option maxHeartbeats 8000000 in
set_option maxRecDepth 100000 in
theorem te_sized.calls (a0_0 : Int) (a0_1 : Int) (a0_2 : ByteArray) (A0_3 : Option Addr) (c0_3 : Nat) (l0_3 : List (S113)) (A0_4 : Option Addr) (c0_4 : Nat) (l0_4 : List (S49)) (A0_5 : Option Addr) (c0_5 : Nat) (l0_5 : List (S90)) (r : Int) (w : World) (hr0_3 : Kd.C k113 w A0_3 l0_3.length l0_3) (hc0_3 : l0_3.length ≤ c0_3) (hr0_4 : Kd.C k49 w A0_4 l0_4.length l0_4) (hc0_4 : l0_4.length ≤ c0_4) (hr0_5 : Kd.C k90 w A0_5 l0_5.length l0_5) (hc0_5 : l0_5.length ≤ c0_5) (h : te_sized.f a0_0 a0_1 a0_2 l0_3 l0_4 l0_5 = some r) :
  Calls Tryz.prog 54 #[.agg #[.int .i64 a0_0, .int .i64 a0_1, .string a0_2, .slice A0_3 l0_3.length c0_3, .slice A0_4 l0_4.length c0_4, .slice A0_5 l0_5.length c0_5]] w fun e w' => e = .returned (.int .i64 r) ∧ Below w.heap.size w w' := by
 have hu49 := Tryz.underlying49
 have HR0_3 := Aside0.mk hr0_3
 have HC0_3 := Aside0.mk hc0_3
 clear hr0_3 hc0_3
 have HR0_4 := Aside0.mk hr0_4
 have HC0_4 := Aside0.mk hc0_4
 clear hr0_4 hc0_4
 have HR0_5 := Aside0.mk hr0_5
 have HC0_5 := Aside0.mk hc0_5
 clear hr0_5 hc0_5
 have HB := Aside0.mk (Below.refl w.heap.size w)
 have H : ((te_shallo.f a0_0 a0_1 a0_2 l0_3 l0_4 l0_5 200).bind fun t146 => (if t146 = true then ((te_small.f a0_0 a0_1 a0_2 l0_3 l0_4 l0_5 20000).bind fun t147 => (if t147 = true then (some 0) else (some 221))) else (some 62))) = some r := h
 clear h
 replace H := iX H
 obtain ⟨t146, A2, H⟩ := H
 replace H := iB H
 rcases H with ⟨rfl, H⟩ | ⟨rfl, H⟩
 ·replace H := iX H
  obtain ⟨t147, A4, H⟩ := H
  replace H := iB H
  rcases H with ⟨rfl, H⟩ | ⟨rfl, H⟩
  ·obtain rfl := Option.some.inj H
   go_enter Tryz.func54, Tryz.ntmps54
   exact te_sized.z0
  obtain rfl := Option.some.inj H
  go_enter Tryz.func54, Tryz.ntmps54
  exact te_sized.z0
 obtain rfl := Option.some.inj H
 go_enter Tryz.func54, Tryz.ntmps54
 exact te_sized.z0
def te_Parts.j0 : Nat → Int → Bool → Option (Int)
  | 0, _, _ => none
  | k + 1, x3, x4 => if x4 = true then (some 1) else (if x3 = 16 then (some 2) else (some 0))
def te_Parts.f (k : Nat) (a0 : Int) : Option (Int) := if a0 = 15 then (te_Parts.j0 k a0 (a0 == 15)) else (if a0 = 17 then (te_Parts.j0 k a0 (a0 == 17)) else (te_Parts.j0 k a0 (a0 == 18)))
set_option maxHeartbeats 8000000 in
set_option maxRecDepth 100000 in
theorem te_Parts.calls (k : Nat) (a0 : Int) (r : Int) (w : World) (h : te_Parts.f k a0 = some r) :
  Calls Tryz.prog 41 #[.int .i64 a0] w fun e w' => e = .returned (.int .i64 r) ∧ Drawn0 w w' := by
 have H : (if a0 = 15 then (te_Parts.j0 k a0 (a0 == 15)) else (if a0 = 17 then (te_Parts.j0 k a0 (a0 == 17)) else (te_Parts.j0 k a0 (a0 == 18)))) = some r := h
 clear h
 have HC2 := Aside0.mk H
 clear H
 go_enter Tryz.func41, Tryz.ntmps41
 go_upto_if 4 with (fail)
 go_cut [4] (fun v4 wc => ∃ (kq : Nat) (x4_1 : Bool), v4 = .bool x4_1 ∧ Aside0 (te_Parts.j0 kq a0 x4_1 = some r) ∧ Aside0 (kq ≤ k) ∧ Drawn0 w wc)
 case first =>
  have H := HC2.out
  clear HC2
  replace H := iE H
  rcases H with ⟨c3b0, c3b1, H⟩ | ⟨c3, c3b0, c3b1, H⟩
  ·(first | rw [c3b0] | (simp only [i64_w, i32_w]; rw [c3b0]) | skip)
   have H' := Aside0.mk H
   clear H
   go_wp2
   go_meet
   case rel => exact ⟨_, ((a0 == 15)), tS, H', ⟨by first | omega | exact Nat.le_refl _⟩, tD⟩
  (first | rw [c3b0] | (simp only [i64_w, i32_w]; rw [c3b0]) | skip)
  replace H := iE H
  rcases H with ⟨c4b0, c4b1, H⟩ | ⟨c4, c4b0, c4b1, H⟩
  ·have H' := Aside0.mk H
   clear H
   go_wp2
   go_meet
   case rel => exact ⟨_, ((a0 == 17)), tS, H', ⟨by first | omega | exact Nat.le_refl _⟩, tD⟩
  have H' := Aside0.mk H
  clear H
  go_wp2
  go_meet
  case rel => exact ⟨_, ((a0 == 18)), tS, H', ⟨by first | omega | exact Nat.le_refl _⟩, tD⟩
 case rest =>
  clear HC2
  obtain ⟨kq, x4_1, rfl, HA, HJ1, ⟨mc1, rfl⟩⟩ := hcut
  cases kq with
  | zero => exact absurd HA.out (by simp [te_Parts.j0])
  | succ kj1 =>
   have H := HA.out
   clear HA
   simp only [te_Parts.j0] at H
   replace H := iB H
   rcases H with ⟨rfl, H⟩ | ⟨rfl, H⟩
   ·exact zz5
   replace H := iE H
   rcases H with ⟨c6b0, c6b1, H⟩ | ⟨c6, c6b0, c6b1, H⟩
   ·exact zz5
   exact zz5
mutual
def te_Kids.j0 : Nat → Int → Bool → Option (Int)
  | 0, _, _ => none
  | k + 1, x3, x4 => if x4 = true then (some 0) else (if x3 = 5 then (te_Kids.j1 k x3 (x3 == 5)) else (if x3 = 9 then (te_Kids.j1 k x3 (x3 == 9)) else (if x3 = 10 then (te_Kids.j1 k x3 (x3 == 10)) else (if x3 = 23 then (te_Kids.j1 k x3 (x3 == 23)) else (if x3 = 12 then (te_Kids.j1 k x3 (x3 == 12)) else (if x3 = 16 then (te_Kids.j1 k x3 (x3 == 16)) else (if x3 = 17 then (te_Kids.j1 k x3 (x3 == 17)) else (if x3 = 18 then (te_Kids.j1 k x3 (x3 == 18)) else (te_Kids.j1 k x3 (x3 == 26))))))))))
def te_Kids.j1 : Nat → Int → Bool → Option (Int)
  | 0, _, _ => none
  | k + 1, x3, x13 => if x13 = true then (some 1) else (if x3 = 4 then (te_Kids.j2 k x3 (x3 == 4)) else (if x3 = 7 then (te_Kids.j2 k x3 (x3 == 7)) else (if x3 = 6 then (te_Kids.j2 k x3 (x3 == 6)) else (if x3 = 8 then (te_Kids.j2 k x3 (x3 == 8)) else (if x3 = 14 then (te_Kids.j2 k x3 (x3 == 14)) else (if x3 = 15 then (te_Kids.j2 k x3 (x3 == 15)) else (te_Kids.j2 k x3 (x3 == 28))))))))
def te_Kids.j2 : Nat → Int → Bool → Option (Int)
  | 0, _, _ => none
  | k + 1, x3, x23 => if x23 = true then (some 2) else (if x3 = 11 then (te_Kids.j3 k x3 (x3 == 11)) else (te_Kids.j3 k x3 (x3 == 13)))
def te_Kids.j3 : Nat → Int → Bool → Option (Int)
  | 0, _, _ => none
  | k + 1, x3, x31 => if x31 = true then (some 3) else (if x3 = 22 then (some 4) else (if x3 = 27 then (some 5) else (some (-1))))
end
def te_Kids.f (k : Nat) (a0 : Int) : Option (Int) := if a0 = 1 then (te_Kids.j0 k a0 (a0 == 1)) else (if a0 = 2 then (te_Kids.j0 k a0 (a0 == 2)) else (if a0 = 3 then (te_Kids.j0 k a0 (a0 == 3)) else (if a0 = 19 then (te_Kids.j0 k a0 (a0 == 19)) else (if a0 = 20 then (te_Kids.j0 k a0 (a0 == 20)) else (if a0 = 24 then (te_Kids.j0 k a0 (a0 == 24)) else (if a0 = 25 then (te_Kids.j0 k a0 (a0 == 25)) else (te_Kids.j0 k a0 (a0 == 21))))))))
set_option maxHeartbeats 8000000 in
set_option maxRecDepth 100000 in
theorem te_Kids.calls (k : Nat) (a0 : Int) (r : Int) (w : World) (h : te_Kids.f k a0 = some r) :
  Calls Tryz.prog 85 #[.int .i64 a0] w fun e w' => e = .returned (.int .i64 r) ∧ Drawn0 w w' := by
 have H : (if a0 = 1 then (te_Kids.j0 k a0 (a0 == 1)) else (if a0 = 2 then (te_Kids.j0 k a0 (a0 == 2)) else (if a0 = 3 then (te_Kids.j0 k a0 (a0 == 3)) else (if a0 = 19 then (te_Kids.j0 k a0 (a0 == 19)) else (if a0 = 20 then (te_Kids.j0 k a0 (a0 == 20)) else (if a0 = 24 then (te_Kids.j0 k a0 (a0 == 24)) else (if a0 = 25 then (te_Kids.j0 k a0 (a0 == 25)) else (te_Kids.j0 k a0 (a0 == 21))))))))) = some r := h
 clear h
 have HC2 := Aside0.mk H
 clear H
 go_enter Tryz.func85, Tryz.ntmps85
 go_upto_if 4 with (fail)
 go_cut [4] (fun v4 wc => ∃ (kq : Nat) (x4_1 : Bool), v4 = .bool x4_1 ∧ Aside0 (te_Kids.j0 kq a0 x4_1 = some r) ∧ Aside0 (kq ≤ k) ∧ Drawn0 w wc)
 case first =>
  have H := HC2.out
  clear HC2
  replace H := iE H
  rcases H with ⟨c3b0, c3b1, H⟩ | ⟨c3, c3b0, c3b1, H⟩
  ·(first | rw [c3b0] | (simp only [i64_w, i32_w]; rw [c3b0]) | skip)
   have H' := Aside0.mk H
   clear H
   go_wp2
   go_meet
   case rel => exact ⟨_, ((a0 == 1)), tS, H', ⟨by first | omega | exact Nat.le_refl _⟩, tD⟩
  (first | rw [c3b0] | (simp only [i64_w, i32_w]; rw [c3b0]) | skip)
  replace H := iE H
  rcases H with ⟨c4b0, c4b1, H⟩ | ⟨c4, c4b0, c4b1, H⟩
  ·have H' := Aside0.mk H
   clear H
   go_wp2
   go_meet
   case rel => exact ⟨_, ((a0 == 2)), tS, H', ⟨by first | omega | exact Nat.le_refl _⟩, tD⟩
  replace H := iE H
  rcases H with ⟨c5b0, c5b1, H⟩ | ⟨c5, c5b0, c5b1, H⟩
  ·have H' := Aside0.mk H
   clear H
   go_wp2
   go_meet
   case rel => exact ⟨_, ((a0 == 3)), tS, H', ⟨by first | omega | exact Nat.le_refl _⟩, tD⟩
  replace H := iE H
  rcases H with ⟨c6b0, c6b1, H⟩ | ⟨c6, c6b0, c6b1, H⟩
  ·have H' := Aside0.mk H
   clear H
   go_wp2
   go_meet
   case rel => exact ⟨_, ((a0 == 19)), tS, H', ⟨by first | omega | exact Nat.le_refl _⟩, tD⟩
  replace H := iE H
  rcases H with ⟨c7b0, c7b1, H⟩ | ⟨c7, c7b0, c7b1, H⟩
  ·have H' := Aside0.mk H
   clear H
   go_wp2
   go_meet
   case rel => exact ⟨_, ((a0 == 20)), tS, H', ⟨by first | omega | exact Nat.le_refl _⟩, tD⟩
  replace H := iE H
  rcases H with ⟨c8b0, c8b1, H⟩ | ⟨c8, c8b0, c8b1, H⟩
  ·have H' := Aside0.mk H
   clear H
   go_wp2
   go_meet
   case rel => exact ⟨_, ((a0 == 24)), tS, H', ⟨by first | omega | exact Nat.le_refl _⟩, tD⟩
  replace H := iE H
  rcases H with ⟨c9b0, c9b1, H⟩ | ⟨c9, c9b0, c9b1, H⟩
  ·have H' := Aside0.mk H
   clear H
   go_wp2
   go_meet
   case rel => exact ⟨_, ((a0 == 25)), tS, H', ⟨by first | omega | exact Nat.le_refl _⟩, tD⟩
  have H' := Aside0.mk H
  clear H
  go_wp2
  go_meet
  case rel => exact ⟨_, ((a0 == 21)), tS, H', ⟨by first | omega | exact Nat.le_refl _⟩, tD⟩
 case rest =>
  clear HC2
  obtain ⟨kq, x4_1, rfl, HA, HJ1, ⟨mc1, rfl⟩⟩ := hcut
  cases kq with
  | zero => exact absurd HA.out (by simp [te_Kids.j0])
  | succ kj1 =>
   have H := HA.out
   clear HA
   simp only [te_Kids.j0] at H
   replace H := iB H
   rcases H with ⟨rfl, H⟩ | ⟨rfl, H⟩
   ·exact zz5
   have HC11 := Aside0.mk H
   clear H
   go_upto_if 13 with (fail)
   go_cut [13] (fun v13 wc => ∃ (kq : Nat) (x13_10 : Bool), v13 = .bool x13_10 ∧ Aside0 (te_Kids.j1 kq a0 x13_10 = some r) ∧ Aside0 (kq ≤ kj1) ∧ Drawn0 w wc)
   case first =>
    have H := HC11.out
    clear HC11
    replace H := iE H
    rcases H with ⟨c12b0, c12b1, H⟩ | ⟨c12, c12b0, c12b1, H⟩
    ·(first | rw [c12b0] | (simp only [i64_w, i32_w]; rw [c12b0]) | skip)
     have H' := Aside0.mk H
     clear H
     go_wp2
     go_meet
     case rel => exact ⟨_, ((a0 == 5)), tS, H', ⟨by have := HJ1.out; first | omega | exact Nat.le_refl _⟩, tD⟩
    (first | rw [c12b0] | (simp only [i64_w, i32_w]; rw [c12b0]) | skip)
    replace H := iE H
    rcases H with ⟨c13b0, c13b1, H⟩ | ⟨c13, c13b0, c13b1, H⟩
    ·have H' := Aside0.mk H
     clear H
     go_wp2
     go_meet
     case rel => exact ⟨_, ((a0 == 9)), tS, H', ⟨by have := HJ1.out; first | omega | exact Nat.le_refl _⟩, tD⟩
    replace H := iE H
    rcases H with ⟨c14b0, c14b1, H⟩ | ⟨c14, c14b0, c14b1, H⟩
    ·have H' := Aside0.mk H
     clear H
     go_wp2
     go_meet
     case rel => exact ⟨_, ((a0 == 10)), tS, H', ⟨by have := HJ1.out; first | omega | exact Nat.le_refl _⟩, tD⟩
    replace H := iE H
    rcases H with ⟨c15b0, c15b1, H⟩ | ⟨c15, c15b0, c15b1, H⟩
    ·have H' := Aside0.mk H
     clear H
     go_wp2
     go_meet
     case rel => exact ⟨_, ((a0 == 23)), tS, H', ⟨by have := HJ1.out; first | omega | exact Nat.le_refl _⟩, tD⟩
    replace H := iE H
    rcases H with ⟨c16b0, c16b1, H⟩ | ⟨c16, c16b0, c16b1, H⟩
    ·have H' := Aside0.mk H
     clear H
     go_wp2
     go_meet
     case rel => exact ⟨_, ((a0 == 12)), tS, H', ⟨by have := HJ1.out; first | omega | exact Nat.le_refl _⟩, tD⟩
    replace H := iE H
    rcases H with ⟨c17b0, c17b1, H⟩ | ⟨c17, c17b0, c17b1, H⟩
    ·have H' := Aside0.mk H
     clear H
     go_wp2
     go_meet
     case rel => exact ⟨_, ((a0 == 16)), tS, H', ⟨by have := HJ1.out; first | omega | exact Nat.le_refl _⟩, tD⟩
    replace H := iE H
    rcases H with ⟨c18b0, c18b1, H⟩ | ⟨c18, c18b0, c18b1, H⟩
    ·have H' := Aside0.mk H
     clear H
     go_wp2
     go_meet
     case rel => exact ⟨_, ((a0 == 17)), tS, H', ⟨by have := HJ1.out; first | omega | exact Nat.le_refl _⟩, tD⟩
    replace H := iE H
    rcases H with ⟨c19b0, c19b1, H⟩ | ⟨c19, c19b0, c19b1, H⟩
    ·have H' := Aside0.mk H
     clear H
     go_wp2
     go_meet
     case rel => exact ⟨_, ((a0 == 18)), tS, H', ⟨by have := HJ1.out; first | omega | exact Nat.le_refl _⟩, tD⟩
    have H' := Aside0.mk H
    clear H
    go_wp2
    go_meet
    case rel => exact ⟨_, ((a0 == 26)), tS, H', ⟨by have := HJ1.out; first | omega | exact Nat.le_refl _⟩, tD⟩
   case rest =>
    clear HC11
    obtain ⟨kq, x13_10, rfl, HA, HJ10, ⟨mc10, rfl⟩⟩ := hcut
    cases kq with
    | zero => exact absurd HA.out (by simp [te_Kids.j1])
    | succ kj10 =>
     have H := HA.out
     clear HA
     simp only [te_Kids.j1] at H
     replace H := iB H
     rcases H with ⟨rfl, H⟩ | ⟨rfl, H⟩
     ·exact zz5
     have HC21 := Aside0.mk H
     clear H
     go_upto_if 23 with (fail)
     go_cut [23] (fun v23 wc => ∃ (kq : Nat) (x23_20 : Bool), v23 = .bool x23_20 ∧ Aside0 (te_Kids.j2 kq a0 x23_20 = some r) ∧ Aside0 (kq ≤ kj10) ∧ Drawn0 w wc)
     case first =>
      have H := HC21.out
      clear HC21
      replace H := iE H
      rcases H with ⟨c22b0, c22b1, H⟩ | ⟨c22, c22b0, c22b1, H⟩
      ·(first | rw [c22b0] | (simp only [i64_w, i32_w]; rw [c22b0]) | skip)
       have H' := Aside0.mk H
       clear H
       go_wp2
       go_meet
       case rel => exact ⟨_, ((a0 == 4)), tS, H', ⟨by have := HJ1.out; have := HJ10.out; first | omega | exact Nat.le_refl _⟩, tD⟩
      (first | rw [c22b0] | (simp only [i64_w, i32_w]; rw [c22b0]) | skip)
      replace H := iE H
      rcases H with ⟨c23b0, c23b1, H⟩ | ⟨c23, c23b0, c23b1, H⟩
      ·have H' := Aside0.mk H
       clear H
       go_wp2
       go_meet
       case rel => exact ⟨_, ((a0 == 7)), tS, H', ⟨by have := HJ1.out; have := HJ10.out; first | omega | exact Nat.le_refl _⟩, tD⟩
      replace H := iE H
      rcases H with ⟨c24b0, c24b1, H⟩ | ⟨c24, c24b0, c24b1, H⟩
      ·have H' := Aside0.mk H
       clear H
       go_wp2
       go_meet
       case rel => exact ⟨_, ((a0 == 6)), tS, H', ⟨by have := HJ1.out; have := HJ10.out; first | omega | exact Nat.le_refl _⟩, tD⟩
      replace H := iE H
      rcases H with ⟨c25b0, c25b1, H⟩ | ⟨c25, c25b0, c25b1, H⟩
      ·have H' := Aside0.mk H
       clear H
       go_wp2
       go_meet
       case rel => exact ⟨_, ((a0 == 8)), tS, H', ⟨by have := HJ1.out; have := HJ10.out; first | omega | exact Nat.le_refl _⟩, tD⟩
      replace H := iE H
      rcases H with ⟨c26b0, c26b1, H⟩ | ⟨c26, c26b0, c26b1, H⟩
      ·have H' := Aside0.mk H
       clear H
       go_wp2
       go_meet
       case rel => exact ⟨_, ((a0 == 14)), tS, H', ⟨by have := HJ1.out; have := HJ10.out; first | omega | exact Nat.le_refl _⟩, tD⟩
      replace H := iE H
      rcases H with ⟨c27b0, c27b1, H⟩ | ⟨c27, c27b0, c27b1, H⟩
      ·have H' := Aside0.mk H
       clear H
       go_wp2
       go_meet
       case rel => exact ⟨_, ((a0 == 15)), tS, H', ⟨by have := HJ1.out; have := HJ10.out; first | omega | exact Nat.le_refl _⟩, tD⟩
      have H' := Aside0.mk H
      clear H
      go_wp2
      go_meet
      case rel => exact ⟨_, ((a0 == 28)), tS, H', ⟨by have := HJ1.out; have := HJ10.out; first | omega | exact Nat.le_refl _⟩, tD⟩
     case rest =>
      clear HC21
      obtain ⟨kq, x23_20, rfl, HA, HJ20, ⟨mc20, rfl⟩⟩ := hcut
      cases kq with
      | zero => exact absurd HA.out (by simp [te_Kids.j2])
      | succ kj20 =>
       have H := HA.out
       clear HA
       simp only [te_Kids.j2] at H
       replace H := iB H
       rcases H with ⟨rfl, H⟩ | ⟨rfl, H⟩
       ·exact zz5
       have HC29 := Aside0.mk H
       clear H
       go_upto_if 31 with (fail)
       go_cut [31] (fun v31 wc => ∃ (kq : Nat) (x31_28 : Bool), v31 = .bool x31_28 ∧ Aside0 (te_Kids.j3 kq a0 x31_28 = some r) ∧ Aside0 (kq ≤ kj20) ∧ Drawn0 w wc)
       case first =>
        have H := HC29.out
        clear HC29
        replace H := iE H
        rcases H with ⟨c30b0, c30b1, H⟩ | ⟨c30, c30b0, c30b1, H⟩
        ·(first | rw [c30b0] | (simp only [i64_w, i32_w]; rw [c30b0]) | skip)
         have H' := Aside0.mk H
         clear H
         go_wp2
         go_meet
         case rel => exact ⟨_, ((a0 == 11)), tS, H', ⟨by have := HJ1.out; have := HJ10.out; have := HJ20.out; first | omega | exact Nat.le_refl _⟩, tD⟩
        (first | rw [c30b0] | (simp only [i64_w, i32_w]; rw [c30b0]) | skip)
        have H' := Aside0.mk H
        clear H
        go_wp2
        go_meet
        case rel => exact ⟨_, ((a0 == 13)), tS, H', ⟨by have := HJ1.out; have := HJ10.out; have := HJ20.out; first | omega | exact Nat.le_refl _⟩, tD⟩
       case rest =>
        clear HC29
        obtain ⟨kq, x31_28, rfl, HA, HJ28, ⟨mc28, rfl⟩⟩ := hcut
        cases kq with
        | zero => exact absurd HA.out (by simp [te_Kids.j3])
        | succ kj28 =>
         have H := HA.out
         clear HA
         simp only [te_Kids.j3] at H
         replace H := iB H
         rcases H with ⟨rfl, H⟩ | ⟨rfl, H⟩
         ·exact zz5
         replace H := iE H
         rcases H with ⟨c32b0, c32b1, H⟩ | ⟨c32, c32b0, c32b1, H⟩
         ·exact zz5
         replace H := iE H
         rcases H with ⟨c33b0, c33b1, H⟩ | ⟨c33, c33b0, c33b1, H⟩
         ·exact zz5
         exact zz5
def ma_Right.f (a0 : Int) : Option (Bool) := some ((Go.bits .andNot .u32 a0 16777215) == 0)
set_option maxHeartbeats 8000000 in
set_option maxRecDepth 100000 in
theorem ma_Right.calls (a0 : Int) (r : Bool) (w : World) (h : ma_Right.f a0 = some r) :
  Calls Tryz.prog 121 #[.int .u32 a0] w fun e w' => e = .returned (.bool r) ∧ Drawn0 w w' := by
 have H : (some ((Go.bits .andNot .u32 a0 16777215) == 0)) = some r := h
 clear h
 obtain rfl := Option.some.inj H
 go_enter Tryz.func121, Tryz.ntmps121
 exact zz0
def cl_Right.f (a0_0 : Int) (a0_1 : Int) : Option (Bool) := (ma_Right.f a0_0).bind fun t149 => (if t149 = true then ((ma_Right.f a0_1).bind fun t150 => (some t150)) else (some false))
theorem cl_Right.z0 {p : Prop} (h_ : p := by go_wp2_with (first | ((with_reducible refine gd_ 1 rfl ?_); refine boxE 1 #[.int .u32 a0_0, .int .u32 a0_1] 113 ?_; intro gb148 hg wa hbox hb; have BK148 := Aside0.mk (hbox); have GW148 := Aside0.mk (tG : w.heap.size ≤ gb148); have GE148 := Aside0.mk (tG : w.heap.size ≤ gb148); replace HB := Aside0.mk (below_step tB hb); clear hb hbox hg; have hcza := cz2 BK148.out) | ((with_reducible refine gf_ 121 rfl ?_); refine gC_ (some 5) Tryz.func121 #[.int .u32 a0_0] ?_; (with_reducible refine (ma_Right.calls a0_0 false _ A2.out).mono ?_); rintro e w' ⟨rfl, ⟨nd, rfl⟩⟩; refine ⟨_, rfl, ?_⟩) | ((with_reducible refine gf_ 121 rfl ?_); refine gC_ (some 5) Tryz.func121 #[.int .u32 a0_0] ?_; (with_reducible refine (ma_Right.calls a0_0 true _ A2.out).mono ?_); rintro e w' ⟨rfl, ⟨nd, rfl⟩⟩; refine ⟨_, rfl, ?_⟩) | (go_at_call 121; (with_reducible refine (ma_Right.calls a0_1 t150 _ A4.out).mono ?_); rintro e w' ⟨rfl, ⟨nd, rfl⟩⟩)); go_ret; exact ⟨tE, by repeat (first | (with_reducible first | exact HB.out | apply below_alloc | apply pw_below_drewN | apply below_drew1 | refine below_set ?_ GE148.out) | exact HB.out)⟩) : p := h_
set_option maxHeartbeats 8000000 in
set_option maxRecDepth 100000 in
theorem cl_Right.calls (a0_0 : Int) (a0_1 : Int) (r : Bool) (w : World) (h : cl_Right.f a0_0 a0_1 = some r) :
  Calls Tryz.prog 113 #[.agg #[.int .u32 a0_0, .int .u32 a0_1]] w fun e w' => e = .returned (.bool r) ∧ Below w.heap.size w w' := by
 have hu113 := Tryz.underlying113
 have HB := Aside0.mk (Below.refl w.heap.size w)
 have H : ((ma_Right.f a0_0).bind fun t149 => (if t149 = true then ((ma_Right.f a0_1).bind fun t150 => (some t150)) else (some false))) = some r := h
 clear h
 replace H := iX H
 obtain ⟨t149, A2, H⟩ := H
 replace H := iB H
 rcases H with ⟨rfl, H⟩ | ⟨rfl, H⟩
 ·replace H := iX H
  obtain ⟨t150, A4, H⟩ := H
  obtain rfl := Option.some.inj H
  go_enter Tryz.func113, Tryz.ntmps113
  exact cl_Right.z0
 obtain rfl := Option.some.inj H
 go_enter Tryz.func113, Tryz.ntmps113
 exact cl_Right.z0
def cl_Meet.f (a0_0 : Int) (a0_1 : Int) (a1_0 : Int) (a1_1 : Int) : Option (Int × Int) := some (Go.bits .or .u32 a0_0 a1_0, Go.bits .or .u32 a0_1 a1_1)
set_option maxHeartbeats 8000000 in
set_option maxRecDepth 100000 in
theorem cl_Meet.calls (a0_0 : Int) (a0_1 : Int) (a1_0 : Int) (a1_1 : Int) (r1 : Int) (r2 : Int) (w : World) (h : cl_Meet.f a0_0 a0_1 a1_0 a1_1 = some (r1, r2)) :
  Calls Tryz.prog 122 #[.agg #[.int .u32 a0_0, .int .u32 a0_1], .agg #[.int .u32 a1_0, .int .u32 a1_1]] w fun e w' => e = .returned (.agg #[.int .u32 r1, .int .u32 r2]) ∧ Below w.heap.size w w' := by
 have hu113 := Tryz.underlying113
 have HB := Aside0.mk (Below.refl w.heap.size w)
 have H : (some (Go.bits .or .u32 a0_0 a1_0, Go.bits .or .u32 a0_1 a1_1)) = some (r1, r2) := h
 clear h
 simp only [Option.some.injEq, Prod.mk.injEq] at H
 obtain ⟨rfl, rfl⟩ := H
 go_enter Tryz.func122, Tryz.ntmps122
 go_wp2_with (first | ((with_reducible refine gd_ 2 rfl ?_); refine boxE 2 #[.int .u32 a0_0, .int .u32 a0_1] 113 ?_; intro gb151 hg w3 hbox hb; have BK151 := Aside0.mk (hbox); have GW151 := Aside0.mk (tG : w.heap.size ≤ gb151); have GE151 := Aside0.mk (tG : w.heap.size ≤ gb151); replace HB := Aside0.mk (below_step tB hb); clear hb hbox hg) | ((with_reducible refine gd_ 3 rfl ?_); refine boxE 3 #[.int .u32 a1_0, .int .u32 a1_1] 113 ?_; intro gb152 hg w4 hbox hb; have BK152 := Aside0.mk (hbox); have GW152 := Aside0.mk ((by rw [hg]; exact (below_size (tBs GE151)) : w.heap.size ≤ gb152)); have GE152 := Aside0.mk ((by rw [hg]; exact (below_size (tBs GE151)) : w.heap.size ≤ gb152)); replace HB := Aside0.mk (below_step (tBs GE151) hb); have NB151_152 := Aside0.mk ((by rw [hg]; exact Nat.ne_of_lt (blk_lt (g := gb151) (o := .cells #[.int .u32 a0_0, .int .u32 a0_1] 113 (0, 0)) (tK BK151)) : gb151 ≠ gb152)); have NB152_151 := Aside0.mk ((by rw [hg]; exact Nat.ne_of_gt (blk_lt (g := gb151) (o := .cells #[.int .u32 a0_0, .int .u32 a0_1] 113 (0, 0)) (tK BK151)) : gb152 ≠ gb151)); replace BK151 := Aside0.mk (blk_below (g := gb151) (o := .cells #[.int .u32 a0_0, .int .u32 a0_1] 113 (0, 0)) (tK BK151) hb); clear hb hbox hg) | ((with_reducible refine gd_ 4 rfl ?_); refine boxE 4 #[.int .u32 0, .int .u32 0] 113 ?_; intro gb153 hg w5 hbox hb; have BK153 := Aside0.mk (hbox); have GW153 := Aside0.mk ((by rw [hg]; exact (below_size (by repeat (first | (with_reducible first | exact HB.out | apply below_alloc | apply pw_below_drewN | apply below_drew1 | refine below_set ?_ GE151.out | refine below_set ?_ GE152.out) | exact HB.out))) : w.heap.size ≤ gb153)); have GE153 := Aside0.mk ((by rw [hg]; exact (below_size (by repeat (first | (with_reducible first | exact HB.out | apply below_alloc | apply pw_below_drewN | apply below_drew1 | refine below_set ?_ GE151.out | refine below_set ?_ GE152.out) | exact HB.out))) : w.heap.size ≤ gb153)); replace HB := Aside0.mk (below_step (by repeat (first | (with_reducible first | exact HB.out | apply below_alloc | apply pw_below_drewN | apply below_drew1 | refine below_set ?_ GE151.out | refine below_set ?_ GE152.out) | exact HB.out)) hb); have NB151_153 := Aside0.mk ((by rw [hg]; exact Nat.ne_of_lt (blk_lt (g := gb151) (o := .cells #[.int .u32 a0_0, .int .u32 a0_1] 113 (0, 0)) (tK BK151)) : gb151 ≠ gb153)); have NB153_151 := Aside0.mk ((by rw [hg]; exact Nat.ne_of_gt (blk_lt (g := gb151) (o := .cells #[.int .u32 a0_0, .int .u32 a0_1] 113 (0, 0)) (tK BK151)) : gb153 ≠ gb151)); replace BK151 := Aside0.mk (blk_below (g := gb151) (o := .cells #[.int .u32 a0_0, .int .u32 a0_1] 113 (0, 0)) (tK BK151) hb); have NB152_153 := Aside0.mk ((by rw [hg]; exact Nat.ne_of_lt (blk_lt (g := gb152) (o := .cells #[.int .u32 a1_0, .int .u32 a1_1] 113 (0, 0)) (tK BK152)) : gb152 ≠ gb153)); have NB153_152 := Aside0.mk ((by rw [hg]; exact Nat.ne_of_gt (blk_lt (g := gb152) (o := .cells #[.int .u32 a1_0, .int .u32 a1_1] 113 (0, 0)) (tK BK152)) : gb153 ≠ gb152)); replace BK152 := Aside0.mk (blk_below (g := gb152) (o := .cells #[.int .u32 a1_0, .int .u32 a1_1] 113 (0, 0)) (tK BK152) hb); clear hb hbox hg; have hnb6 := NB151_152.out; have hnc6 := NB152_151.out; have hnb7 := NB151_153.out; have hnc7 := NB153_151.out; have hcz8 := cz2 BK151.out; have hnb9 := NB152_153.out; have hnc9 := NB153_152.out; have hcz10 := cz2 BK152.out; have hcz11 := cz2 BK153.out))
 refine bodyPost_ret (results_cell_row rfl _ _ gb153 113 #[.int .u32 (Go.bits .or .u32 a0_0 a1_0), .int .u32 (Go.bits .or .u32 a0_1 a1_1)] (0, 0) _ rfl (tPt BK153) Tryz.underlying113 rfl (by kernel_rfl)) rfl ?_
 exact ⟨tE, by repeat (first | (with_reducible first | exact HB.out | apply below_alloc | apply pw_below_drewN | apply below_drew1 | refine below_set ?_ GE151.out | refine below_set ?_ GE152.out | refine below_set ?_ GE153.out) | exact HB.out)⟩
end
end Go.Proofs.YtahdjajdaggmjaaGreatDoor.XPa
end
