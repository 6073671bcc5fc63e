-- Written for this claim by a program of ours (wip/xp.py), out of the translation and of hand-written contracts.
import Derived.Test.YtahdjajdaggmjaaGreatDoorSx
import Derived.Test.YtahdjajdaggmjaaGreatDoorYrec
import Derived.Test.YtahdjajdaggmjaaGreatDoorYdec
import Derived.Test.YtahdjajdaggmjaaGreatDoorZrall
import Derived.Test.YtahdjajdaggmjaaGreatDoorZwr
import Derived.Test.YtahdjajdaggmjaaGreatDoorXPax8
import Derived.Test.YtahdjajdaggmjaaGreatDoorXPax13
import Derived.Test.YtahdjajdaggmjaaGreatDoorXPax15
import Derived.Test.YtahdjajdaggmjaaGreatDoorXPax16
namespace Go.Proofs.YtahdjajdaggmjaaGreatDoor.XPa
noncomputable section
open Go.RowKit Go.Proofs.YtahdjajdaggmjaaGreatDoorW.PrintWords Go.Proofs.YtahdjajdaggmjaaGreatDoorW.PrintLast Go.Proofs.YtahdjajdaggmjaaGreatDoorW.PrintMore
attribute [local go_sem] max2_int min2_int max_two min_two max_three min_three max_four min_four
set_option linter.unusedVariables false
set_option linter.unusedSimpArgs false
mutual
def r10Binds.j0 : Nat → Int → Int → Bool → Option (Int × Int)
  | 0, _, _, _ => none
  | k + 1, x0, x1, x15 => if x15 = true then (some (1, 0)) else (if x1 = 0 then (if x0 = 5 then (r10Binds.j1 k x0 x1 true) else (if x0 = 22 then (r10Binds.j1 k x0 x1 true) else (r10Binds.j1 k x0 x1 (x0 == 27)))) else (r10Binds.j1 k x0 x1 false))
def r10Binds.j1 : Nat → Int → Int → Bool → Option (Int × Int)
  | 0, _, _, _ => none
  | k + 1, x0, x1, x29 => if x29 = true then (some (1, 0)) else (if x1 = 0 then (if x0 = 11 then (some (0, 1)) else (if x0 = 12 then (some (0, 1)) else (if x0 = 14 then (some (0, 1)) else (some (0, 0))))) else (some (0, 0)))
end
def r10Binds.f (k : Nat) (a0 : Int) (a1 : Int) : Option (Int × Int) := if a1 = 1 then (if a0 = 4 then (r10Binds.j0 k a0 a1 true) else (r10Binds.j0 k a0 a1 (a0 == 7))) else (r10Binds.j0 k a0 a1 false)
set_option maxHeartbeats 8000000 in
set_option maxRecDepth 100000 in
theorem r10Binds.calls (k : Nat) (a0 : Int) (a1 : Int) (r1 : Int) (r2 : Int) (w : World) (h : r10Binds.f k a0 a1 = some (r1, r2)) :
  Calls Tryz.prog 68 #[.int .i64 a0, .int .i64 a1] w fun e w' => e = .returned (.tuple #[.int .i64 r1, .int .i64 r2]) ∧ Drawn0 w w' := by
 have H : (if a1 = 1 then (if a0 = 4 then (r10Binds.j0 k a0 a1 true) else (r10Binds.j0 k a0 a1 (a0 == 7))) else (r10Binds.j0 k a0 a1 false)) = some (r1, r2) := h
 clear h
 have HC3 := Aside0.mk H
 clear H
 go_enter Tryz.func68, Tryz.ntmps68
 go_upto_region 1 with (fail)
 go_cut [15] (fun v15 wc => ∃ (kq : Nat) (x15_2 : Bool), v15 = .bool x15_2 ∧ Aside0 (r10Binds.j0 kq a0 a1 x15_2 = some (r1, r2)) ∧ Aside0 (kq ≤ k) ∧ Drawn0 w wc)
 case first =>
  have H := HC3.out
  clear HC3
  replace H := iE H
  rcases H with ⟨c4b0, c4b1, H⟩ | ⟨c4, c4b0, c4b1, H⟩
  ·(first | rw [c4b0] | (simp only [i64_w, i32_w]; rw [c4b0]) | skip)
   replace H := iE H
   rcases H with ⟨c5b0, c5b1, H⟩ | ⟨c5, c5b0, c5b1, H⟩
   ·have H' := Aside0.mk H
    clear H
    go_wp2
    go_meet
    case rel => exact ⟨_, (true), tS, H', ⟨by first | omega | exact Nat.le_refl _⟩, tD⟩
   exact zz11
  (first | rw [c4b0] | (simp only [i64_w, i32_w]; rw [c4b0]) | skip)
  exact zz10
 case rest =>
  clear HC3
  obtain ⟨kq, x15_2, rfl, HA, HJ2, ⟨mc2, rfl⟩⟩ := hcut
  cases kq with
  | zero => exact absurd HA.out (by simp [r10Binds.j0])
  | succ kj2 =>
   have H := HA.out
   clear HA
   simp only [r10Binds.j0] at H
   replace H := iB H
   rcases H with ⟨rfl, H⟩ | ⟨rfl, H⟩
   ·exact zz12
   have HC7 := Aside0.mk H
   clear H
   go_upto_region 3 with (fail)
   go_cut [29] (fun v29 wc => ∃ (kq : Nat) (x29_6 : Bool), v29 = .bool x29_6 ∧ Aside0 (r10Binds.j1 kq a0 a1 x29_6 = some (r1, r2)) ∧ Aside0 (kq ≤ kj2) ∧ Drawn0 w wc)
   case first =>
    have H := HC7.out
    clear HC7
    replace H := iE H
    rcases H with ⟨c8b0, c8b1, H⟩ | ⟨c8, c8b0, c8b1, H⟩
    ·(first | rw [c8b0] | (simp only [i64_w, i32_w]; rw [c8b0]) | skip)
     replace H := iE H
     rcases H with ⟨c9b0, c9b1, H⟩ | ⟨c9, c9b0, c9b1, H⟩
     ·exact zz14
     replace H := iE H
     rcases H with ⟨c10b0, c10b1, H⟩ | ⟨c10, c10b0, c10b1, H⟩
     ·exact zz14
     have H' := Aside0.mk H
     clear H
     go_wp2
     go_meet
     case rel => exact ⟨_, ((a0 == 27)), tS, H', ⟨by have := HJ2.out; first | omega | exact Nat.le_refl _⟩, tD⟩
    (first | rw [c8b0] | (simp only [i64_w, i32_w]; rw [c8b0]) | skip)
    exact zz13
   case rest =>
    clear HC7
    obtain ⟨kq, x29_6, rfl, HA, HJ6, ⟨mc6, rfl⟩⟩ := hcut
    cases kq with
    | zero => exact absurd HA.out (by simp [r10Binds.j1])
    | succ kj6 =>
     have H := HA.out
     clear HA
     simp only [r10Binds.j1] at H
     replace H := iB H
     rcases H with ⟨rfl, H⟩ | ⟨rfl, H⟩
     ·exact zz12
     replace H := iE H
     rcases H with ⟨c12b0, c12b1, H⟩ | ⟨c12, c12b0, c12b1, H⟩
     ·replace H := iE H
      rcases H with ⟨c13b0, c13b1, H⟩ | ⟨c13, c13b0, c13b1, H⟩
      ·exact zz12
      replace H := iE H
      rcases H with ⟨c14b0, c14b1, H⟩ | ⟨c14, c14b0, c14b1, H⟩
      ·exact zz12
      replace H := iE H
      rcases H with ⟨c15b0, c15b1, H⟩ | ⟨c15, c15b0, c15b1, H⟩
      ·exact zz12
      exact zz12
     exact zz12
def r10More.f (a0 : Int) : Option (Int) := if a0 = 15 then (some 1) else (some 0)
set_option maxHeartbeats 8000000 in
set_option maxRecDepth 100000 in
theorem r10More.calls (a0 : Int) (r : Int) (w : World) (h : r10More.f a0 = some r) :
  Calls Tryz.prog 69 #[.int .i64 a0] w fun e w' => e = .returned (.int .i64 r) ∧ Drawn0 w w' := by
 have H : (if a0 = 15 then (some 1) else (some 0)) = some r := h
 clear h
 replace H := iE H
 rcases H with ⟨c2b0, c2b1, H⟩ | ⟨c2, c2b0, c2b1, H⟩
 ·obtain rfl := Option.some.inj H
  go_enter Tryz.func69, Tryz.ntmps69
  exact zz0
 obtain rfl := Option.some.inj H
 go_enter Tryz.func69, Tryz.ntmps69
 exact zz0
theorem rpartsx (a : Int) : r10Parts.f a = some (partsI a) := by
  have h : a = 16 ∨ a = 15 ∨ a = 17 ∨ a = 18 ∨ (a ≠ 16 ∧ a ≠ 15 ∧ a ≠ 17 ∧ a ≠ 18) := by omega
  rcases h with rfl | rfl | rfl | rfl | ⟨h16, h15, h17, h18⟩
  · rfl
  · rfl
  · rfl
  · rfl
  · simp [r10Parts.f, partsI, h16, h15, h17, h18]
theorem rmorex (a : Int) : r10More.f a = some (moreI a) := by
  unfold r10More.f moreI
  split <;> rfl
theorem rbindsx (a i : Int) : r10Binds.f 8 a i = some (bindsI a i) := by
  have h : a = 4 ∨ a = 7 ∨ a = 5 ∨ a = 22 ∨ a = 27 ∨ a = 11 ∨ a = 12 ∨ a = 14 ∨ (a ≠ 4 ∧ a ≠ 7 ∧ a ≠ 5 ∧ a ≠ 22 ∧ a ≠ 27 ∧ a ≠ 11 ∧ a ≠ 12 ∧ a ≠ 14) := by omega
  have hi : i = 1 ∨ i = 0 ∨ (i ≠ 1 ∧ i ≠ 0) := by omega
  rcases hi with rfl | rfl | ⟨i1, i0⟩
  · rcases h with rfl | rfl | rfl | rfl | rfl | rfl | rfl | rfl | ⟨h4, h7, h5, h22, h27, h11, h12, h14⟩
    · rfl
    · rfl
    · rfl
    · rfl
    · rfl
    · rfl
    · rfl
    · rfl
    · simp [r10Binds.f, r10Binds.j0, r10Binds.j1, bindsI, h4, h7, h5, h22, h27, h11, h12, h14]
  · rcases h with rfl | rfl | rfl | rfl | rfl | rfl | rfl | rfl | ⟨h4, h7, h5, h22, h27, h11, h12, h14⟩
    · rfl
    · rfl
    · rfl
    · rfl
    · rfl
    · rfl
    · rfl
    · rfl
    · simp [r10Binds.f, r10Binds.j0, r10Binds.j1, bindsI, h4, h7, h5, h22, h27, h11, h12, h14]
  · simp [r10Binds.f, r10Binds.j0, r10Binds.j1, bindsI, i1, i0]
noncomputable def frR (l : List Cl) : Bool := valO false fun k => r03Right.f k l
noncomputable def faR (l : List Cl) : Bool := valO false fun k => r05Right.f k l
noncomputable def wiR (l : List Cl) (d : Int) : Bool := if l.length = 0 then true else valO false fun k => r10low.f k l d
noncomputable def nmR (s : ByteArray) : Bool := valO false fun k => r10name.f k s
def PFr (l : List Cl) : Prop := (hasO fun k => r03Right.f k l) ∧ (hasO fun k => r05Right.f k l) ∧ (∀ d, 0 ≤ d → d ≤ 1000 → hasO fun k => r10low.f k l d) ∧ (l.length = 0 → ∀ d, ∃ k, r10low.f k l d = some true)
def PNr (s : ByteArray) : Prop := hasO fun k => r10name.f k s
theorem rallP_all : RAllP PFr PNr frR faR wiR nmR where
  kids a w := r10Kids.calls a _ w rfl
  parts a w := (r10Parts.calls a _ w (rpartsx a)).mono fun e w' ⟨he, hb⟩ => ⟨he, hb.below⟩
  more a w := (r10More.calls a _ w (rmorex a)).mono fun e w' ⟨he, hb⟩ => ⟨he, hb.below⟩
  binds a i w := (r10Binds.calls 8 a i _ _ w (rbindsx a i)).mono fun e w' ⟨he, hb⟩ => ⟨he, hb.below⟩
  fright A c l w hC hl hp := by
    obtain ⟨k, hk⟩ := valO_some (d := false) (r03Right.mono l) hp.1
    exact r03Right.calls k A c l _ w hC hl hk
  faright A c l w hC hl hp := by
    obtain ⟨k, hk⟩ := valO_some (d := false) (r05Right.mono l) hp.2.1
    exact r05Right.calls k A c l _ w hC hl hk
  low A c l d w hC hl hp h0 h1 := by
    unfold wiR
    by_cases h : l.length = 0
    · rw [if_pos h]
      obtain ⟨k, hk⟩ := hp.2.2.2 h d
      exact r10low.calls k A c l d _ w hC hl hk
    · rw [if_neg h]
      obtain ⟨k, hk⟩ := valO_some (d := false) (r10low.mono l d) (hp.2.2.1 d h0 h1)
      exact r10low.calls k A c l d _ w hC hl hk
  name s w hp := by
    obtain ⟨k, hk⟩ := valO_some (d := false) (r10name.mono s) hp
    exact (r10name.calls k s _ w hk).mono fun e w' ⟨he, hb⟩ => ⟨he, hb.below⟩
  nil d := rfl
def rallG (t : Tm) (a1 a2 : Int) (a3 : Bool) : Prop := a3 = true ∧ okS PFr PNr t ∧ 0 ≤ a1 ∧ a1 + sizeT t ≤ 1000000000 ∧ 0 ≤ a2 ∧ a2 ≤ 25
noncomputable def r10All.f (a0_0 a0_1 : Int) (a0_2 : ByteArray) (l0_3 : List S113) (l0_4 : List S49) (l0_5 : List S90) (a1 a2 : Int) (a3 : Bool) : Option Bool := @ite _ (rallG (⟨a0_0, a0_1, a0_2, l0_3, l0_4, l0_5⟩ : Tm) a1 a2 a3) (Classical.propDecidable _) (some (allT frR faR wiR nmR (⟨a0_0, a0_1, a0_2, l0_3, l0_4, l0_5⟩ : Tm) a1 a2)) none
theorem r10All.calls (a0_0 : Int) (a0_1 : Int) (a0_2 : ByteArray) (A0_3 : Option Addr) (c0_3 : Nat) (l0_3 : List (S113)) (A0_4 : Option Addr) (c0_4 : Nat) (l0_4 : List (S49)) (A0_5 : Option Addr) (c0_5 : Nat) (l0_5 : List (S90)) (a1 : Int) (a2 : Int) (a3 : Bool) (r : Bool) (w : World) (hr0_3 : Kd.C k113 w A0_3 l0_3.length l0_3) (hc0_3 : l0_3.length ≤ c0_3) (hr0_4 : Kd.C k49 w A0_4 l0_4.length l0_4) (hc0_4 : l0_4.length ≤ c0_4) (hr0_5 : Kd.C k90 w A0_5 l0_5.length l0_5) (hc0_5 : l0_5.length ≤ c0_5) (h : r10All.f a0_0 a0_1 a0_2 l0_3 l0_4 l0_5 a1 a2 a3 = some r) :
    Calls Tryz.prog 44 #[.agg #[.int .i64 a0_0, .int .i64 a0_1, .string a0_2, .slice A0_3 l0_3.length c0_3, .slice A0_4 l0_4.length c0_4, .slice A0_5 l0_5.length c0_5], .int .i64 a1, .int .i64 a2, .bool a3] w fun e w' => e = .returned (.bool r) ∧ Below w.heap.size w w' := by
 unfold r10All.f at h
 by_cases hr : rallG (⟨a0_0, a0_1, a0_2, l0_3, l0_4, l0_5⟩ : Tm) a1 a2 a3
 ·rw [if_pos hr] at h
  obtain rfl := Option.some.inj h
  obtain ⟨rfl, h1, h2, h3, h4, h5⟩ := hr
  exact ref10_All rallP_all (sizeT (⟨a0_0, a0_1, a0_2, l0_3, l0_4, l0_5⟩ : Tm)) (⟨a0_0, a0_1, a0_2, l0_3, l0_4, l0_5⟩ : Tm) a1 a2 _ w (Nat.le_refl _) h1 h2 h3 h4 h5 (k49_mk w (⟨a0_0, a0_1, a0_2, l0_3, l0_4, l0_5⟩ : Tm) hc0_3 hr0_3 hc0_4 hr0_4 hc0_5 hr0_5)
 ·rw [if_neg hr] at h
  exact absurd h (by simp)
def r10Right.j0 : Nat → Int → Int → Bool → Int → Int → ByteArray → List (S113) → List (S49) → List (S90) → Option (Int)
  | 0, _, _, _, _, _, _, _, _, _ => none
  | k + 1, x1, x2, x17, x294000, x294001, x294002, x294003, x294004, x294005 => if x17 = true then (some 2) else ((r10sized.f k x294000 x294001 x294002 x294003 x294004 x294005).bind fun t294 => (if t294 = 0 then ((r10All.f x294000 x294001 x294002 x294003 x294004 x294005 x1 x2 true).bind fun t295 => (if t295 = true then (some t294) else (some 100))) else (some t294)))
def r10Right.f (k : Nat) (a0_0 : Int) (a0_1 : Int) (a0_2 : ByteArray) (l0_3 : List (S113)) (l0_4 : List (S49)) (l0_5 : List (S90)) (a1 : Int) (a2 : Int) : Option (Int) := if a1 < 0 then (r10Right.j0 k a1 a2 true a0_0 a0_1 a0_2 l0_3 l0_4 l0_5) else (if a2 < 0 then (r10Right.j0 k a1 a2 true a0_0 a0_1 a0_2 l0_3 l0_4 l0_5) else (r10Right.j0 k a1 a2 (decide (a2 > 24)) a0_0 a0_1 a0_2 l0_3 l0_4 l0_5))
theorem r10Right.z0 {p : Prop} (h_ : p := by obtain rfl := Option.some.inj H; (try (have hcz := cz6 BK293.out)); go_wp2_with (first | ((with_reducible refine gf_ 43 rfl ?_); refine gC_ (some 19) Tryz.func43 #[.agg #[.int .i64 a0_0, .int .i64 a0_1, .string a0_2, .slice A0_3 l0_3.length c0_3, .slice A0_4 l0_4.length c0_4, .slice A0_5 l0_5.length c0_5]] ?_; (with_reducible refine (r10sized.calls kj3 a0_0 a0_1 a0_2 _ _ l0_3 _ _ l0_4 _ _ l0_5 t294 _ ?side1 ?side2 ?side3 ?side4 ?side5 ?side6 A9.out).mono ?_); (case side1 => exact tCb HR0_3 HB); (case side2 => exact HC0_3.out); (case side3 => exact tCb HR0_4 HB); (case side4 => exact HC0_4.out); (case side5 => exact tCb HR0_5 HB); (case side6 => exact HC0_5.out); rintro e wa ⟨rfl, hb⟩; refine ⟨_, rfl, ?_⟩; replace BK293 := Aside0.mk (blk_below (g := gb293) (o := .cells #[.int .i64 a0_0, .int .i64 a0_1, .string a0_2, .slice A0_3 l0_3.length c0_3, .slice A0_4 l0_4.length c0_4, .slice A0_5 l0_5.length c0_5] 49 (0, 0)) (tK BK293) hb); replace HB := Aside0.mk (below_step (tBs GE293) hb); (try clear hb); have hcza := cz6 BK293.out) | (go_at_call 44; (with_reducible refine (r10All.calls a0_0 a0_1 a0_2 _ _ l0_3 _ _ l0_4 _ _ l0_5 a1 a2 true false _ ?side1 ?side2 ?side3 ?side4 ?side5 ?side6 A11.out).mono ?_); (case side1 => exact tCb HR0_3 HB); (case side2 => exact HC0_3.out); (case side3 => exact tCb HR0_4 HB); (case side4 => exact HC0_4.out); (case side5 => exact tCb HR0_5 HB); (case side6 => exact HC0_5.out); rintro e wa ⟨rfl, hb⟩; replace BK293 := Aside0.mk (blk_below (g := gb293) (o := .cells #[.int .i64 a0_0, .int .i64 a0_1, .string a0_2, .slice A0_3 l0_3.length c0_3, .slice A0_4 l0_4.length c0_4, .slice A0_5 l0_5.length c0_5] 49 (0, 0)) (tK BK293) hb); replace HB := Aside0.mk (below_step (tBs GE293) hb); (try clear hb)) | (go_at_call 44; (with_reducible refine (r10All.calls a0_0 a0_1 a0_2 _ _ l0_3 _ _ l0_4 _ _ l0_5 a1 a2 true true _ ?side1 ?side2 ?side3 ?side4 ?side5 ?side6 A11.out).mono ?_); (case side1 => exact tCb HR0_3 HB); (case side2 => exact HC0_3.out); (case side3 => exact tCb HR0_4 HB); (case side4 => exact HC0_4.out); (case side5 => exact tCb HR0_5 HB); (case side6 => exact HC0_5.out); rintro e wa ⟨rfl, hb⟩; replace BK293 := Aside0.mk (blk_below (g := gb293) (o := .cells #[.int .i64 a0_0, .int .i64 a0_1, .string a0_2, .slice A0_3 l0_3.length c0_3, .slice A0_4 l0_4.length c0_4, .slice A0_5 l0_5.length c0_5] 49 (0, 0)) (tK BK293) hb); replace HB := Aside0.mk (below_step (tBs GE293) hb); (try clear hb))); go_ret; exact ⟨tE, by repeat (first | (with_reducible first | exact HB.out | apply below_alloc | apply pw_below_drewN | apply below_drew1 | refine below_set ?_ GE293.out) | exact HB.out)⟩) : p := h_
set_option maxHeartbeats 8000000 in
set_option maxRecDepth 100000 in
theorem r10Right.calls (k : Nat) (a0_0 : Int) (a0_1 : Int) (a0_2 : ByteArray) (A0_3 : Option Addr) (c0_3 : Nat) (l0_3 : List (S113)) (A0_4 : Option Addr) (c0_4 : Nat) (l0_4 : List (S49)) (A0_5 : Option Addr) (c0_5 : Nat) (l0_5 : List (S90)) (a1 : Int) (a2 : Int) (r : Int) (w : World) (hr0_3 : Kd.C k113 w A0_3 l0_3.length l0_3) (hc0_3 : l0_3.length ≤ c0_3) (hr0_4 : Kd.C k49 w A0_4 l0_4.length l0_4) (hc0_4 : l0_4.length ≤ c0_4) (hr0_5 : Kd.C k90 w A0_5 l0_5.length l0_5) (hc0_5 : l0_5.length ≤ c0_5) (h : r10Right.f k a0_0 a0_1 a0_2 l0_3 l0_4 l0_5 a1 a2 = some r) :
  Calls Tryz.prog 25 #[.agg #[.int .i64 a0_0, .int .i64 a0_1, .string a0_2, .slice A0_3 l0_3.length c0_3, .slice A0_4 l0_4.length c0_4, .slice A0_5 l0_5.length c0_5], .int .i64 a1, .int .i64 a2] w fun e w' => e = .returned (.int .i64 r) ∧ Below w.heap.size w w' := by
 have hu49 := Tryz.underlying49
 have HR0_3 := Aside0.mk hr0_3
 have HC0_3 := Aside0.mk hc0_3
 clear hr0_3 hc0_3
 have HR0_4 := Aside0.mk hr0_4
 have HC0_4 := Aside0.mk hc0_4
 clear hr0_4 hc0_4
 have HR0_5 := Aside0.mk hr0_5
 have HC0_5 := Aside0.mk hc0_5
 clear hr0_5 hc0_5
 have HB := Aside0.mk (Below.refl w.heap.size w)
 have H : (if a1 < 0 then (r10Right.j0 k a1 a2 true a0_0 a0_1 a0_2 l0_3 l0_4 l0_5) else (if a2 < 0 then (r10Right.j0 k a1 a2 true a0_0 a0_1 a0_2 l0_3 l0_4 l0_5) else (r10Right.j0 k a1 a2 (decide (a2 > 24)) a0_0 a0_1 a0_2 l0_3 l0_4 l0_5))) = some r := h
 clear h
 have HC4 := Aside0.mk H
 clear H
 go_enter Tryz.func25, Tryz.ntmps25
 go_upto_region 1 with (first | ((with_reducible refine gd_ 3 rfl ?_); refine boxE 3 #[.int .i64 a0_0, .int .i64 a0_1, .string a0_2, .slice A0_3 l0_3.length c0_3, .slice A0_4 l0_4.length c0_4, .slice A0_5 l0_5.length c0_5] 49 ?_; intro gb293 hg w5 hbox hb; have BK293 := Aside0.mk (hbox); have GW293 := Aside0.mk (tG : w.heap.size ≤ gb293); have GE293 := Aside0.mk (tG : w.heap.size ≤ gb293); replace HB := Aside0.mk (below_step tB hb); clear hb hbox hg))
 (try simp only [Act.put, List.setIfInBounds_toArray, List.set_cons_zero, List.set_cons_succ])
 go_cut [17] (fun v17 wc => ∃ (kq : Nat) (x17_3 : Bool), v17 = .bool x17_3 ∧ Aside0 (r10Right.j0 kq a1 a2 x17_3 a0_0 a0_1 a0_2 l0_3 l0_4 l0_5 = some r) ∧ Aside0 (kq ≤ k) ∧ Aside0 (wc.heap[gb293]? = some (.cells #[.int .i64 a0_0, .int .i64 a0_1, .string a0_2, (.slice A0_3 l0_3.length c0_3), (.slice A0_4 l0_4.length c0_4), (.slice A0_5 l0_5.length c0_5)] 49 (0, 0))) ∧ Aside0 (Below w.heap.size w wc))
 case first =>
  have H := HC4.out
  clear HC4
  replace H := iD H
  rcases H with ⟨c6b0, H⟩ | ⟨c6b0, H⟩
  ·(first | rw [c6b0] | (simp only [i64_w, i32_w]; rw [c6b0]) | skip)
   exact zz15
  (first | rw [c6b0] | (simp only [i64_w, i32_w]; rw [c6b0]) | skip)
  replace H := iD H
  rcases H with ⟨c7b0, H⟩ | ⟨c7b0, H⟩
  ·exact zz15
  have H' := Aside0.mk H
  clear H
  go_wp2
  go_meet
  case rel => exact ⟨_, (decide (a2 > 24)), tS, H', ⟨by first | omega | exact Nat.le_refl _⟩, ⟨tK BK293⟩, ⟨tBs GE293⟩⟩
 case rest =>
  clear HC4
  obtain ⟨kq, x17_3, rfl, HA, HJ3, BK293, HB⟩ := hcut
  cases kq with
  | zero => exact absurd HA.out (by simp [r10Right.j0])
  | succ kj3 =>
   have H := HA.out
   clear HA
   simp only [r10Right.j0] at H
   replace H := iB H
   rcases H with ⟨rfl, H⟩ | ⟨rfl, H⟩
   ·obtain rfl := Option.some.inj H
    go_wp2
    go_ret
    exact ⟨tE, by repeat (first | (with_reducible first | exact HB.out | apply below_alloc | apply pw_below_drewN | apply below_drew1 | refine below_set ?_ GE293.out) | exact HB.out)⟩
   replace H := iX H
   obtain ⟨t294, A9, H⟩ := H
   replace H := iE H
   rcases H with ⟨c10b0, c10b1, H⟩ | ⟨c10, c10b0, c10b1, H⟩
   ·replace H := iX H
    obtain ⟨t295, A11, H⟩ := H
    replace H := iB H
    rcases H with ⟨rfl, H⟩ | ⟨rfl, H⟩
    ·exact r10Right.z0
    exact r10Right.z0
   obtain rfl := Option.some.inj H
   have hcz21 := cz6 BK293.out
   go_wp2_with (first | ((with_reducible refine gf_ 43 rfl ?_); refine gC_ (some 19) Tryz.func43 #[.agg #[.int .i64 a0_0, .int .i64 a0_1, .string a0_2, .slice A0_3 l0_3.length c0_3, .slice A0_4 l0_4.length c0_4, .slice A0_5 l0_5.length c0_5]] ?_; (with_reducible refine (r10sized.calls kj3 a0_0 a0_1 a0_2 _ _ l0_3 _ _ l0_4 _ _ l0_5 t294 _ ?side1 ?side2 ?side3 ?side4 ?side5 ?side6 A9.out).mono ?_); (case side1 => exact tCb HR0_3 HB); (case side2 => exact HC0_3.out); (case side3 => exact tCb HR0_4 HB); (case side4 => exact HC0_4.out); (case side5 => exact tCb HR0_5 HB); (case side6 => exact HC0_5.out); rintro e w22 ⟨rfl, hb⟩; refine ⟨_, rfl, ?_⟩; replace BK293 := Aside0.mk (blk_below (g := gb293) (o := .cells #[.int .i64 a0_0, .int .i64 a0_1, .string a0_2, .slice A0_3 l0_3.length c0_3, .slice A0_4 l0_4.length c0_4, .slice A0_5 l0_5.length c0_5] 49 (0, 0)) (tK BK293) hb); replace HB := Aside0.mk (below_step (tBs GE293) hb); (try clear hb)))
   go_ret
   exact ⟨tE, by repeat (first | (with_reducible first | exact HB.out | apply below_alloc | apply pw_below_drewN | apply below_drew1 | refine below_set ?_ GE293.out) | exact HB.out)⟩
theorem numberx : ∀ (n k : Nat), n ≤ 4294967295 → n < 128 ^ k → 0 < k → r36number.f k (n : Int) = some (numL n) := by
  intro n
  induction n using Nat.strongRecOn with
  | _ n ih =>
  intro k hn hk h0
  cases k with
  | zero => exact absurd h0 (by omega)
  | succ k =>
  rw [r36number.f]
  by_cases h : n < 128
  · rw [if_pos (by omega), numL_lt h, Int.emod_eq_of_lt (by omega) (by omega)]
  · have e1 : wrap64 (Int.tmod (n : Int) 128 + 128) % 256 = ((n % 128 + 128 : Nat) : Int) := by
      rw [show Int.tmod (n : Int) 128 = ((n % 128 : Nat) : Int) from rfl]
      unfold wrap64
      omega
    have e2 : wrap64 (Int.tdiv (n : Int) 128) = ((n / 128 : Nat) : Int) := by
      rw [show Int.tdiv (n : Int) 128 = ((n / 128 : Nat) : Int) from rfl]
      unfold wrap64
      omega
    have hl := numL_length (n / 128) (by omega)
    rw [if_neg (by omega), Option.bind_some, e1, e2, ih (n / 128) (by omega) k (by omega) (by rw [Nat.pow_succ] at hk; omega) (Nat.pos_of_ne_zero (fun e => by rw [e] at hk; exact h (by simpa using hk))), Option.bind_some, if_pos (by rw [List.length_singleton]; omega), numL_ge h]
    rfl
def r36text.f (a0 : ByteArray) : Option (List Int) := if a0.size ≤ 2000000 then some (textL a0) else none
theorem r36text.calls (a0 : ByteArray) (r : List Int) (w : World) (h : r36text.f a0 = some r) :
    Calls Tryz.prog 26 #[.string a0] w fun e w' => ∃ v0_ : Value, e = .returned (v0_) ∧ Kd.R (Kd.int .u8) 5 w' w.heap.size (fun _ => True) v0_ r ∧ Below w.heap.size w w' := by
 unfold r36text.f at h
 by_cases hr : a0.size ≤ 2000000
 ·rw [if_pos hr] at h
  obtain rfl := Option.some.inj h
  exact ref36_text (fun n w hn => r36number.calls 3 (n : Int) _ w (numberx n 3 (by omega) (by omega) (by omega))) a0 w hr
 ·rw [if_neg hr] at h
  exact absurd h (by simp)
def r36rowed.f (a0 : Int) : Option (Bool) := if a0 = 13 then (some true) else (if a0 = 21 then (some true) else (if a0 = 26 then (some true) else (some (a0 == 14))))
set_option maxHeartbeats 8000000 in
set_option maxRecDepth 100000 in
theorem r36rowed.calls (a0 : Int) (r : Bool) (w : World) (h : r36rowed.f a0 = some r) :
  Calls Tryz.prog 45 #[.int .i64 a0] w fun e w' => e = .returned (.bool r) ∧ Drawn0 w w' := by
 have H : (if a0 = 13 then (some true) else (if a0 = 21 then (some true) else (if a0 = 26 then (some true) else (some (a0 == 14))))) = some r := h
 clear h
 replace H := iE H
 rcases H with ⟨c2b0, c2b1, H⟩ | ⟨c2, c2b0, c2b1, H⟩
 ·obtain rfl := Option.some.inj H
  go_enter Tryz.func45, Tryz.ntmps45
  exact zz0
 replace H := iE H
 rcases H with ⟨c3b0, c3b1, H⟩ | ⟨c3, c3b0, c3b1, H⟩
 ·obtain rfl := Option.some.inj H
  go_enter Tryz.func45, Tryz.ntmps45
  exact zz0
 replace H := iE H
 rcases H with ⟨c4b0, c4b1, H⟩ | ⟨c4, c4b0, c4b1, H⟩
 ·obtain rfl := Option.some.inj H
  go_enter Tryz.func45, Tryz.ntmps45
  exact zz0
 obtain rfl := Option.some.inj H
 go_enter Tryz.func45, Tryz.ntmps45
 exact zz0
def r36row.l0 : Nat → List (S113) → List Int → Int → Option (List Int)
  | 0, _, _, _ => none
  | k + 1, x0, x3, x4 => if x4 < (x0.length : Int) then (if 0 ≤ x4 then ((r36number.f k (wrap64 ((rd_T113 x0 x4).f0))).bind fun t300 => (if x3.length + t300.length < 140737488355328 then ((some (x3 ++ t300 : List Int)).bind fun y303 => ((r36number.f k (wrap64 ((rd_T113 x0 x4).f1))).bind fun t307 => (if y303.length + t307.length < 140737488355328 then (r36row.l0 k x0 (y303 ++ t307) (wrap64 (x4 + 1))) else (none)))) else (none))) else (none)) else (some x3)
def r36row.f (k : Nat) (l0 : List (S113)) : Option (List Int) := (r36number.f k (l0.length : Int)).bind fun t296 => (r36row.l0 k l0 t296 0)
set_option maxHeartbeats 8000000 in
set_option maxRecDepth 100000 in
theorem r36row.calls (k : Nat) (A0 : Option Addr) (c0 : Nat) (l0 : List (S113)) (r : List Int) (w : World) (hr0 : Kd.C k113 w A0 l0.length l0) (hc0 : l0.length ≤ c0) (h : r36row.f k l0 = some r) :
  Calls Tryz.prog 46 #[.slice A0 l0.length c0] w fun e w' => ∃ v0_ : Value, e = .returned (v0_) ∧ Kd.R (Kd.int .u8) 5 w' w.heap.size (fun _ => True) v0_ r ∧ Below w.heap.size w w' := by
 have HR0 := Aside0.mk hr0
 have HC0 := Aside0.mk hc0
 clear hr0 hc0
 have HB := Aside0.mk (Below.refl w.heap.size w)
 have H : ((r36number.f k (l0.length : Int)).bind fun t296 => (r36row.l0 k l0 t296 0)) = some r := h
 clear h
 replace H := iX H
 obtain ⟨t296, A2, H⟩ := H
 have H' := Aside0.mk H
 clear H
 go_enter Tryz.func46, Tryz.ntmps46
 go_wp2_with (first | ((with_reducible refine gf_ 24 rfl ?_); refine gC_ (some 7) Tryz.func24 #[.int .i64 (l0.length : Int)] ?_; (with_reducible refine (r36number.calls k (l0.length : Int) t296 _ A2.out).mono ?_); rintro e w3 ⟨v297, rfl, ho0, hb⟩; refine ⟨_, rfl, ?_⟩; have HO298 := Aside0.mk (Kd.R_lower ho0 (below_size tB)); replace HB := Aside0.mk (below_step tB hb); (try clear hb); (try clear ho0)))
 go_loopg [3, 4] k (fun kq v3 v4 w' => ∃ (x3_1 : List Int) (x4_1 : Int), v4 = .int .i64 x4_1 ∧ Aside0 (r36row.l0 kq l0 x3_1 x4_1 = some r) ∧ Aside0 (kq ≤ k) ∧ Aside0 (Kd.R (Kd.int .u8) 5 w' w.heap.size (fun _ => True) v3 x3_1) ∧ Aside0 (Below w.heap.size w w'))
 case atStart => exact ⟨(t296), (0), tS, H', ⟨Nat.le_refl _⟩, ⟨tR HO298⟩, ⟨tB⟩⟩
 case round =>
  clear H'
  obtain ⟨x3_1, x4_1, rfl, HA, HK1, HO_3, HB⟩ := hrel
  cases gk with
  | zero => exact absurd HA.out (by simp [r36row.l0])
  | succ k1 =>
   have H := HA.out
   clear HA
   simp only [r36row.l0] at H
   replace H := iD H
   rcases H with ⟨c4b0, H⟩ | ⟨c4b0, H⟩
   ·replace H := niD H
    obtain ⟨c5b0, H⟩ := H
    replace H := iX H
    obtain ⟨t300, A6, H⟩ := H
    replace H := niC H
    obtain ⟨c7, H⟩ := H
    have LMc7 := Aside0.mk c7
    clear c7
    obtain ⟨y303, hy303⟩ : ∃ y_ : List Int, y_ = (x3_1 ++ t300) := ⟨_, rfl⟩
    replace H : ((r36number.f k1 (wrap64 ((rd_T113 l0 x4_1).f1))).bind fun t307 => (if y303.length + t307.length < 140737488355328 then (r36row.l0 k1 l0 (y303 ++ t307) (wrap64 (x4_1 + 1))) else (none))) = some r := tY hy303 H
    have Ny303 := Aside0.mk hy303
    clear hy303
    replace H := iX H
    obtain ⟨t307, A8, H⟩ := H
    replace H := niC H
    obtain ⟨c9, H⟩ := H
    have LMc9 := Aside0.mk c9
    clear c9
    obtain ⟨y310, hy310⟩ : ∃ y_ : List Int, y_ = (y303 ++ t307) := ⟨_, rfl⟩
    replace H : (r36row.l0 k1 l0 y310 (wrap64 (x4_1 + 1))) = some r := tY hy310 H
    have Ny310 := Aside0.mk hy310
    clear hy310
    have H' := Aside0.mk H
    clear H
    obtain ⟨p299, q299, ad299, rfl, hx299_0, hx299_1⟩ := at_B113 HR0 HB x4_1
    go_wp2_with (first | ((with_reducible refine gf_ 24 rfl ?_); refine gC_ (some 21) Tryz.func24 #[.int .i64 (wrap64 ((rd_T113 l0 x4_1).f0))] ?_; (with_reducible refine (r36number.calls k1 (wrap64 ((rd_T113 l0 x4_1).f0)) t300 _ A6.out).mono ?_); rintro e w10 ⟨v301, rfl, ho0, hb⟩; refine ⟨_, rfl, ?_⟩; have HO302 := Aside0.mk (Kd.R_lower (Kd.R_new' ho0 (Kd.R_lt (tR HO_3))) (below_size tB)); replace HO_3 := Aside0.mk (Kd.R_elder' (tR HO_3) (Kd.R_base ho0) hb); replace HB := Aside0.mk (below_step tB hb); (try clear hb); (try clear ho0); obtain ⟨Aoh302, coh302, eoh302⟩ := Kd.R_slice HO302.out; subst eoh302) | ((with_reducible refine gate_builtin (b := .append) (xs := #[.tmp 14, .tmp 21]) rfl ?_); at_builtin; refine Kd.R_append_rows (Kd.int .u8) (w0 := w) w.heap.size rfl (.tmp 14) (.tmp 21) 23 5 (.int .u8 0) 1 rfl Tryz.underlying23 info5 rfl (by decide) (by omega) u3 x3_1 t300 _ _ _ (fun k_ => some k_ ≠ (.slice Aoh302 t300.length coh302 : Value).ownBlock) (fun _ => False) rfl rfl ?aO ?aR (fun _ _ h => h) (fun _ h => h.elim) ?aF ?aB ?aS ?aL ?_; (case aR => exact tCr HO302); (case aB => exact tB); (case aF => exact (fun k_ hk => Kd.fresh' (Kd.R_lt (tR HO302)) k_ hk)); (case aO => exact (tRm HO_3)); (case aS => exact (below_size tB)); (case aL => have := LMc7.out; omega); intro v304 w11 ho hb hg hat; rw [← Ny303.out] at ho; replace HO302 := Aside0.mk (Kd.R_after (ok := (fun _ => True)) (tR HO302) hg hat); replace HB := Aside0.mk (hb); have HO305 := Aside0.mk (ho); clear HO_3 ho hb hg hat; obtain ⟨p306, q306, ad306, e306, hx306_0, hx306_1⟩ := at_B113 HR0 HB x4_1; obtain rfl : ad299 = ad306 := (by injection e306)) | ((with_reducible refine gf_ 24 rfl ?_); refine gC_ (some 30) Tryz.func24 #[.int .i64 (wrap64 ((rd_T113 l0 x4_1).f1))] ?_; (with_reducible refine (r36number.calls k1 (wrap64 ((rd_T113 l0 x4_1).f1)) t307 _ A8.out).mono ?_); rintro e w13 ⟨v308, rfl, ho0, hb⟩; refine ⟨_, rfl, ?_⟩; have HO309 := Aside0.mk (Kd.R_lower (Kd.R_new' (Kd.R_new' ho0 (Kd.R_lt (tR HO302))) (Kd.R_lt (tR HO305))) (below_size tB)); replace HO302 := Aside0.mk (Kd.R_elder' (tR HO302) (Kd.R_base ho0) hb); replace HO305 := Aside0.mk (Kd.R_elder' (tR HO305) (Kd.R_base ho0) hb); replace HB := Aside0.mk (below_step tB hb); (try clear hb); (try clear ho0); obtain ⟨Aoh309, coh309, eoh309⟩ := Kd.R_slice HO309.out; subst eoh309) | ((with_reducible refine gate_builtin (b := .append) (xs := #[.tmp 23, .tmp 30]) rfl ?_); at_builtin; refine Kd.R_append_rows (Kd.int .u8) (w0 := w) w.heap.size rfl (.tmp 23) (.tmp 30) 23 5 (.int .u8 0) 1 rfl Tryz.underlying23 info5 rfl (by decide) (by omega) v304 y303 t307 _ _ _ (fun k_ => some k_ ≠ (.slice Aoh302 t300.length coh302 : Value).ownBlock ∧ some k_ ≠ (.slice Aoh309 t307.length coh309 : Value).ownBlock) (fun _ => False) rfl rfl ?aO ?aR (fun _ _ h => h) (fun _ h => h.elim) ?aF ?aB ?aS ?aL ?_; (case aR => exact tCr HO309); (case aB => exact tB); (case aF => exact (fun k_ hk => ⟨Kd.fresh' (Kd.R_lt (tR HO302)) k_ hk, Kd.fresh' (Kd.R_lt (tR HO309)) k_ hk⟩)); (case aO => exact (tR HO305)); (case aS => exact (below_size tB)); (case aL => have := LMc9.out; omega); intro v311 w14 ho hb hg hat; rw [← Ny310.out] at ho; replace HO302 := Aside0.mk (Kd.R_after (ok := (fun k_ => some k_ ≠ (.slice Aoh309 t307.length coh309 : Value).ownBlock)) (by (with_reducible repeat (first | apply Kd.R_alloc | apply Kd.R_drewN | apply Kd.R_drew)); exact Kd.R_mono HO302.out (fun _ hk => ⟨hk.2, hk.1.2⟩)) hg hat); replace HO309 := Aside0.mk (Kd.R_after (ok := (fun k_ => some k_ ≠ (.slice Aoh302 t300.length coh302 : Value).ownBlock)) (by (with_reducible repeat (first | apply Kd.R_alloc | apply Kd.R_drewN | apply Kd.R_drew)); exact Kd.R_mono HO309.out (fun _ hk => ⟨hk.1.2, hk.2⟩)) hg hat); replace HB := Aside0.mk (hb); have HO312 := Aside0.mk (ho); clear HO305 ho hb hg hat))
    go_roundg k1
    case measure => have := HK1.out; omega
    case rel => exact ⟨(y310), (wrap64 (x4_1 + 1)), tS, H', ⟨by have := HK1.out; omega⟩, ⟨by (with_reducible repeat (first | apply Kd.R_alloc | apply Kd.R_drewN | apply Kd.R_drew)); exact Kd.R_mono HO312.out (fun _ hk => trivial)⟩, ⟨tB⟩⟩
   exact zz9
end
end Go.Proofs.YtahdjajdaggmjaaGreatDoor.XPa
