-- Written for this claim by a program of ours (wip/xp.py), out of the translation and of hand-written contracts.
import Derived.Test.YtahdjajdaggmjaaGreatDoorUtab
import Derived.Test.YtahdjajdaggmjaaGreatDoorSx
import Derived.Test.YtahdjajdaggmjaaGreatDoorYrec
import Derived.Test.YtahdjajdaggmjaaGreatDoorYdec
import Derived.Test.YtahdjajdaggmjaaGreatDoorZrall
import Derived.Test.YtahdjajdaggmjaaGreatDoorZwr
import Derived.Test.YtahdjajdaggmjaaGreatDoorXPax2
namespace Go.Proofs.YtahdjajdaggmjaaGreatDoor.XPa
noncomputable section
open Go.RowKit Go.Proofs.YtahdjajdaggmjaaGreatDoorW.PrintWords Go.Proofs.YtahdjajdaggmjaaGreatDoorW.PrintLast Go.Proofs.YtahdjajdaggmjaaGreatDoorW.PrintMore
attribute [local go_sem] max2_int min2_int max_two min_two max_three min_three max_four min_four
set_option linter.unusedVariables false
set_option linter.unusedSimpArgs false
def w36great.l0 : Nat → Int → List (S51) → Int → Int → Option (Bool)
  | 0, _, _, _, _ => none
  | k + 1, x3, x9, x10, x11 => if x11 < x10 then (if 0 ≤ x11 then (if x11 < (x9.length : Int) then ((r10Bulk.f k ((rd_T51 x9 x11).f1.f0) ((rd_T51 x9 x11).f1.f1) ((rd_T51 x9 x11).f1.f2) ((rd_T51 x9 x11).f1.f3) ((rd_T51 x9 x11).f1.f4) ((rd_T51 x9 x11).f1.f5) 600).bind fun t112 => ((r10Bulk.f k ((rd_T51 x9 x11).f2.f0) ((rd_T51 x9 x11).f2.f1) ((rd_T51 x9 x11).f2.f2) ((rd_T51 x9 x11).f2.f3) ((rd_T51 x9 x11).f2.f4) ((rd_T51 x9 x11).f2.f5) 600).bind fun t113 => (if (((rd_T51 x9 x11).f0).size : Int) > 200 then (some true) else (if (wrap64 (x3 + (wrap64 (t112 + t113)))) > 2000 then (some true) else (w36great.l0 k (wrap64 (x3 + (wrap64 (t112 + t113)))) x9 x10 (wrap64 (x11 + 1))))))) else (none)) else (none)) else (some false)
def w36great.f (k : Nat) (l0 : List (S51)) : Option (Bool) := if (l0.length : Int) > 30 then (some true) else (w36great.l0 k 0 l0 (l0.length : Int) 0)
def w36great.T7 : Bool × List (List Nat × List Nat) := (true, [([], []), ([], []), ([1], [1]), ([2], [2]), ([], []), ([4], [4]), ([5, 3], [5]), ([3, 6], [3, 6]), ([0, 7], [0, 7]), ([8, 6, 0, 1, 2, 3, 4, 5, 6, 7, 8], [0, 8])])
def w36great.B7 : List Nat := [0, 0, 2, 6, 0, 16, 62, 126, 255, 511]
theorem w36great.tab7 : rtab .any (opsOf Tryz.f6 7) = w36great.T7 := by kernel_rfl
theorem w36great.bits7 : waitsOk w36great.T7.2 w36great.B7 = true := by kernel_rfl
set_option maxHeartbeats 8000000 in
set_option maxRecDepth 100000 in
theorem w36great.calls (k : Nat) (A0 : Option Addr) (c0 : Nat) (l0 : List (S51)) (r : Bool) (w : World) (hr0 : Kd.C k51 w A0 l0.length l0) (hc0 : l0.length ≤ c0) (h : w36great.f k l0 = some r) :
  Calls Tryz.prog 6 #[.slice A0 l0.length c0] w fun e w' => e = .returned (.bool r) ∧ Below w.heap.size w w' := by
 have hu51 := Tryz.underlying51
 have hu49 := Tryz.underlying49
 have HR0 := Aside0.mk hr0
 have HC0 := Aside0.mk hc0
 clear hr0 hc0
 have HB := Aside0.mk (Below.refl w.heap.size w)
 have H : (if (l0.length : Int) > 30 then (some true) else (w36great.l0 k 0 l0 (l0.length : Int) 0)) = some r := h
 clear h
 replace H := iHkk H
 rcases H with ⟨c2, c2b0, H⟩ | ⟨c2, c2b0, H⟩
 ·have c2b1 : decide (30 < l0.length) = true := decide_eq_true (by omega)
  clear c2
  obtain rfl := Option.some.inj H
  go_enter Tryz.func6, Tryz.ntmps6
  go_wp2
  go_ret
  exact ⟨tE, tB⟩
 have c2b1 : decide (30 < l0.length) = false := decide_eq_false (by omega)
 clear c2
 have H' := Aside0.mk H
 clear H
 go_enter Tryz.func6, Tryz.ntmps6
 go_wp2
 go_loopg [3, 11] k (fun kq v3 v11 w' => ∃ (x3_1 : Int) (x11_1 : Int), v3 = .int .i64 x3_1 ∧ v11 = .int .i64 x11_1 ∧ Aside0 (w36great.l0 kq x3_1 l0 (l0.length : Int) x11_1 = some r) ∧ Aside0 (kq ≤ k) ∧ Aside0 (Below w.heap.size w w'))
 case atStart => exact ⟨(0), (0), tS, tS, H', ⟨Nat.le_refl _⟩, ⟨tB⟩⟩
 case round =>
  clear H'
  try clear c2
  try clear c2b0
  try clear c2b1
  obtain ⟨x3_1, x11_1, rfl, rfl, HA, HK1, HB⟩ := hrel
  cases gk with
  | zero => exact absurd HA.out (by simp [w36great.l0])
  | succ k1 =>
   have H := HA.out
   clear HA
   simp only [w36great.l0] at H
   replace H := iD H
   rcases H with ⟨c3b0, H⟩ | ⟨c3b0, H⟩
   ·replace H := niD H
    obtain ⟨c4b0, H⟩ := H
    replace H := niD H
    obtain ⟨c5b0, H⟩ := H
    replace H := iX H
    obtain ⟨t112, A6, H⟩ := H
    replace H := iX H
    obtain ⟨t113, A7, H⟩ := H
    replace H := iHkk H
    rcases H with ⟨c8, c8b0, H⟩ | ⟨c8, c8b0, H⟩
    ·have c8b1 : decide (200 < ((rd_T51 l0 x11_1).f0).size) = true := decide_eq_true (by omega)
     clear c8
     obtain rfl := Option.some.inj H
     obtain ⟨p110, q110, ad110, A110_4, c110_4, A110_5, c110_5, A110_6, c110_6, A110_10, c110_10, A110_11, c110_11, A110_12, c110_12, rfl, hx110_0, hx110_1, hx110_2, hx110_3, hx110_4, hx110_5, hx110_6, hx110_7, hx110_8, hx110_9, hx110_10, hx110_11, hx110_12, HC110_4, HR110_4, HC110_5, HR110_5, HC110_6, HR110_6, HC110_10, HR110_10, HC110_11, HR110_11, HC110_12, HR110_12⟩ := at_B51 HR0 HB x11_1
     try go_wp2_with (first | ((with_reducible refine gd_ 5 rfl ?_); refine boxE 5 #[.string (⟨#[]⟩ : ByteArray), .int .i64 0, .int .i64 0, .string (⟨#[]⟩ : ByteArray), .slice none 0 0, .slice none 0 0, .slice none 0 0, .int .i64 0, .int .i64 0, .string (⟨#[]⟩ : ByteArray), .slice none 0 0, .slice none 0 0, .slice none 0 0] 51 ?_; intro gb111 hg w9 hbox hb; have BK111 := Aside0.mk (hbox); have GW111 := Aside0.mk (tG : w.heap.size ≤ gb111); have GE111 := Aside0.mk (tG : w.heap.size ≤ gb111); replace HB := Aside0.mk (below_step tB hb); clear hb hbox hg; have hcz10 := cz13 BK111.out))
     have n0_ : Aside0 ((((((((((((((w9.setCell ⟨gb111, 0, none⟩ (.string ((rd_T51 l0 x11_1).f0))).setCell ⟨gb111, 1, none⟩ (.int .i64 ((rd_T51 l0 x11_1).f1.f0))).setCell ⟨gb111, 2, none⟩ (.int .i64 ((rd_T51 l0 x11_1).f1.f1))).setCell ⟨gb111, 3, none⟩ (.string ((rd_T51 l0 x11_1).f1.f2))).setCell ⟨gb111, 4, none⟩ (.slice A110_4 ((rd_T51 l0 x11_1).f1.f3).length c110_4)).setCell ⟨gb111, 5, none⟩ (.slice A110_5 ((rd_T51 l0 x11_1).f1.f4).length c110_5)).setCell ⟨gb111, 6, none⟩ (.slice A110_6 ((rd_T51 l0 x11_1).f1.f5).length c110_6)).setCell ⟨gb111, 7, none⟩ (.int .i64 ((rd_T51 l0 x11_1).f2.f0))).setCell ⟨gb111, 8, none⟩ (.int .i64 ((rd_T51 l0 x11_1).f2.f1))).setCell ⟨gb111, 9, none⟩ (.string ((rd_T51 l0 x11_1).f2.f2))).setCell ⟨gb111, 10, none⟩ (.slice A110_10 ((rd_T51 l0 x11_1).f2.f3).length c110_10)).setCell ⟨gb111, 11, none⟩ (.slice A110_11 ((rd_T51 l0 x11_1).f2.f4).length c110_11)).setCell ⟨gb111, 12, none⟩ (.slice A110_12 ((rd_T51 l0 x11_1).f2.f5).length c110_12)).heap[gb111]? = some (.cells #[.string ((rd_T51 l0 x11_1).f0), .int .i64 ((rd_T51 l0 x11_1).f1.f0), .int .i64 ((rd_T51 l0 x11_1).f1.f1), .string ((rd_T51 l0 x11_1).f1.f2), .slice A110_4 ((rd_T51 l0 x11_1).f1.f3).length c110_4, .slice A110_5 ((rd_T51 l0 x11_1).f1.f4).length c110_5, .slice A110_6 ((rd_T51 l0 x11_1).f1.f5).length c110_6, .int .i64 ((rd_T51 l0 x11_1).f2.f0), .int .i64 ((rd_T51 l0 x11_1).f2.f1), .string ((rd_T51 l0 x11_1).f2.f2), .slice A110_10 ((rd_T51 l0 x11_1).f2.f3).length c110_10, .slice A110_11 ((rd_T51 l0 x11_1).f2.f4).length c110_11, .slice A110_12 ((rd_T51 l0 x11_1).f2.f5).length c110_12] 51 (0, 0))) := ⟨tPt BK111⟩
     have n1_ : Aside0 (Below w.heap.size w (((((((((((((w9.setCell ⟨gb111, 0, none⟩ (.string ((rd_T51 l0 x11_1).f0))).setCell ⟨gb111, 1, none⟩ (.int .i64 ((rd_T51 l0 x11_1).f1.f0))).setCell ⟨gb111, 2, none⟩ (.int .i64 ((rd_T51 l0 x11_1).f1.f1))).setCell ⟨gb111, 3, none⟩ (.string ((rd_T51 l0 x11_1).f1.f2))).setCell ⟨gb111, 4, none⟩ (.slice A110_4 ((rd_T51 l0 x11_1).f1.f3).length c110_4)).setCell ⟨gb111, 5, none⟩ (.slice A110_5 ((rd_T51 l0 x11_1).f1.f4).length c110_5)).setCell ⟨gb111, 6, none⟩ (.slice A110_6 ((rd_T51 l0 x11_1).f1.f5).length c110_6)).setCell ⟨gb111, 7, none⟩ (.int .i64 ((rd_T51 l0 x11_1).f2.f0))).setCell ⟨gb111, 8, none⟩ (.int .i64 ((rd_T51 l0 x11_1).f2.f1))).setCell ⟨gb111, 9, none⟩ (.string ((rd_T51 l0 x11_1).f2.f2))).setCell ⟨gb111, 10, none⟩ (.slice A110_10 ((rd_T51 l0 x11_1).f2.f3).length c110_10)).setCell ⟨gb111, 11, none⟩ (.slice A110_11 ((rd_T51 l0 x11_1).f2.f4).length c110_11)).setCell ⟨gb111, 12, none⟩ (.slice A110_12 ((rd_T51 l0 x11_1).f2.f5).length c110_12))) := ⟨tBs GE111⟩
     (try clear BK111)
     (try clear HB)
     generalize (((((((((((((w9.setCell ⟨gb111, 0, none⟩ (.string ((rd_T51 l0 x11_1).f0))).setCell ⟨gb111, 1, none⟩ (.int .i64 ((rd_T51 l0 x11_1).f1.f0))).setCell ⟨gb111, 2, none⟩ (.int .i64 ((rd_T51 l0 x11_1).f1.f1))).setCell ⟨gb111, 3, none⟩ (.string ((rd_T51 l0 x11_1).f1.f2))).setCell ⟨gb111, 4, none⟩ (.slice A110_4 ((rd_T51 l0 x11_1).f1.f3).length c110_4)).setCell ⟨gb111, 5, none⟩ (.slice A110_5 ((rd_T51 l0 x11_1).f1.f4).length c110_5)).setCell ⟨gb111, 6, none⟩ (.slice A110_6 ((rd_T51 l0 x11_1).f1.f5).length c110_6)).setCell ⟨gb111, 7, none⟩ (.int .i64 ((rd_T51 l0 x11_1).f2.f0))).setCell ⟨gb111, 8, none⟩ (.int .i64 ((rd_T51 l0 x11_1).f2.f1))).setCell ⟨gb111, 9, none⟩ (.string ((rd_T51 l0 x11_1).f2.f2))).setCell ⟨gb111, 10, none⟩ (.slice A110_10 ((rd_T51 l0 x11_1).f2.f3).length c110_10)).setCell ⟨gb111, 11, none⟩ (.slice A110_11 ((rd_T51 l0 x11_1).f2.f4).length c110_11)).setCell ⟨gb111, 12, none⟩ (.slice A110_12 ((rd_T51 l0 x11_1).f2.f5).length c110_12)) = w11 at n0_ n1_ ⊢
     have BK111 := n0_
     have HB := n1_
     clear n0_ n1_
     have n0_ := Aside0.mk (blk_drew BK111.out)
     have n1_ := Aside0.mk (below_drew1 HB.out)
     clear BK111
     clear HB
     have BK111 := n0_
     have HB := n1_
     clear n0_ n1_
     refine start_ (n := 10) (S := fun w' => w'.cell? ⟨gb111, 0, none⟩ = some (.string ((rd_T51 l0 x11_1).f0)) ∧ w'.cell? ⟨gb111, 1, none⟩ = some (.int .i64 ((rd_T51 l0 x11_1).f1.f0)) ∧ w'.cell? ⟨gb111, 2, none⟩ = some (.int .i64 ((rd_T51 l0 x11_1).f1.f1)) ∧ w'.cell? ⟨gb111, 3, none⟩ = some (.string ((rd_T51 l0 x11_1).f1.f2)) ∧ w'.cell? ⟨gb111, 4, none⟩ = some (.slice A110_4 ((rd_T51 l0 x11_1).f1.f3).length c110_4) ∧ w'.cell? ⟨gb111, 5, none⟩ = some (.slice A110_5 ((rd_T51 l0 x11_1).f1.f4).length c110_5) ∧ w'.cell? ⟨gb111, 6, none⟩ = some (.slice A110_6 ((rd_T51 l0 x11_1).f1.f5).length c110_6) ∧ w'.cell? ⟨gb111, 7, none⟩ = some (.int .i64 ((rd_T51 l0 x11_1).f2.f0)) ∧ w'.cell? ⟨gb111, 8, none⟩ = some (.int .i64 ((rd_T51 l0 x11_1).f2.f1)) ∧ w'.cell? ⟨gb111, 9, none⟩ = some (.string ((rd_T51 l0 x11_1).f2.f2)) ∧ w'.cell? ⟨gb111, 10, none⟩ = some (.slice A110_10 ((rd_T51 l0 x11_1).f2.f3).length c110_10) ∧ w'.cell? ⟨gb111, 11, none⟩ = some (.slice A110_11 ((rd_T51 l0 x11_1).f2.f4).length c110_11) ∧ w'.cell? ⟨gb111, 12, none⟩ = some (.slice A110_12 ((rd_T51 l0 x11_1).f2.f5).length c110_12)) (ds := []) #[false, false, false, false, false, false, false, false, false, false] (by kernel_rfl) rfl rfl ⟨(blk_cell BK111.out 0).trans rfl, (blk_cell BK111.out 1).trans rfl, (blk_cell BK111.out 2).trans rfl, (blk_cell BK111.out 3).trans rfl, (blk_cell BK111.out 4).trans rfl, (blk_cell BK111.out 5).trans rfl, (blk_cell BK111.out 6).trans rfl, (blk_cell BK111.out 7).trans rfl, (blk_cell BK111.out 8).trans rfl, (blk_cell BK111.out 9).trans rfl, (blk_cell BK111.out 10).trans rfl, (blk_cell BK111.out 11).trans rfl, (blk_cell BK111.out 12).trans rfl⟩ (fun hHeld => ?_); refine with_tabW w36great.tab7 w36great.bits7 (fun HT_ HW_ => ?_)
     generalize w11.drew = w12 at BK111 HB hHeld ⊢
     refine pw_ 0 15 ?_
     refine pw_ 1 16 ?_
     refine pw_ 4 19 ?_
     refine tw_ 2 17 ?_
     refine tw_ 5 20 ?_
     refine on_ 3 (some 18) fun K hK => ?_
     refine goes_ Tryz.func17 (by kernel_rfl) rfl #[.agg #[.int .i64 ((rd_T51 l0 x11_1).f1.f0), .int .i64 ((rd_T51 l0 x11_1).f1.f1), .string ((rd_T51 l0 x11_1).f1.f2), .slice A110_4 ((rd_T51 l0 x11_1).f1.f3).length c110_4, .slice A110_5 ((rd_T51 l0 x11_1).f1.f4).length c110_5, .slice A110_6 ((rd_T51 l0 x11_1).f1.f5).length c110_6], .int .i64 600] (by rfl) rfl rfl tM ?_
     with_reducible refine (r10Bulk.calls k1 ((rd_T51 l0 x11_1).f1.f0) ((rd_T51 l0 x11_1).f1.f1) ((rd_T51 l0 x11_1).f1.f2) _ _ ((rd_T51 l0 x11_1).f1.f3) _ _ ((rd_T51 l0 x11_1).f1.f4) _ _ ((rd_T51 l0 x11_1).f1.f5) 600 t112 _ ?side1 ?side2 ?side3 ?side4 ?side5 ?side6 A6.out).mono ?_
     (case side1 => exact tCb HR110_4 HB)
     (case side2 => exact HC110_4.out)
     (case side3 => exact tCb HR110_5 HB)
     (case side4 => exact HC110_5.out)
     (case side5 => exact tCb HR110_6 HB)
     (case side6 => exact HC110_6.out)
     rintro e w13 ⟨rfl, hb⟩
     refine ⟨_, rfl, ?_⟩
     have n0_ := Aside0.mk (blk_below (g := gb111) (o := .cells #[.string ((rd_T51 l0 x11_1).f0), .int .i64 ((rd_T51 l0 x11_1).f1.f0), .int .i64 ((rd_T51 l0 x11_1).f1.f1), .string ((rd_T51 l0 x11_1).f1.f2), .slice A110_4 ((rd_T51 l0 x11_1).f1.f3).length c110_4, .slice A110_5 ((rd_T51 l0 x11_1).f1.f4).length c110_5, .slice A110_6 ((rd_T51 l0 x11_1).f1.f5).length c110_6, .int .i64 ((rd_T51 l0 x11_1).f2.f0), .int .i64 ((rd_T51 l0 x11_1).f2.f1), .string ((rd_T51 l0 x11_1).f2.f2), .slice A110_10 ((rd_T51 l0 x11_1).f2.f3).length c110_10, .slice A110_11 ((rd_T51 l0 x11_1).f2.f4).length c110_11, .slice A110_12 ((rd_T51 l0 x11_1).f2.f5).length c110_12] 51 (0, 0)) (tK BK111) hb)
     have n1_ := Aside0.mk (below_step (tBs GE111) hb)
     clear BK111
     clear HB
     have BK111 := n0_
     have HB := n1_
     clear n0_ n1_
     (try clear hb)
     (try clear hb2)
     (try clear hk)
     (try clear hi)
     refine hK.out _ _ ⟨(blk_cell BK111.out 0).trans rfl, (blk_cell BK111.out 1).trans rfl, (blk_cell BK111.out 2).trans rfl, (blk_cell BK111.out 3).trans rfl, (blk_cell BK111.out 4).trans rfl, (blk_cell BK111.out 5).trans rfl, (blk_cell BK111.out 6).trans rfl, (blk_cell BK111.out 7).trans rfl, (blk_cell BK111.out 8).trans rfl, (blk_cell BK111.out 9).trans rfl, (blk_cell BK111.out 10).trans rfl, (blk_cell BK111.out 11).trans rfl, (blk_cell BK111.out 12).trans rfl⟩ (fun hHeld => ?_)
     clear hK K
     refine norm_ (a' := ?_) ?_ ?_
     rotate_left
     ·show Act.put _ (some 18) _ = _
      simp only [Act.put, List.setIfInBounds_toArray, List.set_cons_zero, List.set_cons_succ, i64_w, i32_w]
      rfl
     refine on_ 6 (some 21) fun K hK => ?_
     refine goes_ Tryz.func17 (by kernel_rfl) rfl #[.agg #[.int .i64 ((rd_T51 l0 x11_1).f2.f0), .int .i64 ((rd_T51 l0 x11_1).f2.f1), .string ((rd_T51 l0 x11_1).f2.f2), .slice A110_10 ((rd_T51 l0 x11_1).f2.f3).length c110_10, .slice A110_11 ((rd_T51 l0 x11_1).f2.f4).length c110_11, .slice A110_12 ((rd_T51 l0 x11_1).f2.f5).length c110_12], .int .i64 600] (by rfl) rfl rfl tM ?_
     with_reducible refine (r10Bulk.calls k1 ((rd_T51 l0 x11_1).f2.f0) ((rd_T51 l0 x11_1).f2.f1) ((rd_T51 l0 x11_1).f2.f2) _ _ ((rd_T51 l0 x11_1).f2.f3) _ _ ((rd_T51 l0 x11_1).f2.f4) _ _ ((rd_T51 l0 x11_1).f2.f5) 600 t113 _ ?side1 ?side2 ?side3 ?side4 ?side5 ?side6 A7.out).mono ?_
     (case side1 => exact tCb HR110_10 HB)
     (case side2 => exact HC110_10.out)
     (case side3 => exact tCb HR110_11 HB)
     (case side4 => exact HC110_11.out)
     (case side5 => exact tCb HR110_12 HB)
     (case side6 => exact HC110_12.out)
     rintro e w14 ⟨rfl, hb⟩
     refine ⟨_, rfl, ?_⟩
     have n0_ := Aside0.mk (blk_below (g := gb111) (o := .cells #[.string ((rd_T51 l0 x11_1).f0), .int .i64 ((rd_T51 l0 x11_1).f1.f0), .int .i64 ((rd_T51 l0 x11_1).f1.f1), .string ((rd_T51 l0 x11_1).f1.f2), .slice A110_4 ((rd_T51 l0 x11_1).f1.f3).length c110_4, .slice A110_5 ((rd_T51 l0 x11_1).f1.f4).length c110_5, .slice A110_6 ((rd_T51 l0 x11_1).f1.f5).length c110_6, .int .i64 ((rd_T51 l0 x11_1).f2.f0), .int .i64 ((rd_T51 l0 x11_1).f2.f1), .string ((rd_T51 l0 x11_1).f2.f2), .slice A110_10 ((rd_T51 l0 x11_1).f2.f3).length c110_10, .slice A110_11 ((rd_T51 l0 x11_1).f2.f4).length c110_11, .slice A110_12 ((rd_T51 l0 x11_1).f2.f5).length c110_12] 51 (0, 0)) (tK BK111) hb)
     have n1_ := Aside0.mk (below_step (tBs GE111) hb)
     clear BK111
     clear HB
     have BK111 := n0_
     have HB := n1_
     clear n0_ n1_
     (try clear hb)
     (try clear hb2)
     (try clear hk)
     (try clear hi)
     refine hK.out _ _ ⟨(blk_cell BK111.out 0).trans rfl, (blk_cell BK111.out 1).trans rfl, (blk_cell BK111.out 2).trans rfl, (blk_cell BK111.out 3).trans rfl, (blk_cell BK111.out 4).trans rfl, (blk_cell BK111.out 5).trans rfl, (blk_cell BK111.out 6).trans rfl, (blk_cell BK111.out 7).trans rfl, (blk_cell BK111.out 8).trans rfl, (blk_cell BK111.out 9).trans rfl, (blk_cell BK111.out 10).trans rfl, (blk_cell BK111.out 11).trans rfl, (blk_cell BK111.out 12).trans rfl⟩ (fun hHeld => ?_)
     clear hK K
     refine norm_ (a' := ?_) ?_ ?_
     rotate_left
     ·show Act.put _ (some 21) _ = _
      simp only [Act.put, List.setIfInBounds_toArray, List.set_cons_zero, List.set_cons_succ, i64_w, i32_w]
      rfl
     refine pw_ 7 22 ?_
     refine pw_ 8 23 ?_
     refine pw_ 9 3 ?_
     refine done_ (done_of HT_.out (by kernel_rfl)) ?_
     have hcz15 := cz13 BK111.out
     try go_wp2
     go_ret
     exact ⟨tE, by repeat (first | (with_reducible first | exact HB.out | apply below_alloc | apply pw_below_drewN | apply below_drew1 | refine below_set ?_ GE111.out) | exact HB.out)⟩
    have c8b1 : decide (200 < ((rd_T51 l0 x11_1).f0).size) = false := decide_eq_false (by omega)
    clear c8
    replace H := iH H
    rcases H with ⟨c16b0, H⟩ | ⟨c16b0, H⟩
    ·obtain rfl := Option.some.inj H
     obtain ⟨p110, q110, ad110, A110_4, c110_4, A110_5, c110_5, A110_6, c110_6, A110_10, c110_10, A110_11, c110_11, A110_12, c110_12, rfl, hx110_0, hx110_1, hx110_2, hx110_3, hx110_4, hx110_5, hx110_6, hx110_7, hx110_8, hx110_9, hx110_10, hx110_11, hx110_12, HC110_4, HR110_4, HC110_5, HR110_5, HC110_6, HR110_6, HC110_10, HR110_10, HC110_11, HR110_11, HC110_12, HR110_12⟩ := at_B51 HR0 HB x11_1
     try go_wp2_with (first | ((with_reducible refine gd_ 5 rfl ?_); refine boxE 5 #[.string (⟨#[]⟩ : ByteArray), .int .i64 0, .int .i64 0, .string (⟨#[]⟩ : ByteArray), .slice none 0 0, .slice none 0 0, .slice none 0 0, .int .i64 0, .int .i64 0, .string (⟨#[]⟩ : ByteArray), .slice none 0 0, .slice none 0 0, .slice none 0 0] 51 ?_; intro gb111 hg w17 hbox hb; have BK111 := Aside0.mk (hbox); have GW111 := Aside0.mk (tG : w.heap.size ≤ gb111); have GE111 := Aside0.mk (tG : w.heap.size ≤ gb111); replace HB := Aside0.mk (below_step tB hb); clear hb hbox hg; have hcz18 := cz13 BK111.out))
     have n0_ : Aside0 ((((((((((((((w17.setCell ⟨gb111, 0, none⟩ (.string ((rd_T51 l0 x11_1).f0))).setCell ⟨gb111, 1, none⟩ (.int .i64 ((rd_T51 l0 x11_1).f1.f0))).setCell ⟨gb111, 2, none⟩ (.int .i64 ((rd_T51 l0 x11_1).f1.f1))).setCell ⟨gb111, 3, none⟩ (.string ((rd_T51 l0 x11_1).f1.f2))).setCell ⟨gb111, 4, none⟩ (.slice A110_4 ((rd_T51 l0 x11_1).f1.f3).length c110_4)).setCell ⟨gb111, 5, none⟩ (.slice A110_5 ((rd_T51 l0 x11_1).f1.f4).length c110_5)).setCell ⟨gb111, 6, none⟩ (.slice A110_6 ((rd_T51 l0 x11_1).f1.f5).length c110_6)).setCell ⟨gb111, 7, none⟩ (.int .i64 ((rd_T51 l0 x11_1).f2.f0))).setCell ⟨gb111, 8, none⟩ (.int .i64 ((rd_T51 l0 x11_1).f2.f1))).setCell ⟨gb111, 9, none⟩ (.string ((rd_T51 l0 x11_1).f2.f2))).setCell ⟨gb111, 10, none⟩ (.slice A110_10 ((rd_T51 l0 x11_1).f2.f3).length c110_10)).setCell ⟨gb111, 11, none⟩ (.slice A110_11 ((rd_T51 l0 x11_1).f2.f4).length c110_11)).setCell ⟨gb111, 12, none⟩ (.slice A110_12 ((rd_T51 l0 x11_1).f2.f5).length c110_12)).heap[gb111]? = some (.cells #[.string ((rd_T51 l0 x11_1).f0), .int .i64 ((rd_T51 l0 x11_1).f1.f0), .int .i64 ((rd_T51 l0 x11_1).f1.f1), .string ((rd_T51 l0 x11_1).f1.f2), .slice A110_4 ((rd_T51 l0 x11_1).f1.f3).length c110_4, .slice A110_5 ((rd_T51 l0 x11_1).f1.f4).length c110_5, .slice A110_6 ((rd_T51 l0 x11_1).f1.f5).length c110_6, .int .i64 ((rd_T51 l0 x11_1).f2.f0), .int .i64 ((rd_T51 l0 x11_1).f2.f1), .string ((rd_T51 l0 x11_1).f2.f2), .slice A110_10 ((rd_T51 l0 x11_1).f2.f3).length c110_10, .slice A110_11 ((rd_T51 l0 x11_1).f2.f4).length c110_11, .slice A110_12 ((rd_T51 l0 x11_1).f2.f5).length c110_12] 51 (0, 0))) := ⟨tPt BK111⟩
     have n1_ : Aside0 (Below w.heap.size w (((((((((((((w17.setCell ⟨gb111, 0, none⟩ (.string ((rd_T51 l0 x11_1).f0))).setCell ⟨gb111, 1, none⟩ (.int .i64 ((rd_T51 l0 x11_1).f1.f0))).setCell ⟨gb111, 2, none⟩ (.int .i64 ((rd_T51 l0 x11_1).f1.f1))).setCell ⟨gb111, 3, none⟩ (.string ((rd_T51 l0 x11_1).f1.f2))).setCell ⟨gb111, 4, none⟩ (.slice A110_4 ((rd_T51 l0 x11_1).f1.f3).length c110_4)).setCell ⟨gb111, 5, none⟩ (.slice A110_5 ((rd_T51 l0 x11_1).f1.f4).length c110_5)).setCell ⟨gb111, 6, none⟩ (.slice A110_6 ((rd_T51 l0 x11_1).f1.f5).length c110_6)).setCell ⟨gb111, 7, none⟩ (.int .i64 ((rd_T51 l0 x11_1).f2.f0))).setCell ⟨gb111, 8, none⟩ (.int .i64 ((rd_T51 l0 x11_1).f2.f1))).setCell ⟨gb111, 9, none⟩ (.string ((rd_T51 l0 x11_1).f2.f2))).setCell ⟨gb111, 10, none⟩ (.slice A110_10 ((rd_T51 l0 x11_1).f2.f3).length c110_10)).setCell ⟨gb111, 11, none⟩ (.slice A110_11 ((rd_T51 l0 x11_1).f2.f4).length c110_11)).setCell ⟨gb111, 12, none⟩ (.slice A110_12 ((rd_T51 l0 x11_1).f2.f5).length c110_12))) := ⟨tBs GE111⟩
     (try clear BK111)
     (try clear HB)
     generalize (((((((((((((w17.setCell ⟨gb111, 0, none⟩ (.string ((rd_T51 l0 x11_1).f0))).setCell ⟨gb111, 1, none⟩ (.int .i64 ((rd_T51 l0 x11_1).f1.f0))).setCell ⟨gb111, 2, none⟩ (.int .i64 ((rd_T51 l0 x11_1).f1.f1))).setCell ⟨gb111, 3, none⟩ (.string ((rd_T51 l0 x11_1).f1.f2))).setCell ⟨gb111, 4, none⟩ (.slice A110_4 ((rd_T51 l0 x11_1).f1.f3).length c110_4)).setCell ⟨gb111, 5, none⟩ (.slice A110_5 ((rd_T51 l0 x11_1).f1.f4).length c110_5)).setCell ⟨gb111, 6, none⟩ (.slice A110_6 ((rd_T51 l0 x11_1).f1.f5).length c110_6)).setCell ⟨gb111, 7, none⟩ (.int .i64 ((rd_T51 l0 x11_1).f2.f0))).setCell ⟨gb111, 8, none⟩ (.int .i64 ((rd_T51 l0 x11_1).f2.f1))).setCell ⟨gb111, 9, none⟩ (.string ((rd_T51 l0 x11_1).f2.f2))).setCell ⟨gb111, 10, none⟩ (.slice A110_10 ((rd_T51 l0 x11_1).f2.f3).length c110_10)).setCell ⟨gb111, 11, none⟩ (.slice A110_11 ((rd_T51 l0 x11_1).f2.f4).length c110_11)).setCell ⟨gb111, 12, none⟩ (.slice A110_12 ((rd_T51 l0 x11_1).f2.f5).length c110_12)) = w19 at n0_ n1_ ⊢
     have BK111 := n0_
     have HB := n1_
     clear n0_ n1_
     have n0_ := Aside0.mk (blk_drew BK111.out)
     have n1_ := Aside0.mk (below_drew1 HB.out)
     clear BK111
     clear HB
     have BK111 := n0_
     have HB := n1_
     clear n0_ n1_
     refine start_ (n := 10) (S := fun w' => w'.cell? ⟨gb111, 0, none⟩ = some (.string ((rd_T51 l0 x11_1).f0)) ∧ w'.cell? ⟨gb111, 1, none⟩ = some (.int .i64 ((rd_T51 l0 x11_1).f1.f0)) ∧ w'.cell? ⟨gb111, 2, none⟩ = some (.int .i64 ((rd_T51 l0 x11_1).f1.f1)) ∧ w'.cell? ⟨gb111, 3, none⟩ = some (.string ((rd_T51 l0 x11_1).f1.f2)) ∧ w'.cell? ⟨gb111, 4, none⟩ = some (.slice A110_4 ((rd_T51 l0 x11_1).f1.f3).length c110_4) ∧ w'.cell? ⟨gb111, 5, none⟩ = some (.slice A110_5 ((rd_T51 l0 x11_1).f1.f4).length c110_5) ∧ w'.cell? ⟨gb111, 6, none⟩ = some (.slice A110_6 ((rd_T51 l0 x11_1).f1.f5).length c110_6) ∧ w'.cell? ⟨gb111, 7, none⟩ = some (.int .i64 ((rd_T51 l0 x11_1).f2.f0)) ∧ w'.cell? ⟨gb111, 8, none⟩ = some (.int .i64 ((rd_T51 l0 x11_1).f2.f1)) ∧ w'.cell? ⟨gb111, 9, none⟩ = some (.string ((rd_T51 l0 x11_1).f2.f2)) ∧ w'.cell? ⟨gb111, 10, none⟩ = some (.slice A110_10 ((rd_T51 l0 x11_1).f2.f3).length c110_10) ∧ w'.cell? ⟨gb111, 11, none⟩ = some (.slice A110_11 ((rd_T51 l0 x11_1).f2.f4).length c110_11) ∧ w'.cell? ⟨gb111, 12, none⟩ = some (.slice A110_12 ((rd_T51 l0 x11_1).f2.f5).length c110_12)) (ds := []) #[false, false, false, false, false, false, false, false, false, false] (by kernel_rfl) rfl rfl ⟨(blk_cell BK111.out 0).trans rfl, (blk_cell BK111.out 1).trans rfl, (blk_cell BK111.out 2).trans rfl, (blk_cell BK111.out 3).trans rfl, (blk_cell BK111.out 4).trans rfl, (blk_cell BK111.out 5).trans rfl, (blk_cell BK111.out 6).trans rfl, (blk_cell BK111.out 7).trans rfl, (blk_cell BK111.out 8).trans rfl, (blk_cell BK111.out 9).trans rfl, (blk_cell BK111.out 10).trans rfl, (blk_cell BK111.out 11).trans rfl, (blk_cell BK111.out 12).trans rfl⟩ (fun hHeld => ?_); refine with_tabW w36great.tab7 w36great.bits7 (fun HT_ HW_ => ?_)
     generalize w19.drew = w20 at BK111 HB hHeld ⊢
     refine pw_ 0 15 ?_
     refine pw_ 1 16 ?_
     refine pw_ 4 19 ?_
     refine tw_ 2 17 ?_
     refine tw_ 5 20 ?_
     refine on_ 3 (some 18) fun K hK => ?_
     refine goes_ Tryz.func17 (by kernel_rfl) rfl #[.agg #[.int .i64 ((rd_T51 l0 x11_1).f1.f0), .int .i64 ((rd_T51 l0 x11_1).f1.f1), .string ((rd_T51 l0 x11_1).f1.f2), .slice A110_4 ((rd_T51 l0 x11_1).f1.f3).length c110_4, .slice A110_5 ((rd_T51 l0 x11_1).f1.f4).length c110_5, .slice A110_6 ((rd_T51 l0 x11_1).f1.f5).length c110_6], .int .i64 600] (by rfl) rfl rfl tM ?_
     with_reducible refine (r10Bulk.calls k1 ((rd_T51 l0 x11_1).f1.f0) ((rd_T51 l0 x11_1).f1.f1) ((rd_T51 l0 x11_1).f1.f2) _ _ ((rd_T51 l0 x11_1).f1.f3) _ _ ((rd_T51 l0 x11_1).f1.f4) _ _ ((rd_T51 l0 x11_1).f1.f5) 600 t112 _ ?side1 ?side2 ?side3 ?side4 ?side5 ?side6 A6.out).mono ?_
     (case side1 => exact tCb HR110_4 HB)
     (case side2 => exact HC110_4.out)
     (case side3 => exact tCb HR110_5 HB)
     (case side4 => exact HC110_5.out)
     (case side5 => exact tCb HR110_6 HB)
     (case side6 => exact HC110_6.out)
     rintro e w21 ⟨rfl, hb⟩
     refine ⟨_, rfl, ?_⟩
     have n0_ := Aside0.mk (blk_below (g := gb111) (o := .cells #[.string ((rd_T51 l0 x11_1).f0), .int .i64 ((rd_T51 l0 x11_1).f1.f0), .int .i64 ((rd_T51 l0 x11_1).f1.f1), .string ((rd_T51 l0 x11_1).f1.f2), .slice A110_4 ((rd_T51 l0 x11_1).f1.f3).length c110_4, .slice A110_5 ((rd_T51 l0 x11_1).f1.f4).length c110_5, .slice A110_6 ((rd_T51 l0 x11_1).f1.f5).length c110_6, .int .i64 ((rd_T51 l0 x11_1).f2.f0), .int .i64 ((rd_T51 l0 x11_1).f2.f1), .string ((rd_T51 l0 x11_1).f2.f2), .slice A110_10 ((rd_T51 l0 x11_1).f2.f3).length c110_10, .slice A110_11 ((rd_T51 l0 x11_1).f2.f4).length c110_11, .slice A110_12 ((rd_T51 l0 x11_1).f2.f5).length c110_12] 51 (0, 0)) (tK BK111) hb)
     have n1_ := Aside0.mk (below_step (tBs GE111) hb)
     clear BK111
     clear HB
     have BK111 := n0_
     have HB := n1_
     clear n0_ n1_
     (try clear hb)
     (try clear hb2)
     (try clear hk)
     (try clear hi)
     refine hK.out _ _ ⟨(blk_cell BK111.out 0).trans rfl, (blk_cell BK111.out 1).trans rfl, (blk_cell BK111.out 2).trans rfl, (blk_cell BK111.out 3).trans rfl, (blk_cell BK111.out 4).trans rfl, (blk_cell BK111.out 5).trans rfl, (blk_cell BK111.out 6).trans rfl, (blk_cell BK111.out 7).trans rfl, (blk_cell BK111.out 8).trans rfl, (blk_cell BK111.out 9).trans rfl, (blk_cell BK111.out 10).trans rfl, (blk_cell BK111.out 11).trans rfl, (blk_cell BK111.out 12).trans rfl⟩ (fun hHeld => ?_)
     clear hK K
     refine norm_ (a' := ?_) ?_ ?_
     rotate_left
     ·show Act.put _ (some 18) _ = _
      simp only [Act.put, List.setIfInBounds_toArray, List.set_cons_zero, List.set_cons_succ, i64_w, i32_w]
      rfl
     refine on_ 6 (some 21) fun K hK => ?_
     refine goes_ Tryz.func17 (by kernel_rfl) rfl #[.agg #[.int .i64 ((rd_T51 l0 x11_1).f2.f0), .int .i64 ((rd_T51 l0 x11_1).f2.f1), .string ((rd_T51 l0 x11_1).f2.f2), .slice A110_10 ((rd_T51 l0 x11_1).f2.f3).length c110_10, .slice A110_11 ((rd_T51 l0 x11_1).f2.f4).length c110_11, .slice A110_12 ((rd_T51 l0 x11_1).f2.f5).length c110_12], .int .i64 600] (by rfl) rfl rfl tM ?_
     with_reducible refine (r10Bulk.calls k1 ((rd_T51 l0 x11_1).f2.f0) ((rd_T51 l0 x11_1).f2.f1) ((rd_T51 l0 x11_1).f2.f2) _ _ ((rd_T51 l0 x11_1).f2.f3) _ _ ((rd_T51 l0 x11_1).f2.f4) _ _ ((rd_T51 l0 x11_1).f2.f5) 600 t113 _ ?side1 ?side2 ?side3 ?side4 ?side5 ?side6 A7.out).mono ?_
     (case side1 => exact tCb HR110_10 HB)
     (case side2 => exact HC110_10.out)
     (case side3 => exact tCb HR110_11 HB)
     (case side4 => exact HC110_11.out)
     (case side5 => exact tCb HR110_12 HB)
     (case side6 => exact HC110_12.out)
     rintro e w22 ⟨rfl, hb⟩
     refine ⟨_, rfl, ?_⟩
     have n0_ := Aside0.mk (blk_below (g := gb111) (o := .cells #[.string ((rd_T51 l0 x11_1).f0), .int .i64 ((rd_T51 l0 x11_1).f1.f0), .int .i64 ((rd_T51 l0 x11_1).f1.f1), .string ((rd_T51 l0 x11_1).f1.f2), .slice A110_4 ((rd_T51 l0 x11_1).f1.f3).length c110_4, .slice A110_5 ((rd_T51 l0 x11_1).f1.f4).length c110_5, .slice A110_6 ((rd_T51 l0 x11_1).f1.f5).length c110_6, .int .i64 ((rd_T51 l0 x11_1).f2.f0), .int .i64 ((rd_T51 l0 x11_1).f2.f1), .string ((rd_T51 l0 x11_1).f2.f2), .slice A110_10 ((rd_T51 l0 x11_1).f2.f3).length c110_10, .slice A110_11 ((rd_T51 l0 x11_1).f2.f4).length c110_11, .slice A110_12 ((rd_T51 l0 x11_1).f2.f5).length c110_12] 51 (0, 0)) (tK BK111) hb)
     have n1_ := Aside0.mk (below_step (tBs GE111) hb)
     clear BK111
     clear HB
     have BK111 := n0_
     have HB := n1_
     clear n0_ n1_
     (try clear hb)
     (try clear hb2)
     (try clear hk)
     (try clear hi)
     refine hK.out _ _ ⟨(blk_cell BK111.out 0).trans rfl, (blk_cell BK111.out 1).trans rfl, (blk_cell BK111.out 2).trans rfl, (blk_cell BK111.out 3).trans rfl, (blk_cell BK111.out 4).trans rfl, (blk_cell BK111.out 5).trans rfl, (blk_cell BK111.out 6).trans rfl, (blk_cell BK111.out 7).trans rfl, (blk_cell BK111.out 8).trans rfl, (blk_cell BK111.out 9).trans rfl, (blk_cell BK111.out 10).trans rfl, (blk_cell BK111.out 11).trans rfl, (blk_cell BK111.out 12).trans rfl⟩ (fun hHeld => ?_)
     clear hK K
     refine norm_ (a' := ?_) ?_ ?_
     rotate_left
     ·show Act.put _ (some 21) _ = _
      simp only [Act.put, List.setIfInBounds_toArray, List.set_cons_zero, List.set_cons_succ, i64_w, i32_w]
      rfl
     refine pw_ 7 22 ?_
     refine pw_ 8 23 ?_
     refine pw_ 9 3 ?_
     refine done_ (done_of HT_.out (by kernel_rfl)) ?_
     have hcz23 := cz13 BK111.out
     try go_wp2
     go_ret
     exact ⟨tE, by repeat (first | (with_reducible first | exact HB.out | apply below_alloc | apply pw_below_drewN | apply below_drew1 | refine below_set ?_ GE111.out) | exact HB.out)⟩
    have H' := Aside0.mk H
    clear H
    obtain ⟨p110, q110, ad110, A110_4, c110_4, A110_5, c110_5, A110_6, c110_6, A110_10, c110_10, A110_11, c110_11, A110_12, c110_12, rfl, hx110_0, hx110_1, hx110_2, hx110_3, hx110_4, hx110_5, hx110_6, hx110_7, hx110_8, hx110_9, hx110_10, hx110_11, hx110_12, HC110_4, HR110_4, HC110_5, HR110_5, HC110_6, HR110_6, HC110_10, HR110_10, HC110_11, HR110_11, HC110_12, HR110_12⟩ := at_B51 HR0 HB x11_1
    try go_wp2_with (first | ((with_reducible refine gd_ 5 rfl ?_); refine boxE 5 #[.string (⟨#[]⟩ : ByteArray), .int .i64 0, .int .i64 0, .string (⟨#[]⟩ : ByteArray), .slice none 0 0, .slice none 0 0, .slice none 0 0, .int .i64 0, .int .i64 0, .string (⟨#[]⟩ : ByteArray), .slice none 0 0, .slice none 0 0, .slice none 0 0] 51 ?_; intro gb111 hg w24 hbox hb; have BK111 := Aside0.mk (hbox); have GW111 := Aside0.mk (tG : w.heap.size ≤ gb111); have GE111 := Aside0.mk (tG : w.heap.size ≤ gb111); replace HB := Aside0.mk (below_step tB hb); clear hb hbox hg; have hcz25 := cz13 BK111.out))
    have n0_ : Aside0 ((((((((((((((w24.setCell ⟨gb111, 0, none⟩ (.string ((rd_T51 l0 x11_1).f0))).setCell ⟨gb111, 1, none⟩ (.int .i64 ((rd_T51 l0 x11_1).f1.f0))).setCell ⟨gb111, 2, none⟩ (.int .i64 ((rd_T51 l0 x11_1).f1.f1))).setCell ⟨gb111, 3, none⟩ (.string ((rd_T51 l0 x11_1).f1.f2))).setCell ⟨gb111, 4, none⟩ (.slice A110_4 ((rd_T51 l0 x11_1).f1.f3).length c110_4)).setCell ⟨gb111, 5, none⟩ (.slice A110_5 ((rd_T51 l0 x11_1).f1.f4).length c110_5)).setCell ⟨gb111, 6, none⟩ (.slice A110_6 ((rd_T51 l0 x11_1).f1.f5).length c110_6)).setCell ⟨gb111, 7, none⟩ (.int .i64 ((rd_T51 l0 x11_1).f2.f0))).setCell ⟨gb111, 8, none⟩ (.int .i64 ((rd_T51 l0 x11_1).f2.f1))).setCell ⟨gb111, 9, none⟩ (.string ((rd_T51 l0 x11_1).f2.f2))).setCell ⟨gb111, 10, none⟩ (.slice A110_10 ((rd_T51 l0 x11_1).f2.f3).length c110_10)).setCell ⟨gb111, 11, none⟩ (.slice A110_11 ((rd_T51 l0 x11_1).f2.f4).length c110_11)).setCell ⟨gb111, 12, none⟩ (.slice A110_12 ((rd_T51 l0 x11_1).f2.f5).length c110_12)).heap[gb111]? = some (.cells #[.string ((rd_T51 l0 x11_1).f0), .int .i64 ((rd_T51 l0 x11_1).f1.f0), .int .i64 ((rd_T51 l0 x11_1).f1.f1), .string ((rd_T51 l0 x11_1).f1.f2), .slice A110_4 ((rd_T51 l0 x11_1).f1.f3).length c110_4, .slice A110_5 ((rd_T51 l0 x11_1).f1.f4).length c110_5, .slice A110_6 ((rd_T51 l0 x11_1).f1.f5).length c110_6, .int .i64 ((rd_T51 l0 x11_1).f2.f0), .int .i64 ((rd_T51 l0 x11_1).f2.f1), .string ((rd_T51 l0 x11_1).f2.f2), .slice A110_10 ((rd_T51 l0 x11_1).f2.f3).length c110_10, .slice A110_11 ((rd_T51 l0 x11_1).f2.f4).length c110_11, .slice A110_12 ((rd_T51 l0 x11_1).f2.f5).length c110_12] 51 (0, 0))) := ⟨tPt BK111⟩
    have n1_ : Aside0 (Below w.heap.size w (((((((((((((w24.setCell ⟨gb111, 0, none⟩ (.string ((rd_T51 l0 x11_1).f0))).setCell ⟨gb111, 1, none⟩ (.int .i64 ((rd_T51 l0 x11_1).f1.f0))).setCell ⟨gb111, 2, none⟩ (.int .i64 ((rd_T51 l0 x11_1).f1.f1))).setCell ⟨gb111, 3, none⟩ (.string ((rd_T51 l0 x11_1).f1.f2))).setCell ⟨gb111, 4, none⟩ (.slice A110_4 ((rd_T51 l0 x11_1).f1.f3).length c110_4)).setCell ⟨gb111, 5, none⟩ (.slice A110_5 ((rd_T51 l0 x11_1).f1.f4).length c110_5)).setCell ⟨gb111, 6, none⟩ (.slice A110_6 ((rd_T51 l0 x11_1).f1.f5).length c110_6)).setCell ⟨gb111, 7, none⟩ (.int .i64 ((rd_T51 l0 x11_1).f2.f0))).setCell ⟨gb111, 8, none⟩ (.int .i64 ((rd_T51 l0 x11_1).f2.f1))).setCell ⟨gb111, 9, none⟩ (.string ((rd_T51 l0 x11_1).f2.f2))).setCell ⟨gb111, 10, none⟩ (.slice A110_10 ((rd_T51 l0 x11_1).f2.f3).length c110_10)).setCell ⟨gb111, 11, none⟩ (.slice A110_11 ((rd_T51 l0 x11_1).f2.f4).length c110_11)).setCell ⟨gb111, 12, none⟩ (.slice A110_12 ((rd_T51 l0 x11_1).f2.f5).length c110_12))) := ⟨tBs GE111⟩
    (try clear BK111)
    (try clear HB)
    generalize (((((((((((((w24.setCell ⟨gb111, 0, none⟩ (.string ((rd_T51 l0 x11_1).f0))).setCell ⟨gb111, 1, none⟩ (.int .i64 ((rd_T51 l0 x11_1).f1.f0))).setCell ⟨gb111, 2, none⟩ (.int .i64 ((rd_T51 l0 x11_1).f1.f1))).setCell ⟨gb111, 3, none⟩ (.string ((rd_T51 l0 x11_1).f1.f2))).setCell ⟨gb111, 4, none⟩ (.slice A110_4 ((rd_T51 l0 x11_1).f1.f3).length c110_4)).setCell ⟨gb111, 5, none⟩ (.slice A110_5 ((rd_T51 l0 x11_1).f1.f4).length c110_5)).setCell ⟨gb111, 6, none⟩ (.slice A110_6 ((rd_T51 l0 x11_1).f1.f5).length c110_6)).setCell ⟨gb111, 7, none⟩ (.int .i64 ((rd_T51 l0 x11_1).f2.f0))).setCell ⟨gb111, 8, none⟩ (.int .i64 ((rd_T51 l0 x11_1).f2.f1))).setCell ⟨gb111, 9, none⟩ (.string ((rd_T51 l0 x11_1).f2.f2))).setCell ⟨gb111, 10, none⟩ (.slice A110_10 ((rd_T51 l0 x11_1).f2.f3).length c110_10)).setCell ⟨gb111, 11, none⟩ (.slice A110_11 ((rd_T51 l0 x11_1).f2.f4).length c110_11)).setCell ⟨gb111, 12, none⟩ (.slice A110_12 ((rd_T51 l0 x11_1).f2.f5).length c110_12)) = w26 at n0_ n1_ ⊢
    have BK111 := n0_
    have HB := n1_
    clear n0_ n1_
    have n0_ := Aside0.mk (blk_drew BK111.out)
    have n1_ := Aside0.mk (below_drew1 HB.out)
    clear BK111
    clear HB
    have BK111 := n0_
    have HB := n1_
    clear n0_ n1_
    refine start_ (n := 10) (S := fun w' => w'.cell? ⟨gb111, 0, none⟩ = some (.string ((rd_T51 l0 x11_1).f0)) ∧ w'.cell? ⟨gb111, 1, none⟩ = some (.int .i64 ((rd_T51 l0 x11_1).f1.f0)) ∧ w'.cell? ⟨gb111, 2, none⟩ = some (.int .i64 ((rd_T51 l0 x11_1).f1.f1)) ∧ w'.cell? ⟨gb111, 3, none⟩ = some (.string ((rd_T51 l0 x11_1).f1.f2)) ∧ w'.cell? ⟨gb111, 4, none⟩ = some (.slice A110_4 ((rd_T51 l0 x11_1).f1.f3).length c110_4) ∧ w'.cell? ⟨gb111, 5, none⟩ = some (.slice A110_5 ((rd_T51 l0 x11_1).f1.f4).length c110_5) ∧ w'.cell? ⟨gb111, 6, none⟩ = some (.slice A110_6 ((rd_T51 l0 x11_1).f1.f5).length c110_6) ∧ w'.cell? ⟨gb111, 7, none⟩ = some (.int .i64 ((rd_T51 l0 x11_1).f2.f0)) ∧ w'.cell? ⟨gb111, 8, none⟩ = some (.int .i64 ((rd_T51 l0 x11_1).f2.f1)) ∧ w'.cell? ⟨gb111, 9, none⟩ = some (.string ((rd_T51 l0 x11_1).f2.f2)) ∧ w'.cell? ⟨gb111, 10, none⟩ = some (.slice A110_10 ((rd_T51 l0 x11_1).f2.f3).length c110_10) ∧ w'.cell? ⟨gb111, 11, none⟩ = some (.slice A110_11 ((rd_T51 l0 x11_1).f2.f4).length c110_11) ∧ w'.cell? ⟨gb111, 12, none⟩ = some (.slice A110_12 ((rd_T51 l0 x11_1).f2.f5).length c110_12)) (ds := []) #[false, false, false, false, false, false, false, false, false, false] (by kernel_rfl) rfl rfl ⟨(blk_cell BK111.out 0).trans rfl, (blk_cell BK111.out 1).trans rfl, (blk_cell BK111.out 2).trans rfl, (blk_cell BK111.out 3).trans rfl, (blk_cell BK111.out 4).trans rfl, (blk_cell BK111.out 5).trans rfl, (blk_cell BK111.out 6).trans rfl, (blk_cell BK111.out 7).trans rfl, (blk_cell BK111.out 8).trans rfl, (blk_cell BK111.out 9).trans rfl, (blk_cell BK111.out 10).trans rfl, (blk_cell BK111.out 11).trans rfl, (blk_cell BK111.out 12).trans rfl⟩ (fun hHeld => ?_); refine with_tabW w36great.tab7 w36great.bits7 (fun HT_ HW_ => ?_)
    generalize w26.drew = w27 at BK111 HB hHeld ⊢
    refine pw_ 0 15 ?_
    refine pw_ 1 16 ?_
    refine pw_ 4 19 ?_
    refine tw_ 2 17 ?_
    refine tw_ 5 20 ?_
    refine on_ 3 (some 18) fun K hK => ?_
    refine goes_ Tryz.func17 (by kernel_rfl) rfl #[.agg #[.int .i64 ((rd_T51 l0 x11_1).f1.f0), .int .i64 ((rd_T51 l0 x11_1).f1.f1), .string ((rd_T51 l0 x11_1).f1.f2), .slice A110_4 ((rd_T51 l0 x11_1).f1.f3).length c110_4, .slice A110_5 ((rd_T51 l0 x11_1).f1.f4).length c110_5, .slice A110_6 ((rd_T51 l0 x11_1).f1.f5).length c110_6], .int .i64 600] (by rfl) rfl rfl tM ?_
    with_reducible refine (r10Bulk.calls k1 ((rd_T51 l0 x11_1).f1.f0) ((rd_T51 l0 x11_1).f1.f1) ((rd_T51 l0 x11_1).f1.f2) _ _ ((rd_T51 l0 x11_1).f1.f3) _ _ ((rd_T51 l0 x11_1).f1.f4) _ _ ((rd_T51 l0 x11_1).f1.f5) 600 t112 _ ?side1 ?side2 ?side3 ?side4 ?side5 ?side6 A6.out).mono ?_
    (case side1 => exact tCb HR110_4 HB)
    (case side2 => exact HC110_4.out)
    (case side3 => exact tCb HR110_5 HB)
    (case side4 => exact HC110_5.out)
    (case side5 => exact tCb HR110_6 HB)
    (case side6 => exact HC110_6.out)
    rintro e w28 ⟨rfl, hb⟩
    refine ⟨_, rfl, ?_⟩
    have n0_ := Aside0.mk (blk_below (g := gb111) (o := .cells #[.string ((rd_T51 l0 x11_1).f0), .int .i64 ((rd_T51 l0 x11_1).f1.f0), .int .i64 ((rd_T51 l0 x11_1).f1.f1), .string ((rd_T51 l0 x11_1).f1.f2), .slice A110_4 ((rd_T51 l0 x11_1).f1.f3).length c110_4, .slice A110_5 ((rd_T51 l0 x11_1).f1.f4).length c110_5, .slice A110_6 ((rd_T51 l0 x11_1).f1.f5).length c110_6, .int .i64 ((rd_T51 l0 x11_1).f2.f0), .int .i64 ((rd_T51 l0 x11_1).f2.f1), .string ((rd_T51 l0 x11_1).f2.f2), .slice A110_10 ((rd_T51 l0 x11_1).f2.f3).length c110_10, .slice A110_11 ((rd_T51 l0 x11_1).f2.f4).length c110_11, .slice A110_12 ((rd_T51 l0 x11_1).f2.f5).length c110_12] 51 (0, 0)) (tK BK111) hb)
    have n1_ := Aside0.mk (below_step (tBs GE111) hb)
    clear BK111
    clear HB
    have BK111 := n0_
    have HB := n1_
    clear n0_ n1_
    (try clear hb)
    (try clear hb2)
    (try clear hk)
    (try clear hi)
    refine hK.out _ _ ⟨(blk_cell BK111.out 0).trans rfl, (blk_cell BK111.out 1).trans rfl, (blk_cell BK111.out 2).trans rfl, (blk_cell BK111.out 3).trans rfl, (blk_cell BK111.out 4).trans rfl, (blk_cell BK111.out 5).trans rfl, (blk_cell BK111.out 6).trans rfl, (blk_cell BK111.out 7).trans rfl, (blk_cell BK111.out 8).trans rfl, (blk_cell BK111.out 9).trans rfl, (blk_cell BK111.out 10).trans rfl, (blk_cell BK111.out 11).trans rfl, (blk_cell BK111.out 12).trans rfl⟩ (fun hHeld => ?_)
    clear hK K
    refine norm_ (a' := ?_) ?_ ?_
    rotate_left
    ·show Act.put _ (some 18) _ = _
     simp only [Act.put, List.setIfInBounds_toArray, List.set_cons_zero, List.set_cons_succ, i64_w, i32_w]
     rfl
    refine on_ 6 (some 21) fun K hK => ?_
    refine goes_ Tryz.func17 (by kernel_rfl) rfl #[.agg #[.int .i64 ((rd_T51 l0 x11_1).f2.f0), .int .i64 ((rd_T51 l0 x11_1).f2.f1), .string ((rd_T51 l0 x11_1).f2.f2), .slice A110_10 ((rd_T51 l0 x11_1).f2.f3).length c110_10, .slice A110_11 ((rd_T51 l0 x11_1).f2.f4).length c110_11, .slice A110_12 ((rd_T51 l0 x11_1).f2.f5).length c110_12], .int .i64 600] (by rfl) rfl rfl tM ?_
    with_reducible refine (r10Bulk.calls k1 ((rd_T51 l0 x11_1).f2.f0) ((rd_T51 l0 x11_1).f2.f1) ((rd_T51 l0 x11_1).f2.f2) _ _ ((rd_T51 l0 x11_1).f2.f3) _ _ ((rd_T51 l0 x11_1).f2.f4) _ _ ((rd_T51 l0 x11_1).f2.f5) 600 t113 _ ?side1 ?side2 ?side3 ?side4 ?side5 ?side6 A7.out).mono ?_
    (case side1 => exact tCb HR110_10 HB)
    (case side2 => exact HC110_10.out)
    (case side3 => exact tCb HR110_11 HB)
    (case side4 => exact HC110_11.out)
    (case side5 => exact tCb HR110_12 HB)
    (case side6 => exact HC110_12.out)
    rintro e w29 ⟨rfl, hb⟩
    refine ⟨_, rfl, ?_⟩
    have n0_ := Aside0.mk (blk_below (g := gb111) (o := .cells #[.string ((rd_T51 l0 x11_1).f0), .int .i64 ((rd_T51 l0 x11_1).f1.f0), .int .i64 ((rd_T51 l0 x11_1).f1.f1), .string ((rd_T51 l0 x11_1).f1.f2), .slice A110_4 ((rd_T51 l0 x11_1).f1.f3).length c110_4, .slice A110_5 ((rd_T51 l0 x11_1).f1.f4).length c110_5, .slice A110_6 ((rd_T51 l0 x11_1).f1.f5).length c110_6, .int .i64 ((rd_T51 l0 x11_1).f2.f0), .int .i64 ((rd_T51 l0 x11_1).f2.f1), .string ((rd_T51 l0 x11_1).f2.f2), .slice A110_10 ((rd_T51 l0 x11_1).f2.f3).length c110_10, .slice A110_11 ((rd_T51 l0 x11_1).f2.f4).length c110_11, .slice A110_12 ((rd_T51 l0 x11_1).f2.f5).length c110_12] 51 (0, 0)) (tK BK111) hb)
    have n1_ := Aside0.mk (below_step (tBs GE111) hb)
    clear BK111
    clear HB
    have BK111 := n0_
    have HB := n1_
    clear n0_ n1_
    (try clear hb)
    (try clear hb2)
    (try clear hk)
    (try clear hi)
    refine hK.out _ _ ⟨(blk_cell BK111.out 0).trans rfl, (blk_cell BK111.out 1).trans rfl, (blk_cell BK111.out 2).trans rfl, (blk_cell BK111.out 3).trans rfl, (blk_cell BK111.out 4).trans rfl, (blk_cell BK111.out 5).trans rfl, (blk_cell BK111.out 6).trans rfl, (blk_cell BK111.out 7).trans rfl, (blk_cell BK111.out 8).trans rfl, (blk_cell BK111.out 9).trans rfl, (blk_cell BK111.out 10).trans rfl, (blk_cell BK111.out 11).trans rfl, (blk_cell BK111.out 12).trans rfl⟩ (fun hHeld => ?_)
    clear hK K
    refine norm_ (a' := ?_) ?_ ?_
    rotate_left
    ·show Act.put _ (some 21) _ = _
     simp only [Act.put, List.setIfInBounds_toArray, List.set_cons_zero, List.set_cons_succ, i64_w, i32_w]
     rfl
    refine pw_ 7 22 ?_
    refine pw_ 8 23 ?_
    refine pw_ 9 3 ?_
    refine done_ (done_of HT_.out (by kernel_rfl)) ?_
    have hcz30 := cz13 BK111.out
    try go_wp2
    go_roundg k1
    case measure => have := HK1.out; omega
    case rel => exact ⟨(wrap64 (x3_1 + (wrap64 (t112 + t113)))), (wrap64 (x11_1 + 1)), tS, tS, H', ⟨by have := HK1.out; omega⟩, ⟨tBs GE111⟩⟩
   obtain rfl := Option.some.inj H
   go_wp2
   go_ret
   exact ⟨tE, tB⟩
def pack_Sum.l0 : Nat → Int → List Int → Int → Int → Option (Int)
  | 0, _, _, _, _ => none
  | k + 1, x3, x6, x7, x8 => if x8 < x7 then (if 0 ≤ x8 then (if x8 < (x6.length : Int) then (pack_Sum.l0 k (((Go.bits .xor .u32 x3 ((rd x6 x8) % 4294967296)) * 16777619) % 4294967296) x6 x7 (wrap64 (x8 + 1))) else (none)) else (none)) else (some x3)
def pack_Sum.f (k : Nat) (l0 : List Int) : Option (Int) := pack_Sum.l0 k 2166136261 l0 (l0.length : Int) 0
theorem pack_Sum.mono_l : ∀ k, (∀ y0 y1 y2 y3, LeO (pack_Sum.l0 k y0 y1 y2 y3) (pack_Sum.l0 (k + 1) y0 y1 y2 y3))
  | 0 => fun _ _ _ _ r h => by simp [pack_Sum.l0] at h
  | k + 1 => by
    have ih0 := pack_Sum.mono_l k
    · intros; unfold pack_Sum.l0; exact tMo
theorem pack_Sum.mono : ∀ a0 k, LeO (pack_Sum.f k a0) (pack_Sum.f (k + 1) a0) := by
  intro a0 k
  have ih0 := pack_Sum.mono_l k
  unfold pack_Sum.f
  exact tMo
set_option maxHeartbeats 8000000 in
set_option maxRecDepth 100000 in
theorem pack_Sum.calls (k : Nat) (A0 : Option Addr) (c0 : Nat) (l0 : List Int) (r : Int) (w : World) (hr0 : Kd.C (Kd.int .u8) w A0 l0.length l0) (hc0 : l0.length ≤ c0) (h : pack_Sum.f k l0 = some r) :
  Calls Tryz.prog 11 #[.slice A0 l0.length c0] w fun e w' => e = .returned (.int .u32 r) ∧ Drawn0 w w' := by
 have HR0 := Aside0.mk hr0
 have HC0 := Aside0.mk hc0
 clear hr0 hc0
 have H : (pack_Sum.l0 k 2166136261 l0 (l0.length : Int) 0) = some r := h
 clear h
 have H' := Aside0.mk H
 clear H
 go_enter Tryz.func11, Tryz.ntmps11
 go_wp2
 go_loopg [3, 8] k (fun kq v3 v8 w' => ∃ (x3_1 : Int) (x8_1 : Int), v3 = .int .u32 x3_1 ∧ v8 = .int .i64 x8_1 ∧ Aside0 (pack_Sum.l0 kq x3_1 l0 (l0.length : Int) x8_1 = some r) ∧ Aside0 (kq ≤ k) ∧ Drawn0 w w')
 case atStart => exact ⟨(2166136261), (0), tS, tS, H', ⟨Nat.le_refl _⟩, tD⟩
 case round =>
  clear H'
  obtain ⟨x3_1, x8_1, rfl, rfl, HA, HK1, ⟨m1, rfl⟩⟩ := hrel
  cases gk with
  | zero => exact absurd HA.out (by simp [pack_Sum.l0])
  | succ k1 =>
   have H := HA.out
   clear HA
   simp only [pack_Sum.l0] at H
   replace H := iD H
   rcases H with ⟨c2b0, H⟩ | ⟨c2b0, H⟩
   ·replace H := niD H
    obtain ⟨c3b0, H⟩ := H
    replace H := niD H
    obtain ⟨c4b0, H⟩ := H
    have H' := Aside0.mk H
    clear H
    have p114 : 0 ≤ (x8_1 : Int) := tA
    have q114 : x8_1 < (l0.length : Int) := tA
    obtain ⟨ad114, e114, hx114_0⟩ := Kd.at_int HR0.out x8_1 p114 q114
    cases e114
    replace p114 := eq_true p114
    replace q114 := eq_true q114
    go_wp2
    go_roundg k1
    case measure => have := HK1.out; omega
    case rel => exact ⟨(((Go.bits .xor .u32 x3_1 ((rd l0 x8_1) % 4294967296)) * 16777619) % 4294967296), (wrap64 (x8_1 + 1)), tS, tS, H', ⟨by have := HK1.out; omega⟩, tD⟩
   exact zz5
end
end Go.Proofs.YtahdjajdaggmjaaGreatDoor.XPa
