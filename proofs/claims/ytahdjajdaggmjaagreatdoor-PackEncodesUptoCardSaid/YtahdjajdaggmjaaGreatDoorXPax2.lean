-- Written for this claim by a program of ours (wip/xp.py), out of the translation and of hand-written contracts.
import Derived.Test.YtahdjajdaggmjaaGreatDoorSx
import Derived.Test.YtahdjajdaggmjaaGreatDoorYrec
import Derived.Test.YtahdjajdaggmjaaGreatDoorYdec
import Derived.Test.YtahdjajdaggmjaaGreatDoorZrall
import Derived.Test.YtahdjajdaggmjaaGreatDoorZwr
namespace Go.Proofs.YtahdjajdaggmjaaGreatDoor.XPa
noncomputable section
open Go.RowKit Go.Proofs.YtahdjajdaggmjaaGreatDoorW.PrintWords Go.Proofs.YtahdjajdaggmjaaGreatDoorW.PrintLast Go.Proofs.YtahdjajdaggmjaaGreatDoorW.PrintMore
attribute [local go_sem] max2_int min2_int max_two min_two max_three min_three max_four min_four
set_option linter.unusedVariables false
set_option linter.unusedSimpArgs false
mutual
def r10Bulk.j0 : Nat → Int → Bool → Int → Int → ByteArray → List (S113) → List (S49) → List (S90) → Option (Int)
  | 0, _, _, _, _, _, _, _, _ => none
  | k + 1, x1, x20, x102000, x102001, x102002, x102003, x102004, x102005 => if x20 = true then (some (wrap64 (x1 + 1))) else (r10Bulk.l0 k x1 (wrap64 ((wrap64 (1 + (x102003.length : Int))) + (x102002.size : Int))) 0 x102000 x102001 x102002 x102003 x102004 x102005)
def r10Bulk.j2 : Nat → Int → Int → Int → Int → ByteArray → List (S113) → List (S49) → List (S90) → Option (Int)
  | 0, _, _, _, _, _, _, _, _ => none
  | k + 1, x1, x5, x102000, x102001, x102002, x102003, x102004, x102005 => r10Bulk.l1 k x1 x5 0 x102000 x102001 x102002 x102003 x102004 x102005
def r10Bulk.l1 : Nat → Int → Int → Int → Int → Int → ByteArray → List (S113) → List (S49) → List (S90) → Option (Int)
  | 0, _, _, _, _, _, _, _, _, _ => none
  | k + 1, x1, x5, x7, x102000, x102001, x102002, x102003, x102004, x102005 => if x7 < (x102005.length : Int) then (r10Bulk.j4 k x1 x5 x7 (decide (x5 ≤ x1)) x102000 x102001 x102002 x102003 x102004 x102005) else (r10Bulk.j4 k x1 x5 x7 false x102000 x102001 x102002 x102003 x102004 x102005)
def r10Bulk.j4 : Nat → Int → Int → Int → Bool → Int → Int → ByteArray → List (S113) → List (S49) → List (S90) → Option (Int)
  | 0, _, _, _, _, _, _, _, _, _, _ => none
  | k + 1, x1, x5, x7, x63, x102000, x102001, x102002, x102003, x102004, x102005 => if x63 = true then (if 0 ≤ x7 then (if x7 < (x102005.length : Int) then (if (((rd_T90 x102005 x7).f0).length : Int) > x1 then (some (wrap64 (x1 + 1))) else (r10Bulk.l2 k x1 (wrap64 ((wrap64 (x5 + 1)) + (((rd_T90 x102005 x7).f0).length : Int))) x7 0 x102000 x102001 x102002 x102003 x102004 x102005)) else (none)) else (none)) else (some x5)
def r10Bulk.l2 : Nat → Int → Int → Int → Int → Int → Int → ByteArray → List (S113) → List (S49) → List (S90) → Option (Int)
  | 0, _, _, _, _, _, _, _, _, _, _ => none
  | k + 1, x1, x5, x7, x8, x102000, x102001, x102002, x102003, x102004, x102005 => if 0 ≤ x7 then (if x7 < (x102005.length : Int) then (if x8 < (((rd_T90 x102005 x7).f1).length : Int) then (if x5 ≤ x1 then (if 0 ≤ x8 then ((r10Bulk.f k ((rd_T49 ((rd_T90 x102005 x7).f1) x8).f0) ((rd_T49 ((rd_T90 x102005 x7).f1) x8).f1) ((rd_T49 ((rd_T90 x102005 x7).f1) x8).f2) ((rd_T49 ((rd_T90 x102005 x7).f1) x8).f3) ((rd_T49 ((rd_T90 x102005 x7).f1) x8).f4) ((rd_T49 ((rd_T90 x102005 x7).f1) x8).f5) (wrap64 (x1 - x5))).bind fun t109 => (r10Bulk.l2 k x1 (wrap64 (x5 + t109)) x7 (wrap64 (x8 + 1)) x102000 x102001 x102002 x102003 x102004 x102005)) else (none)) else (r10Bulk.l1 k x1 x5 (wrap64 (x7 + 1)) x102000 x102001 x102002 x102003 x102004 x102005)) else (r10Bulk.l1 k x1 x5 (wrap64 (x7 + 1)) x102000 x102001 x102002 x102003 x102004 x102005)) else (none)) else (none)
def r10Bulk.l0 : Nat → Int → Int → Int → Int → Int → ByteArray → List (S113) → List (S49) → List (S90) → Option (Int)
  | 0, _, _, _, _, _, _, _, _, _ => none
  | k + 1, x1, x5, x6, x102000, x102001, x102002, x102003, x102004, x102005 => if x6 < (x102004.length : Int) then (if x5 ≤ x1 then (if 0 ≤ x6 then ((r10Bulk.f k ((rd_T49 x102004 x6).f0) ((rd_T49 x102004 x6).f1) ((rd_T49 x102004 x6).f2) ((rd_T49 x102004 x6).f3) ((rd_T49 x102004 x6).f4) ((rd_T49 x102004 x6).f5) (wrap64 (x1 - x5))).bind fun t103 => (r10Bulk.l0 k x1 (wrap64 (x5 + t103)) (wrap64 (x6 + 1)) x102000 x102001 x102002 x102003 x102004 x102005)) else (none)) else (r10Bulk.j2 k x1 x5 x102000 x102001 x102002 x102003 x102004 x102005)) else (r10Bulk.j2 k x1 x5 x102000 x102001 x102002 x102003 x102004 x102005)
def r10Bulk.f : Nat → Int → Int → ByteArray → List (S113) → List (S49) → List (S90) → Int → Option (Int)
  | 0, _, _, _, _, _, _, _ => none
  | k + 1, a0_0, a0_1, a0_2, l0_3, l0_4, l0_5, a1 => if (l0_3.length : Int) > a1 then (r10Bulk.j0 k a1 true a0_0 a0_1 a0_2 l0_3 l0_4 l0_5) else (r10Bulk.j0 k a1 (decide ((a0_2.size : Int) > a1)) a0_0 a0_1 a0_2 l0_3 l0_4 l0_5)
end
set_option maxHeartbeats 8000000 in
set_option maxRecDepth 100000 in
theorem r10Bulk.calls (k : Nat) : ∀ (a0_0 : Int) (a0_1 : Int) (a0_2 : ByteArray) (A0_3 : Option Addr) (c0_3 : Nat) (l0_3 : List (S113)) (A0_4 : Option Addr) (c0_4 : Nat) (l0_4 : List (S49)) (A0_5 : Option Addr) (c0_5 : Nat) (l0_5 : List (S90)) (a1 : Int) (r : Int) (w : World) (hr0_3 : Kd.C k113 w A0_3 l0_3.length l0_3) (hc0_3 : l0_3.length ≤ c0_3) (hr0_4 : Kd.C k49 w A0_4 l0_4.length l0_4) (hc0_4 : l0_4.length ≤ c0_4) (hr0_5 : Kd.C k90 w A0_5 l0_5.length l0_5) (hc0_5 : l0_5.length ≤ c0_5) (h : r10Bulk.f k a0_0 a0_1 a0_2 l0_3 l0_4 l0_5 a1 = some r),
  Calls Tryz.prog 17 #[.agg #[.int .i64 a0_0, .int .i64 a0_1, .string a0_2, .slice A0_3 l0_3.length c0_3, .slice A0_4 l0_4.length c0_4, .slice A0_5 l0_5.length c0_5], .int .i64 a1] w fun e w' => e = .returned (.int .i64 r) ∧ Below w.heap.size w w' := by
 induction k using Nat.strongRecOn with
 | _ k ih =>
 intro a0_0 a0_1 a0_2 A0_3 c0_3 l0_3 A0_4 c0_4 l0_4 A0_5 c0_5 l0_5 a1 r w hr0_3 hc0_3 hr0_4 hc0_4 hr0_5 hc0_5 h
 cases k with
 | zero => exact absurd h (by simp [r10Bulk.f])
 | succ k =>
 simp only [r10Bulk.f] at h
 have hu49 := Tryz.underlying49
 have HR0_3 := Aside0.mk hr0_3
 have HC0_3 := Aside0.mk hc0_3
 clear hr0_3 hc0_3
 have HR0_4 := Aside0.mk hr0_4
 have HC0_4 := Aside0.mk hc0_4
 clear hr0_4 hc0_4
 have HR0_5 := Aside0.mk hr0_5
 have HC0_5 := Aside0.mk hc0_5
 clear hr0_5 hc0_5
 have HB := Aside0.mk (Below.refl w.heap.size w)
 have H : (if (l0_3.length : Int) > a1 then (r10Bulk.j0 k a1 true a0_0 a0_1 a0_2 l0_3 l0_4 l0_5) else (r10Bulk.j0 k a1 (decide ((a0_2.size : Int) > a1)) a0_0 a0_1 a0_2 l0_3 l0_4 l0_5)) = some r := h
 clear h
 have HC3 := Aside0.mk H
 clear H
 go_enter Tryz.func17, Tryz.ntmps17
 go_upto_region 1 with (first | ((with_reducible refine gate_dst (N := 2) rfl ?_); (try (refine gate_guard (by rfl) ?_; dsimp only)); refine box_event ?hg (N := 2) ?hd (cs := #[.int .i64 a0_0, .int .i64 a0_1, .string a0_2, .slice A0_3 l0_3.length c0_3, .slice A0_4 l0_4.length c0_4, .slice A0_5 l0_5.length c0_5]) (t := 49) ?hr ?_; (case hd => rfl); (case hg => rfl); (case hr => first | (go_simp; done) | (go_simp; rfl)); intro gb101 hg w4 hbox hb; have BK101 := Aside0.mk (hbox); have GW101 := Aside0.mk (tG : w.heap.size ≤ gb101); have GE101 := Aside0.mk (tG : w.heap.size ≤ gb101); replace HB := Aside0.mk (below_step tB hb); clear hb hbox hg))
 (try simp only [Act.put, List.setIfInBounds_toArray, List.set_cons_zero, List.set_cons_succ])
 go_cut [20] (fun v20 wc => ∃ (kq : Nat) (x20_2 : Bool), v20 = .bool x20_2 ∧ Aside0 (r10Bulk.j0 kq a1 x20_2 a0_0 a0_1 a0_2 l0_3 l0_4 l0_5 = some r) ∧ Aside0 (kq ≤ k) ∧ Aside0 (wc.heap[gb101]? = some (.cells #[.int .i64 a0_0, .int .i64 a0_1, .string a0_2, (.slice A0_3 l0_3.length c0_3), (.slice A0_4 l0_4.length c0_4), (.slice A0_5 l0_5.length c0_5)] 49 (0, 0))) ∧ Aside0 (Below w.heap.size w wc))
 case first =>
  have H := HC3.out
  clear HC3
  replace H := iH H
  rcases H with ⟨c5b0, H⟩ | ⟨c5b0, H⟩
  ·(first | rw [c5b0] | (simp only [i64_w, i32_w]; rw [c5b0]) | skip)
   have H' := Aside0.mk H
   clear H
   have hcz6 := cz6 BK101.out
   go_wp2
   go_meet
   case rel => exact ⟨_, (true), tS, H', ⟨by first | omega | exact Nat.le_refl _⟩, ⟨tK BK101⟩, ⟨tBs GE101⟩⟩
  (first | rw [c5b0] | (simp only [i64_w, i32_w]; rw [c5b0]) | skip)
  have H' := Aside0.mk H
  clear H
  have hcz7 := cz6 BK101.out
  go_wp2
  go_meet
  case rel => exact ⟨_, (decide ((a0_2.size : Int) > a1)), tS, H', ⟨by first | omega | exact Nat.le_refl _⟩, ⟨tK BK101⟩, ⟨tBs GE101⟩⟩
 case rest =>
  clear HC3
  obtain ⟨kq, x20_2, rfl, HA, HJ2, BK101, HB⟩ := hcut
  cases kq with
  | zero => exact absurd HA.out (by simp [r10Bulk.j0])
  | succ kj2 =>
   have H := HA.out
   clear HA
   simp only [r10Bulk.j0] at H
   replace H := iB H
   rcases H with ⟨rfl, H⟩ | ⟨rfl, H⟩
   ·exact zz16
   have HC9 := Aside0.mk H
   clear H
   have hcz10 := cz6 BK101.out
   go_upto_block 0 with (fail)
   go_cut [5] (fun v5 wc => ∃ (kq : Nat) (x5_8 : Int), v5 = .int .i64 x5_8 ∧ Aside0 (r10Bulk.j2 kq a1 x5_8 a0_0 a0_1 a0_2 l0_3 l0_4 l0_5 = some r) ∧ Aside0 (kq ≤ kj2) ∧ Aside0 (wc.heap[gb101]? = some (.cells #[.int .i64 a0_0, .int .i64 a0_1, .string a0_2, (.slice A0_3 l0_3.length c0_3), (.slice A0_4 l0_4.length c0_4), (.slice A0_5 l0_5.length c0_5)] 49 (0, 0))) ∧ Aside0 (Below w.heap.size w wc))
   case first =>
    have H := HC9.out
    clear HC9
    have H' := Aside0.mk H
    clear H
    go_wp2
    go_loopg [5, 6] kj2 (fun kq v5 v6 w' => ∃ (x5_2 : Int) (x6_2 : Int), v5 = .int .i64 x5_2 ∧ v6 = .int .i64 x6_2 ∧ Aside0 (r10Bulk.l0 kq a1 x5_2 x6_2 a0_0 a0_1 a0_2 l0_3 l0_4 l0_5 = some r) ∧ Aside0 (kq ≤ kj2) ∧ Aside0 (w'.heap[gb101]? = some (.cells #[.int .i64 a0_0, .int .i64 a0_1, .string a0_2, (.slice A0_3 l0_3.length c0_3), (.slice A0_4 l0_4.length c0_4), (.slice A0_5 l0_5.length c0_5)] 49 (0, 0))) ∧ Aside0 (Below w.heap.size w w'))
    case atStart => exact ⟨(wrap64 ((wrap64 (1 + (l0_3.length : Int))) + (a0_2.size : Int))), (0), tS, tS, H', ⟨Nat.le_refl _⟩, ⟨tK BK101⟩, ⟨tBs GE101⟩⟩
    case round =>
     clear H'
     try clear hcz10
     obtain ⟨x5_2, x6_2, rfl, rfl, HA, HK2, BK101, HB⟩ := hrel
     cases gk with
     | zero => exact absurd HA.out (by simp [r10Bulk.l0])
     | succ k2 =>
      have H := HA.out
      clear HA
      simp only [r10Bulk.l0] at H
      replace H := iD H
      rcases H with ⟨c11b0, H⟩ | ⟨c11b0, H⟩
      ·(first | rw [c11b0] | (simp only [i64_w, i32_w]; rw [c11b0]) | skip)
       replace H := iD H
       rcases H with ⟨c12b0, H⟩ | ⟨c12b0, H⟩
       ·replace H := niD H
        obtain ⟨c13b0, H⟩ := H
        replace H := iX H
        obtain ⟨t103, A14, H⟩ := H
        have H' := Aside0.mk H
        clear H
        have hcz15 := cz6 BK101.out
        obtain ⟨p102, q102, ad102, A102_3, c102_3, A102_4, c102_4, A102_5, c102_5, rfl, hx102_0, hx102_1, hx102_2, hx102_3, hx102_4, hx102_5, HC102_3, HR102_3, HC102_4, HR102_4, HC102_5, HR102_5⟩ := at_B49 HR0_4 HB x6_2
        go_wp2_with (first | ((with_reducible refine gf_ 17 rfl ?_); refine gC_ (some 52) Tryz.func17 #[.agg #[.int .i64 ((rd_T49 l0_4 x6_2).f0), .int .i64 ((rd_T49 l0_4 x6_2).f1), .string ((rd_T49 l0_4 x6_2).f2), .slice A102_3 ((rd_T49 l0_4 x6_2).f3).length c102_3, .slice A102_4 ((rd_T49 l0_4 x6_2).f4).length c102_4, .slice A102_5 ((rd_T49 l0_4 x6_2).f5).length c102_5], .int .i64 (wrap64 (a1 - x5_2))] ?_; (with_reducible refine (ih k2 (by have := HJ2.out; have := HK2.out; omega) ((rd_T49 l0_4 x6_2).f0) ((rd_T49 l0_4 x6_2).f1) ((rd_T49 l0_4 x6_2).f2) _ _ ((rd_T49 l0_4 x6_2).f3) _ _ ((rd_T49 l0_4 x6_2).f4) _ _ ((rd_T49 l0_4 x6_2).f5) (wrap64 (a1 - x5_2)) t103 _ ?side1 ?side2 ?side3 ?side4 ?side5 ?side6 A14.out).mono ?_); (case side1 => exact tCb HR102_3 HB); (case side2 => exact HC102_3.out); (case side3 => exact tCb HR102_4 HB); (case side4 => exact HC102_4.out); (case side5 => exact tCb HR102_5 HB); (case side6 => exact HC102_5.out); rintro e w16 ⟨rfl, hb⟩; refine ⟨_, rfl, ?_⟩; replace BK101 := Aside0.mk (blk_below (g := gb101) (o := .cells #[.int .i64 a0_0, .int .i64 a0_1, .string a0_2, .slice A0_3 l0_3.length c0_3, .slice (some ad102) l0_4.length c0_4, .slice A0_5 l0_5.length c0_5] 49 (0, 0)) (tK BK101) hb); replace HB := Aside0.mk (below_step (tBs GE101) hb); (try clear hb)))
        go_roundg k2
        case measure => have := HJ2.out; have := HK2.out; omega
        case rel => exact ⟨(wrap64 (x5_2 + t103)), (wrap64 (x6_2 + 1)), tS, tS, H', ⟨by have := HJ2.out; have := HK2.out; omega⟩, ⟨tK BK101⟩, ⟨tBs GE101⟩⟩
       exact zz17
      (first | rw [c11b0] | (simp only [i64_w, i32_w]; rw [c11b0]) | skip)
      exact zz17
   case rest =>
    clear HC9
    try clear hcz10
    obtain ⟨kq, x5_8, rfl, HA, HJ8, BK101, HB⟩ := hcut
    cases kq with
    | zero => exact absurd HA.out (by simp [r10Bulk.j2])
    | succ kj8 =>
     have H := HA.out
     clear HA
     simp only [r10Bulk.j2] at H
     have H' := Aside0.mk H
     clear H
     go_wp2
     go_loopg [5, 7] kj8 (fun kq v5 v7 w' => ∃ (x5_3 : Int) (x7_3 : Int), v5 = .int .i64 x5_3 ∧ v7 = .int .i64 x7_3 ∧ Aside0 (r10Bulk.l1 kq a1 x5_3 x7_3 a0_0 a0_1 a0_2 l0_3 l0_4 l0_5 = some r) ∧ Aside0 (kq ≤ kj8) ∧ Aside0 (w'.heap[gb101]? = some (.cells #[.int .i64 a0_0, .int .i64 a0_1, .string a0_2, (.slice A0_3 l0_3.length c0_3), (.slice A0_4 l0_4.length c0_4), (.slice A0_5 l0_5.length c0_5)] 49 (0, 0))) ∧ Aside0 (Below w.heap.size w w'))
     case atStart => exact ⟨(x5_8), (0), tS, tS, H', ⟨Nat.le_refl _⟩, ⟨tK BK101⟩, ⟨tBs GE101⟩⟩
     case round =>
      clear H'
      try clear hcz10
      obtain ⟨x5_3, x7_3, rfl, rfl, HA, HK3, BK101, HB⟩ := hrel
      cases gk with
      | zero => exact absurd HA.out (by simp [r10Bulk.l1])
      | succ k3 =>
       have H := HA.out
       clear HA
       simp only [r10Bulk.l1] at H
       have HC19 := Aside0.mk H
       clear H
       go_upto_region 9 with (fail)
       go_cut [63] (fun v63 wc => ∃ (kq : Nat) (x63_18 : Bool), v63 = .bool x63_18 ∧ Aside0 (r10Bulk.j4 kq a1 x5_3 x7_3 x63_18 a0_0 a0_1 a0_2 l0_3 l0_4 l0_5 = some r) ∧ Aside0 (kq ≤ k3) ∧ Aside0 (wc.heap[gb101]? = some (.cells #[.int .i64 a0_0, .int .i64 a0_1, .string a0_2, (.slice A0_3 l0_3.length c0_3), (.slice A0_4 l0_4.length c0_4), (.slice A0_5 l0_5.length c0_5)] 49 (0, 0))) ∧ Aside0 (Below w.heap.size w wc))
       case first =>
        have H := HC19.out
        clear HC19
        replace H := iD H
        rcases H with ⟨c20b0, H⟩ | ⟨c20b0, H⟩
        ·(first | rw [c20b0] | (simp only [i64_w, i32_w]; rw [c20b0]) | skip)
         have H' := Aside0.mk H
         clear H
         have hcz21 := cz6 BK101.out
         go_wp2
         go_meet
         case rel => exact ⟨_, (decide (x5_3 ≤ a1)), tS, H', ⟨by have := HJ2.out; have := HJ8.out; have := HK3.out; first | omega | exact Nat.le_refl _⟩, ⟨tK BK101⟩, ⟨tBs GE101⟩⟩
        (first | rw [c20b0] | (simp only [i64_w, i32_w]; rw [c20b0]) | skip)
        have H' := Aside0.mk H
        clear H
        have hcz22 := cz6 BK101.out
        go_wp2
        go_meet
        case rel => exact ⟨_, (false), tS, H', ⟨by have := HJ2.out; have := HJ8.out; have := HK3.out; first | omega | exact Nat.le_refl _⟩, ⟨tK BK101⟩, ⟨tBs GE101⟩⟩
       case rest =>
        clear HC19
        try clear hcz10
        obtain ⟨kq, x63_18, rfl, HA, HJ18, BK101, HB⟩ := hcut
        cases kq with
        | zero => exact absurd HA.out (by simp [r10Bulk.j4])
        | succ kj18 =>
         have H := HA.out
         clear HA
         simp only [r10Bulk.j4] at H
         replace H := iB H
         rcases H with ⟨rfl, H⟩ | ⟨rfl, H⟩
         ·replace H := niD H
          obtain ⟨c24b0, H⟩ := H
          replace H := niD H
          obtain ⟨c25b0, H⟩ := H
          replace H := iH H
          rcases H with ⟨c26b0, H⟩ | ⟨c26b0, H⟩
          ·obtain rfl := Option.some.inj H
           have hcz27 := cz6 BK101.out
           obtain ⟨p104, q104, ad104, A104_0, c104_0, A104_1, c104_1, rfl, hx104_0, hx104_1, HC104_0, HR104_0, HC104_1, HR104_1⟩ := at_B90 HR0_5 HB x7_3
           go_wp2
           go_ret
           exact ⟨tE, by repeat (first | (with_reducible first | exact HB.out | apply below_alloc | apply pw_below_drewN | apply below_drew1 | refine below_set ?_ GE101.out) | exact HB.out)⟩
          have H' := Aside0.mk H
          clear H
          have hcz28 := cz6 BK101.out
          obtain ⟨p104, q104, ad104, A104_0, c104_0, A104_1, c104_1, rfl, hx104_0, hx104_1, HC104_0, HR104_0, HC104_1, HR104_1⟩ := at_B90 HR0_5 HB x7_3
          obtain ⟨p105, q105, ad105, A105_0, c105_0, A105_1, c105_1, e105, hx105_0, hx105_1, HC105_0, HR105_0, HC105_1, HR105_1⟩ := at_B90 HR0_5 HB x7_3
          obtain rfl : ad104 = ad105 := (by injection e105)
          obtain ⟨rfl, rfl⟩ := slI hx104_0 hx105_0
          obtain ⟨rfl, rfl⟩ := slI hx104_1 hx105_1
          go_wp2
          go_loopg [5, 8] kj18 (fun kq v5 v8 w' => ∃ (x5_5 : Int) (x8_5 : Int), v5 = .int .i64 x5_5 ∧ v8 = .int .i64 x8_5 ∧ Aside0 (r10Bulk.l2 kq a1 x5_5 x7_3 x8_5 a0_0 a0_1 a0_2 l0_3 l0_4 l0_5 = some r) ∧ Aside0 (kq ≤ kj18) ∧ Aside0 (w'.heap[gb101]? = some (.cells #[.int .i64 a0_0, .int .i64 a0_1, .string a0_2, (.slice A0_3 l0_3.length c0_3), (.slice A0_4 l0_4.length c0_4), (.slice (some ad104) l0_5.length c0_5)] 49 (0, 0))) ∧ Aside0 (Below w.heap.size w w'))
          case atStart => exact ⟨(wrap64 ((wrap64 (x5_3 + 1)) + (((rd_T90 l0_5 x7_3).f0).length : Int))), (0), tS, tS, H', ⟨Nat.le_refl _⟩, ⟨tK BK101⟩, ⟨tBs GE101⟩⟩
          case round =>
           clear H'
           try clear c24b0
           try clear c25b0
           try clear c26b0
           try clear hcz10
           try clear hcz28
           try clear hx104_0
           try clear hx104_1
           try clear hx105_0
           try clear hx105_1
           try clear p104
           try clear p105
           try clear q104
           try clear q105
           obtain ⟨x5_5, x8_5, rfl, rfl, HA, HK5, BK101, HB⟩ := hrel
           cases gk with
           | zero => exact absurd HA.out (by simp [r10Bulk.l2])
           | succ k5 =>
            have H := HA.out
            clear HA
            simp only [r10Bulk.l2] at H
            replace H := niD H
            obtain ⟨c29b0, H⟩ := H
            replace H := niD H
            obtain ⟨c30b0, H⟩ := H
            replace H := iD H
            rcases H with ⟨c31b0, H⟩ | ⟨c31b0, H⟩
            ·replace H := iD H
             rcases H with ⟨c32b0, H⟩ | ⟨c32b0, H⟩
             ·replace H := niD H
              obtain ⟨c33b0, H⟩ := H
              replace H := iX H
              obtain ⟨t109, A34, H⟩ := H
              have H' := Aside0.mk H
              clear H
              have hcz35 := cz6 BK101.out
              obtain ⟨p106, q106, ad106, A106_0, c106_0, A106_1, c106_1, e106, hx106_0, hx106_1, HC106_0, HR106_0, HC106_1, HR106_1⟩ := at_B90 HR0_5 HB x7_3
              obtain rfl : ad104 = ad106 := (by injection e106)
              obtain ⟨p107, q107, ad107, A107_0, c107_0, A107_1, c107_1, e107, hx107_0, hx107_1, HC107_0, HR107_0, HC107_1, HR107_1⟩ := at_B90 HR0_5 HB x7_3
              obtain rfl : ad104 = ad107 := (by injection e107)
              obtain ⟨rfl, rfl⟩ := slI hx106_0 hx107_0
              obtain ⟨rfl, rfl⟩ := slI hx106_1 hx107_1
              obtain ⟨p108, q108, ad108, A108_3, c108_3, A108_4, c108_4, A108_5, c108_5, rfl, hx108_0, hx108_1, hx108_2, hx108_3, hx108_4, hx108_5, HC108_3, HR108_3, HC108_4, HR108_4, HC108_5, HR108_5⟩ := at_B49 HR107_1 HB x8_5
              go_wp2_with (first | ((with_reducible refine gf_ 17 rfl ?_); refine gC_ (some 116) Tryz.func17 #[.agg #[.int .i64 ((rd_T49 ((rd_T90 l0_5 x7_3).f1) x8_5).f0), .int .i64 ((rd_T49 ((rd_T90 l0_5 x7_3).f1) x8_5).f1), .string ((rd_T49 ((rd_T90 l0_5 x7_3).f1) x8_5).f2), .slice A108_3 ((rd_T49 ((rd_T90 l0_5 x7_3).f1) x8_5).f3).length c108_3, .slice A108_4 ((rd_T49 ((rd_T90 l0_5 x7_3).f1) x8_5).f4).length c108_4, .slice A108_5 ((rd_T49 ((rd_T90 l0_5 x7_3).f1) x8_5).f5).length c108_5], .int .i64 (wrap64 (a1 - x5_5))] ?_; (with_reducible refine (ih k5 (by have := HJ2.out; have := HJ8.out; have := HK3.out; have := HJ18.out; have := HK5.out; omega) ((rd_T49 ((rd_T90 l0_5 x7_3).f1) x8_5).f0) ((rd_T49 ((rd_T90 l0_5 x7_3).f1) x8_5).f1) ((rd_T49 ((rd_T90 l0_5 x7_3).f1) x8_5).f2) _ _ ((rd_T49 ((rd_T90 l0_5 x7_3).f1) x8_5).f3) _ _ ((rd_T49 ((rd_T90 l0_5 x7_3).f1) x8_5).f4) _ _ ((rd_T49 ((rd_T90 l0_5 x7_3).f1) x8_5).f5) (wrap64 (a1 - x5_5)) t109 _ ?side1 ?side2 ?side3 ?side4 ?side5 ?side6 A34.out).mono ?_); (case side1 => exact tCb HR108_3 HB); (case side2 => exact HC108_3.out); (case side3 => exact tCb HR108_4 HB); (case side4 => exact HC108_4.out); (case side5 => exact tCb HR108_5 HB); (case side6 => exact HC108_5.out); rintro e w36 ⟨rfl, hb⟩; refine ⟨_, rfl, ?_⟩; replace BK101 := Aside0.mk (blk_below (g := gb101) (o := .cells #[.int .i64 a0_0, .int .i64 a0_1, .string a0_2, .slice A0_3 l0_3.length c0_3, .slice A0_4 l0_4.length c0_4, .slice (some ad104) l0_5.length c0_5] 49 (0, 0)) (tK BK101) hb); replace HB := Aside0.mk (below_step (tBs GE101) hb); (try clear hb)))
              go_roundg k5
              case measure => have := HJ2.out; have := HJ8.out; have := HK3.out; have := HJ18.out; have := HK5.out; omega
              case rel => exact ⟨(wrap64 (x5_5 + t109)), (wrap64 (x8_5 + 1)), tS, tS, H', ⟨by have := HJ2.out; have := HJ8.out; have := HK3.out; have := HJ18.out; have := HK5.out; omega⟩, ⟨tK BK101⟩, ⟨tBs GE101⟩⟩
             exact zz18
            exact zz18
         exact zz16
end
end Go.Proofs.YtahdjajdaggmjaaGreatDoor.XPa
