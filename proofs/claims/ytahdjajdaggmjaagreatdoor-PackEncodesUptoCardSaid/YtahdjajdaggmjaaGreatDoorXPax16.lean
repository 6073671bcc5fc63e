-- Written for this claim by a program of ours (wip/xp.py), out of the translation and of hand-written contracts.
import Derived.Test.YtahdjajdaggmjaaGreatDoorSx
import Derived.Test.YtahdjajdaggmjaaGreatDoorYrec
import Derived.Test.YtahdjajdaggmjaaGreatDoorYdec
import Derived.Test.YtahdjajdaggmjaaGreatDoorZrall
import Derived.Test.YtahdjajdaggmjaaGreatDoorZwr
import Derived.Test.YtahdjajdaggmjaaGreatDoorXPax15
namespace Go.Proofs.YtahdjajdaggmjaaGreatDoor.XPa
noncomputable section
open Go.RowKit Go.Proofs.YtahdjajdaggmjaaGreatDoorW.PrintWords Go.Proofs.YtahdjajdaggmjaaGreatDoorW.PrintLast Go.Proofs.YtahdjajdaggmjaaGreatDoorW.PrintMore
attribute [local go_sem] max2_int min2_int max_two min_two max_three min_three max_four min_four
set_option linter.unusedVariables false
set_option linter.unusedSimpArgs false
def r02Clash.l0 : Nat → Int → Int → Int → Option (Bool)
  | 0, _, _, _ => none
  | k + 1, x3, x269000, x269001 => if x3 < 24 then ((r01Has.f k x269000 x3).bind fun t269 => (if t269 = true then ((r01Has.f k x269001 x3).bind fun t270 => (if t270 = true then (some true) else (r02Clash.l0 k (wrap64 (x3 + 1)) x269000 x269001))) else (r02Clash.l0 k (wrap64 (x3 + 1)) x269000 x269001))) else (some false)
def r02Clash.f (k : Nat) (a0_0 : Int) (a0_1 : Int) : Option (Bool) := r02Clash.l0 k 0 a0_0 a0_1
theorem r02Clash.mono_l : ∀ k, (∀ y0 y1 y2, LeO (r02Clash.l0 k y0 y1 y2) (r02Clash.l0 (k + 1) y0 y1 y2))
  | 0 => fun _ _ _ r h => by simp [r02Clash.l0] at h
  | k + 1 => by
    have ih0 := r02Clash.mono_l k
    · intros; unfold r02Clash.l0; have m0_ := @r01Has.mono; exact tMo
theorem r02Clash.mono : ∀ a0 a1 k, LeO (r02Clash.f k a0 a1) (r02Clash.f (k + 1) a0 a1) := by
  intro a0 a1 k
  have ih0 := r02Clash.mono_l k
  unfold r02Clash.f
  have m0_ := @r01Has.mono
  exact tMo
theorem r02Clash.z0 {p : Prop} (h_ : p := by (first | (obtain rfl := Option.some.inj H) | (have H' := Aside0.mk H; clear H)); (try (have hcz := cz2 BK268.out)); go_wp2_with (first | ((with_reducible refine gf_ 101 rfl ?_); refine gC_ (some 11) Tryz.func101 #[.int .u32 a0_0, .int .i64 x3_1] ?_; (with_reducible refine (r01Has.calls k1 a0_0 x3_1 true _ A4.out).mono ?_); rintro e w' ⟨rfl, ⟨nd, rfl⟩⟩; refine ⟨_, rfl, ?_⟩) | (go_at_call 101; (with_reducible refine (r01Has.calls k1 a0_1 x3_1 false _ A6.out).mono ?_); rintro e w' ⟨rfl, ⟨nd, rfl⟩⟩) | (go_at_call 101; (with_reducible refine (r01Has.calls k1 a0_1 x3_1 true _ A6.out).mono ?_); rintro e w' ⟨rfl, ⟨nd, rfl⟩⟩)); first | (go_roundg k1; (case measure => have := HK1.out; omega); (case rel => exact ⟨(wrap64 (x3_1 + 1)), tS, H', ⟨by have := HK1.out; omega⟩, ⟨tK BK268⟩, ⟨tBs GE268⟩⟩)) | (go_ret; exact ⟨tE, by repeat (first | (with_reducible first | exact HB.out | apply below_alloc | apply pw_below_drewN | apply below_drew1 | refine below_set ?_ GE268.out) | exact HB.out)⟩)) : p := h_
set_option maxHeartbeats 8000000 in
set_option maxRecDepth 100000 in
theorem r02Clash.calls (k : Nat) (a0_0 : Int) (a0_1 : Int) (r : Bool) (w : World) (h : r02Clash.f k a0_0 a0_1 = some r) :
  Calls Tryz.prog 82 #[.agg #[.int .u32 a0_0, .int .u32 a0_1]] w fun e w' => e = .returned (.bool r) ∧ Below w.heap.size w w' := by
 have hu113 := Tryz.underlying113
 have HB := Aside0.mk (Below.refl w.heap.size w)
 have H : (r02Clash.l0 k 0 a0_0 a0_1) = some r := h
 clear h
 have H' := Aside0.mk H
 clear H
 go_enter Tryz.func82, Tryz.ntmps82
 go_wp2_with (first | ((with_reducible refine gd_ 1 rfl ?_); refine boxE 1 #[.int .u32 a0_0, .int .u32 a0_1] 113 ?_; intro gb268 hg w2 hbox hb; have BK268 := Aside0.mk (hbox); have GW268 := Aside0.mk (tG : w.heap.size ≤ gb268); have GE268 := Aside0.mk (tG : w.heap.size ≤ gb268); replace HB := Aside0.mk (below_step tB hb); clear hb hbox hg))
 go_loopg [3] k (fun kq v3 w' => ∃ (x3_1 : Int), v3 = .int .i64 x3_1 ∧ Aside0 (r02Clash.l0 kq x3_1 a0_0 a0_1 = some r) ∧ Aside0 (kq ≤ k) ∧ Aside0 (w'.heap[gb268]? = some (.cells #[.int .u32 a0_0, .int .u32 a0_1] 113 (0, 0))) ∧ Aside0 (Below w.heap.size w w'))
 case atStart => exact ⟨(0), tS, H', ⟨Nat.le_refl _⟩, ⟨tK BK268⟩, ⟨tBs GE268⟩⟩
 case round =>
  clear H'
  obtain ⟨x3_1, rfl, HA, HK1, BK268, HB⟩ := hrel
  cases gk with
  | zero => exact absurd HA.out (by simp [r02Clash.l0])
  | succ k1 =>
   have H := HA.out
   clear HA
   simp only [r02Clash.l0] at H
   replace H := iD H
   rcases H with ⟨c3b0, H⟩ | ⟨c3b0, H⟩
   ·replace H := iX H
    obtain ⟨t269, A4, H⟩ := H
    replace H := iB H
    rcases H with ⟨rfl, H⟩ | ⟨rfl, H⟩
    ·replace H := iX H
     obtain ⟨t270, A6, H⟩ := H
     replace H := iB H
     rcases H with ⟨rfl, H⟩ | ⟨rfl, H⟩
     ·exact r02Clash.z0
     exact r02Clash.z0
    have H' := Aside0.mk H
    clear H
    have hcz10 := cz2 BK268.out
    go_wp2_with (first | ((with_reducible refine gf_ 101 rfl ?_); refine gC_ (some 11) Tryz.func101 #[.int .u32 a0_0, .int .i64 x3_1] ?_; (with_reducible refine (r01Has.calls k1 a0_0 x3_1 false _ A4.out).mono ?_); rintro e w' ⟨rfl, ⟨nd, rfl⟩⟩; refine ⟨_, rfl, ?_⟩))
    go_roundg k1
    case measure => have := HK1.out; omega
    case rel => exact ⟨(wrap64 (x3_1 + 1)), tS, H', ⟨by have := HK1.out; omega⟩, ⟨tK BK268⟩, ⟨tBs GE268⟩⟩
   obtain rfl := Option.some.inj H
   go_wp2
   go_ret
   exact ⟨tE, by repeat (first | (with_reducible first | exact HB.out | apply below_alloc | apply pw_below_drewN | apply below_drew1 | refine below_set ?_ GE268.out) | exact HB.out)⟩
def r05Right.l0 : Nat → List (S113) → Int → Option (Bool)
  | 0, _, _ => none
  | k + 1, x0, x3 => if x3 < (x0.length : Int) then (if 0 ≤ x3 then ((r02Clash.f k ((rd_T113 x0 x3).f0) ((rd_T113 x0 x3).f1)).bind fun t273 => (if t273 = true then (some false) else (r05Right.l0 k x0 (wrap64 (x3 + 1))))) else (none)) else (some true)
def r05Right.f (k : Nat) (l0 : List (S113)) : Option (Bool) := (r03Right.f k l0).bind fun t271 => (if t271 = true then (r05Right.l0 k l0 0) else (some false))
theorem r05Right.mono_l : ∀ k, (∀ y0 y1, LeO (r05Right.l0 k y0 y1) (r05Right.l0 (k + 1) y0 y1))
  | 0 => fun _ _ r h => by simp [r05Right.l0] at h
  | k + 1 => by
    have ih0 := r05Right.mono_l k
    · intros; unfold r05Right.l0; have m0_ := @r02Clash.mono; have m1_ := @r03Right.mono; exact tMo
theorem r05Right.mono : ∀ a0 k, LeO (r05Right.f k a0) (r05Right.f (k + 1) a0) := by
  intro a0 k
  have ih0 := r05Right.mono_l k
  unfold r05Right.f
  have m0_ := @r02Clash.mono
  have m1_ := @r03Right.mono
  exact tMo
set_option maxHeartbeats 8000000 in
set_option maxRecDepth 100000 in
theorem r05Right.calls (k : Nat) (A0 : Option Addr) (c0 : Nat) (l0 : List (S113)) (r : Bool) (w : World) (hr0 : Kd.C k113 w A0 l0.length l0) (hc0 : l0.length ≤ c0) (h : r05Right.f k l0 = some r) :
  Calls Tryz.prog 66 #[.slice A0 l0.length c0] w fun e w' => e = .returned (.bool r) ∧ Below w.heap.size w w' := by
 have hu113 := Tryz.underlying113
 have HR0 := Aside0.mk hr0
 have HC0 := Aside0.mk hc0
 clear hr0 hc0
 have HB := Aside0.mk (Below.refl w.heap.size w)
 have H : ((r03Right.f k l0).bind fun t271 => (if t271 = true then (r05Right.l0 k l0 0) else (some false))) = some r := h
 clear h
 replace H := iX H
 obtain ⟨t271, A2, H⟩ := H
 replace H := iB H
 rcases H with ⟨rfl, H⟩ | ⟨rfl, H⟩
 ·have H' := Aside0.mk H
  clear H
  go_enter Tryz.func66, Tryz.ntmps66
  go_wp2_with (first | ((with_reducible refine gf_ 65 rfl ?_); refine gC_ (some 5) Tryz.func65 #[.slice A0 l0.length c0] ?_; (with_reducible refine (r03Right.calls k _ _ l0 true _ ?side1 ?side2 A2.out).mono ?_); (case side1 => repeat (first | exact HR0.out | (with_reducible refine Kd.C_alloc ?_ _) | (with_reducible refine Kd.C_drewN ?_ _) | (with_reducible refine Kd.C_drew ?_))); (case side2 => exact HC0.out); rintro e w4 ⟨rfl, hb⟩; refine ⟨_, rfl, ?_⟩; replace HB := Aside0.mk (below_step tB hb); (try clear hb)))
  go_loopg [3] k (fun kq v3 w' => ∃ (x3_1 : Int), v3 = .int .i64 x3_1 ∧ Aside0 (r05Right.l0 kq l0 x3_1 = some r) ∧ Aside0 (kq ≤ k) ∧ Aside0 (Below w.heap.size w w'))
  case atStart => exact ⟨(0), tS, H', ⟨Nat.le_refl _⟩, ⟨tB⟩⟩
  case round =>
   clear H'
   obtain ⟨x3_1, rfl, HA, HK1, HB⟩ := hrel
   cases gk with
   | zero => exact absurd HA.out (by simp [r05Right.l0])
   | succ k1 =>
    have H := HA.out
    clear HA
    simp only [r05Right.l0] at H
    replace H := iD H
    rcases H with ⟨c5b0, H⟩ | ⟨c5b0, H⟩
    ·replace H := niD H
     obtain ⟨c6b0, H⟩ := H
     replace H := iX H
     obtain ⟨t273, A7, H⟩ := H
     replace H := iB H
     rcases H with ⟨rfl, H⟩ | ⟨rfl, H⟩
     ·obtain rfl := Option.some.inj H
      obtain ⟨p272, q272, ad272, rfl, hx272_0, hx272_1⟩ := at_B113 HR0 HB x3_1
      go_wp2_with (first | ((with_reducible refine gf_ 82 rfl ?_); refine gC_ (some 17) Tryz.func82 #[.agg #[.int .u32 ((rd_T113 l0 x3_1).f0), .int .u32 ((rd_T113 l0 x3_1).f1)]] ?_; (with_reducible refine (r02Clash.calls k1 ((rd_T113 l0 x3_1).f0) ((rd_T113 l0 x3_1).f1) true _ A7.out).mono ?_); rintro e w9 ⟨rfl, hb⟩; refine ⟨_, rfl, ?_⟩; replace HB := Aside0.mk (below_step tB hb); (try clear hb)))
      go_ret
      exact ⟨tE, tB⟩
     have H' := Aside0.mk H
     clear H
     obtain ⟨p272, q272, ad272, rfl, hx272_0, hx272_1⟩ := at_B113 HR0 HB x3_1
     go_wp2_with (first | ((with_reducible refine gf_ 82 rfl ?_); refine gC_ (some 17) Tryz.func82 #[.agg #[.int .u32 ((rd_T113 l0 x3_1).f0), .int .u32 ((rd_T113 l0 x3_1).f1)]] ?_; (with_reducible refine (r02Clash.calls k1 ((rd_T113 l0 x3_1).f0) ((rd_T113 l0 x3_1).f1) false _ A7.out).mono ?_); rintro e w10 ⟨rfl, hb⟩; refine ⟨_, rfl, ?_⟩; replace HB := Aside0.mk (below_step tB hb); (try clear hb)))
     go_roundg k1
     case measure => have := HK1.out; omega
     case rel => exact ⟨(wrap64 (x3_1 + 1)), tS, H', ⟨by have := HK1.out; omega⟩, ⟨tB⟩⟩
    obtain rfl := Option.some.inj H
    go_wp2
    go_ret
    exact ⟨tE, tB⟩
 obtain rfl := Option.some.inj H
 go_enter Tryz.func66, Tryz.ntmps66
 go_wp2_with (first | ((with_reducible refine gf_ 65 rfl ?_); refine gC_ (some 5) Tryz.func65 #[.slice A0 l0.length c0] ?_; (with_reducible refine (r03Right.calls k _ _ l0 false _ ?side1 ?side2 A2.out).mono ?_); (case side1 => repeat (first | exact HR0.out | (with_reducible refine Kd.C_alloc ?_ _) | (with_reducible refine Kd.C_drewN ?_ _) | (with_reducible refine Kd.C_drew ?_))); (case side2 => exact HC0.out); rintro e w11 ⟨rfl, hb⟩; refine ⟨_, rfl, ?_⟩; replace HB := Aside0.mk (below_step tB hb); (try clear hb)))
 go_ret
 exact ⟨tE, tB⟩
def r01List.l0 : Nat → Int → List Int → Int → Option (List Int)
  | 0, _, _, _ => none
  | k + 1, x0, x3, x4 => if x4 < 24 then ((r01Has.f k x0 x4).bind fun t274 => (if t274 = true then (if x3.length < 17592186044416 then (r01List.l0 k x0 (x3 ++ [x4]) (wrap64 (x4 + 1))) else (none)) else (r01List.l0 k x0 x3 (wrap64 (x4 + 1))))) else (some x3)
def r01List.f (k : Nat) (a0 : Int) : Option (List Int) := r01List.l0 k a0 ([] : List Int) 0
theorem r01List.mono_l : ∀ k, (∀ y0 y1 y2, LeO (r01List.l0 k y0 y1 y2) (r01List.l0 (k + 1) y0 y1 y2))
  | 0 => fun _ _ _ r h => by simp [r01List.l0] at h
  | k + 1 => by
    have ih0 := r01List.mono_l k
    · intros; unfold r01List.l0; have m0_ := @r01Has.mono; exact tMo
theorem r01List.mono : ∀ a0 k, LeO (r01List.f k a0) (r01List.f (k + 1) a0) := by
  intro a0 k
  have ih0 := r01List.mono_l k
  unfold r01List.f
  have m0_ := @r01Has.mono
  exact tMo
set_option maxHeartbeats 8000000 in
set_option maxRecDepth 100000 in
theorem r01List.calls (k : Nat) (a0 : Int) (r : List Int) (w : World) (h : r01List.f k a0 = some r) :
  Calls Tryz.prog 83 #[.int .u32 a0] w fun e w' => ∃ v0_ : Value, e = .returned (v0_) ∧ Kd.R (Kd.int .i64) 3 w' w.heap.size (fun _ => True) v0_ r ∧ Below w.heap.size w w' := by
 have HB := Aside0.mk (Below.refl w.heap.size w)
 have H : (r01List.l0 k a0 ([] : List Int) 0) = some r := h
 clear h
 have H' := Aside0.mk H
 clear H
 go_enter Tryz.func83, Tryz.ntmps83
 go_wp2
 go_loopg [3, 4] k (fun kq v3 v4 w' => ∃ (x3_1 : List Int) (x4_1 : Int), v4 = .int .i64 x4_1 ∧ Aside0 (r01List.l0 kq a0 x3_1 x4_1 = some r) ∧ Aside0 (kq ≤ k) ∧ Aside0 (Kd.R (Kd.int .i64) 3 w' w.heap.size (fun _ => True) v3 x3_1) ∧ Aside0 (Below w.heap.size w w'))
 case atStart => exact ⟨(([] : List Int)), (0), tS, H', ⟨Nat.le_refl _⟩, ⟨by first | exact Kd.R_nil _ _ _ _ _ | exact Kd.N_nil _ _ _ _ _ | exact Kd.V_nil _ _ _ _ _ | exact Kd.Q_nil _ _ _ _ _ | exact Kd.S_nil _ _ _ _ _⟩, ⟨tB⟩⟩
 case round =>
  clear H'
  obtain ⟨x3_1, x4_1, rfl, HA, HK1, HO_3, HB⟩ := hrel
  cases gk with
  | zero => exact absurd HA.out (by simp [r01List.l0])
  | succ k1 =>
   have H := HA.out
   clear HA
   simp only [r01List.l0] at H
   replace H := iD H
   rcases H with ⟨c2b0, H⟩ | ⟨c2b0, H⟩
   ·replace H := iX H
    obtain ⟨t274, A3, H⟩ := H
    replace H := iB H
    rcases H with ⟨rfl, H⟩ | ⟨rfl, H⟩
    ·replace H := niC H
     obtain ⟨c5, H⟩ := H
     have LMc5 := Aside0.mk c5
     clear c5
     obtain ⟨y275, hy275⟩ : ∃ y_ : List Int, y_ = (x3_1 ++ [x4_1]) := ⟨_, rfl⟩
     replace H : (r01List.l0 k1 a0 y275 (wrap64 (x4_1 + 1))) = some r := tY hy275 H
     have Ny275 := Aside0.mk hy275
     clear hy275
     have H' := Aside0.mk H
     clear H
     go_wp2_with (first | ((with_reducible refine gf_ 101 rfl ?_); refine gC_ (some 11) Tryz.func101 #[.int .u32 a0, .int .i64 x4_1] ?_; (with_reducible refine (r01Has.calls k1 a0 x4_1 true _ A3.out).mono ?_); rintro e w' ⟨rfl, ⟨nd, rfl⟩⟩; refine ⟨_, rfl, ?_⟩) | ((with_reducible refine gate_builtin (b := .append) (xs := #[.tmp 12, .tmp 14]) rfl ?_); at_builtin; refine Kd.R_append (Kd.int .i64) (w0 := w) w.heap.size rfl (.tmp 12) (.tmp 14) 134 3 (.int .i64 0) 8 rfl Tryz.underlying134 info3 rfl (by decide) (by omega) u3 x3_1 x4_1 [.int .i64 x4_1] (fun _ => True) (fun _ => False) rfl rfl ?aP (fun _ hk => hk.elim) ?aF ?aO ?aB ?aS ?aL ?_; (case aP => exact rfl); (case aB => exact tB); (case aF => exact (fun _ _ => trivial)); (case aO => exact (tR HO_3)); (case aS => exact (below_size tB)); (case aL => have := LMc5.out; omega); intro v276 w6 ho hb hg hat; rw [← Ny275.out] at ho; replace HB := Aside0.mk (hb); have HO277 := Aside0.mk (ho); clear HO_3 ho hb hg hat))
     go_roundg k1
     case measure => have := HK1.out; omega
     case rel => exact ⟨(y275), (wrap64 (x4_1 + 1)), tS, H', ⟨by have := HK1.out; omega⟩, ⟨tR HO277⟩, ⟨tB⟩⟩
    have H' := Aside0.mk H
    clear H
    go_wp2_with (first | ((with_reducible refine gf_ 101 rfl ?_); refine gC_ (some 11) Tryz.func101 #[.int .u32 a0, .int .i64 x4_1] ?_; (with_reducible refine (r01Has.calls k1 a0 x4_1 false _ A3.out).mono ?_); rintro e w' ⟨rfl, ⟨nd, rfl⟩⟩; refine ⟨_, rfl, ?_⟩))
    go_roundg k1
    case measure => have := HK1.out; omega
    case rel => exact ⟨(x3_1), (wrap64 (x4_1 + 1)), tS, H', ⟨by have := HK1.out; omega⟩, ⟨tR HO_3⟩, ⟨tB⟩⟩
   exact zz9
def r01Set.l0 : Nat → List Int → Int → Int → Option (Int)
  | 0, _, _, _ => none
  | k + 1, x0, x3, x4 => if x4 < (x0.length : Int) then (if 0 ≤ x4 then ((r01power.f k (rd x0 x4)).bind fun t279 => (r01Set.l0 k x0 (wrap64 (x3 + t279)) (wrap64 (x4 + 1)))) else (none)) else (some ((x3) % 4294967296))
def r01Set.f (k : Nat) (l0 : List Int) : Option (Int) := r01Set.l0 k l0 0 0
theorem r01Set.mono_l : ∀ k, (∀ y0 y1 y2, LeO (r01Set.l0 k y0 y1 y2) (r01Set.l0 (k + 1) y0 y1 y2))
  | 0 => fun _ _ _ r h => by simp [r01Set.l0] at h
  | k + 1 => by
    have ih0 := r01Set.mono_l k
    · intros; unfold r01Set.l0; have m0_ := @r01power.mono; exact tMo
theorem r01Set.mono : ∀ a0 k, LeO (r01Set.f k a0) (r01Set.f (k + 1) a0) := by
  intro a0 k
  have ih0 := r01Set.mono_l k
  unfold r01Set.f
  have m0_ := @r01power.mono
  exact tMo
set_option maxHeartbeats 8000000 in
set_option maxRecDepth 100000 in
theorem r01Set.calls (k : Nat) (A0 : Option Addr) (c0 : Nat) (l0 : List Int) (r : Int) (w : World) (hr0 : Kd.C (Kd.int .i64) w A0 l0.length l0) (hc0 : l0.length ≤ c0) (h : r01Set.f k l0 = some r) :
  Calls Tryz.prog 102 #[.slice A0 l0.length c0] w fun e w' => e = .returned (.int .u32 r) ∧ Drawn0 w w' := by
 have HR0 := Aside0.mk hr0
 have HC0 := Aside0.mk hc0
 clear hr0 hc0
 have H : (r01Set.l0 k l0 0 0) = some r := h
 clear h
 have H' := Aside0.mk H
 clear H
 go_enter Tryz.func102, Tryz.ntmps102
 go_wp2
 go_loopg [3, 4] k (fun kq v3 v4 w' => ∃ (x3_1 : Int) (x4_1 : Int), v3 = .int .i64 x3_1 ∧ v4 = .int .i64 x4_1 ∧ Aside0 (r01Set.l0 kq l0 x3_1 x4_1 = some r) ∧ Aside0 (kq ≤ k) ∧ Drawn0 w w')
 case atStart => exact ⟨(0), (0), tS, tS, H', ⟨Nat.le_refl _⟩, tD⟩
 case round =>
  clear H'
  obtain ⟨x3_1, x4_1, rfl, rfl, HA, HK1, ⟨m1, rfl⟩⟩ := hrel
  cases gk with
  | zero => exact absurd HA.out (by simp [r01Set.l0])
  | succ k1 =>
   have H := HA.out
   clear HA
   simp only [r01Set.l0] at H
   replace H := iD H
   rcases H with ⟨c2b0, H⟩ | ⟨c2b0, H⟩
   ·replace H := niD H
    obtain ⟨c3b0, H⟩ := H
    replace H := iX H
    obtain ⟨t279, A4, H⟩ := H
    have H' := Aside0.mk H
    clear H
    have p278 : 0 ≤ (x4_1 : Int) := tA
    have q278 : x4_1 < (l0.length : Int) := tA
    obtain ⟨ad278, e278, hx278_0⟩ := Kd.at_int HR0.out x4_1 p278 q278
    cases e278
    replace p278 := eq_true p278
    replace q278 := eq_true q278
    go_wp2_with (first | ((with_reducible refine gf_ 112 rfl ?_); refine gC_ (some 16) Tryz.func112 #[.int .i64 (rd l0 x4_1)] ?_; (with_reducible refine (r01power.calls k1 (rd l0 x4_1) t279 _ A4.out).mono ?_); rintro e w' ⟨rfl, ⟨nd, rfl⟩⟩; refine ⟨_, rfl, ?_⟩))
    go_roundg k1
    case measure => have := HK1.out; omega
    case rel => exact ⟨(wrap64 (x3_1 + t279)), (wrap64 (x4_1 + 1)), tS, tS, H', ⟨by have := HK1.out; omega⟩, tD⟩
   exact zz5
mutual
def r03Dims.l0 : Nat → List (S113) → List Int → Int → Option (Int)
  | 0, _, _, _ => none
  | k + 1, x0, x3, x4 => if x4 < 24 then (r03Dims.l1 k x0 x3 x4 false 0) else ((r01Set.f k x3).bind fun t280 => (some t280))
def r03Dims.l1 : Nat → List (S113) → List Int → Int → Bool → Int → Option (Int)
  | 0, _, _, _, _, _ => none
  | k + 1, x0, x3, x4, x5, x6 => if x6 < (x0.length : Int) then (if x5 = true then (r03Dims.l1 k x0 x3 x4 true (wrap64 (x6 + 1))) else (if 0 ≤ x6 then ((r01Has.f k ((rd_T113 x0 x6).f0) x4).bind fun t282 => (if t282 = true then (r03Dims.l1 k x0 x3 x4 true (wrap64 (x6 + 1))) else ((r01Has.f k ((rd_T113 x0 x6).f1) x4).bind fun t284 => (r03Dims.l1 k x0 x3 x4 t284 (wrap64 (x6 + 1)))))) else (none))) else (if x5 = true then (if x3.length < 17592186044416 then (r03Dims.l0 k x0 (x3 ++ [x4]) (wrap64 (x4 + 1))) else (none)) else (r03Dims.l0 k x0 x3 (wrap64 (x4 + 1))))
end
def r03Dims.f (k : Nat) (l0 : List (S113)) : Option (Int) := r03Dims.l0 k l0 ([] : List Int) 0
theorem r03Dims.mono_l : ∀ k, (∀ y0 y1 y2, LeO (r03Dims.l0 k y0 y1 y2) (r03Dims.l0 (k + 1) y0 y1 y2)) ∧ (∀ y0 y1 y2 y3 y4, LeO (r03Dims.l1 k y0 y1 y2 y3 y4) (r03Dims.l1 (k + 1) y0 y1 y2 y3 y4))
  | 0 => ⟨fun _ _ _ r h => by simp [r03Dims.l0] at h, fun _ _ _ _ _ r h => by simp [r03Dims.l1] at h⟩
  | k + 1 => by
    obtain ⟨ih0, ih1⟩ := r03Dims.mono_l k
    refine ⟨?_, ?_⟩
    · intros; unfold r03Dims.l0; have m0_ := @r01Has.mono; have m1_ := @r01Set.mono; exact tMo
    · intros; unfold r03Dims.l1; have m0_ := @r01Has.mono; have m1_ := @r01Set.mono; exact tMo
theorem r03Dims.mono : ∀ a0 k, LeO (r03Dims.f k a0) (r03Dims.f (k + 1) a0) := by
  intro a0 k
  obtain ⟨ih0, ih1⟩ := r03Dims.mono_l k
  unfold r03Dims.f
  have m0_ := @r01Has.mono
  have m1_ := @r01Set.mono
  exact tMo
set_option maxHeartbeats 8000000 in
set_option maxRecDepth 100000 in
theorem r03Dims.calls (k : Nat) (A0 : Option Addr) (c0 : Nat) (l0 : List (S113)) (r : Int) (w : World) (hr0 : Kd.C k113 w A0 l0.length l0) (hc0 : l0.length ≤ c0) (h : r03Dims.f k l0 = some r) :
  Calls Tryz.prog 84 #[.slice A0 l0.length c0] w fun e w' => e = .returned (.int .u32 r) ∧ Below w.heap.size w w' := by
 have HR0 := Aside0.mk hr0
 have HC0 := Aside0.mk hc0
 clear hr0 hc0
 have HB := Aside0.mk (Below.refl w.heap.size w)
 have H : (r03Dims.l0 k l0 ([] : List Int) 0) = some r := h
 clear h
 have H' := Aside0.mk H
 clear H
 go_enter Tryz.func84, Tryz.ntmps84
 go_wp2
 go_loopg [3, 4] k (fun kq v3 v4 w' => ∃ (x3_1 : List Int) (x4_1 : Int), v4 = .int .i64 x4_1 ∧ Aside0 (r03Dims.l0 kq l0 x3_1 x4_1 = some r) ∧ Aside0 (kq ≤ k) ∧ Aside0 (Kd.R (Kd.int .i64) 3 w' w.heap.size (fun _ => True) v3 x3_1) ∧ Aside0 (Below w.heap.size w w'))
 case atStart => exact ⟨(([] : List Int)), (0), tS, H', ⟨Nat.le_refl _⟩, ⟨by first | exact Kd.R_nil _ _ _ _ _ | exact Kd.N_nil _ _ _ _ _ | exact Kd.V_nil _ _ _ _ _ | exact Kd.Q_nil _ _ _ _ _ | exact Kd.S_nil _ _ _ _ _⟩, ⟨tB⟩⟩
 case round =>
  clear H'
  obtain ⟨x3_1, x4_1, rfl, HA, HK1, HO_3, HB⟩ := hrel
  cases gk with
  | zero => exact absurd HA.out (by simp [r03Dims.l0])
  | succ k1 =>
   have H := HA.out
   clear HA
   simp only [r03Dims.l0] at H
   replace H := iD H
   rcases H with ⟨c2b0, H⟩ | ⟨c2b0, H⟩
   ·have H' := Aside0.mk H
    clear H
    go_wp2
    go_loopg [5, 6] k1 (fun kq v5 v6 w' => ∃ (x5_2 : Bool) (x6_2 : Int), v5 = .bool x5_2 ∧ v6 = .int .i64 x6_2 ∧ Aside0 (r03Dims.l1 kq l0 x3_1 x4_1 x5_2 x6_2 = some r) ∧ Aside0 (kq ≤ k1) ∧ Aside0 (Kd.R (Kd.int .i64) 3 w' w.heap.size (fun _ => True) u3 x3_1) ∧ Aside0 (Below w.heap.size w w'))
    case atStart => exact ⟨(false), (0), tS, tS, H', ⟨Nat.le_refl _⟩, ⟨tR HO_3⟩, ⟨tB⟩⟩
    case round =>
     clear H'
     try clear c2b0
     obtain ⟨x5_2, x6_2, rfl, rfl, HA, HK2, HO_3, HB⟩ := hrel
     cases gk with
     | zero => exact absurd HA.out (by simp [r03Dims.l1])
     | succ k2 =>
      have H := HA.out
      clear HA
      simp only [r03Dims.l1] at H
      replace H := iD H
      rcases H with ⟨c3b0, H⟩ | ⟨c3b0, H⟩
      ·replace H := iB H
       rcases H with ⟨rfl, H⟩ | ⟨rfl, H⟩
       ·have H' := Aside0.mk H
        clear H
        go_wp2
        go_roundg k2
        case measure => have := HK1.out; have := HK2.out; omega
        case rel => exact ⟨(true), (wrap64 (x6_2 + 1)), tS, tS, H', ⟨by have := HK1.out; have := HK2.out; omega⟩, ⟨tR HO_3⟩, ⟨tB⟩⟩
       replace H := niD H
       obtain ⟨c5b0, H⟩ := H
       replace H := iX H
       obtain ⟨t282, A6, H⟩ := H
       replace H := iB H
       rcases H with ⟨rfl, H⟩ | ⟨rfl, H⟩
       ·have H' := Aside0.mk H
        clear H
        obtain ⟨p281, q281, ad281, rfl, hx281_0, hx281_1⟩ := at_B113 HR0 HB x6_2
        go_wp2_with (first | (go_at_call 101; (with_reducible refine (r01Has.calls k2 ((rd_T113 l0 x6_2).f0) x4_1 true _ A6.out).mono ?_); rintro e w' ⟨rfl, ⟨nd, rfl⟩⟩))
        go_roundg k2
        case measure => have := HK1.out; have := HK2.out; omega
        case rel => exact ⟨(true), (wrap64 (x6_2 + 1)), tS, tS, H', ⟨by have := HK1.out; have := HK2.out; omega⟩, ⟨tR HO_3⟩, ⟨tB⟩⟩
       replace H := iX H
       obtain ⟨t284, A8, H⟩ := H
       have H' := Aside0.mk H
       clear H
       obtain ⟨p281, q281, ad281, rfl, hx281_0, hx281_1⟩ := at_B113 HR0 HB x6_2
       go_wp2_with (first | (go_at_call 101; (with_reducible refine (r01Has.calls k2 ((rd_T113 l0 x6_2).f0) x4_1 false _ A6.out).mono ?_); rintro e w' ⟨rfl, ⟨nd, rfl⟩⟩; obtain ⟨p283, q283, ad283, e283, hx283_0, hx283_1⟩ := at_B113 HR0 HB x6_2; obtain rfl : ad281 = ad283 := (by injection e283)) | (go_at_call 101; (with_reducible refine (r01Has.calls k2 ((rd_T113 l0 x6_2).f1) x4_1 t284 _ A8.out).mono ?_); rintro e w' ⟨rfl, ⟨nd, rfl⟩⟩))
       go_roundg k2
       case measure => have := HK1.out; have := HK2.out; omega
       case rel => exact ⟨(t284), (wrap64 (x6_2 + 1)), tS, tS, H', ⟨by have := HK1.out; have := HK2.out; omega⟩, ⟨tR HO_3⟩, ⟨tB⟩⟩
      replace H := iB H
      rcases H with ⟨rfl, H⟩ | ⟨rfl, H⟩
      ·replace H := niC H
       obtain ⟨c10, H⟩ := H
       have LMc10 := Aside0.mk c10
       clear c10
       obtain ⟨y285, hy285⟩ : ∃ y_ : List Int, y_ = (x3_1 ++ [x4_1]) := ⟨_, rfl⟩
       replace H : (r03Dims.l0 k2 l0 y285 (wrap64 (x4_1 + 1))) = some r := tY hy285 H
       have Ny285 := Aside0.mk hy285
       clear hy285
       have H' := Aside0.mk H
       clear H
       go_wp2_with (first | ((with_reducible refine gate_builtin (b := .append) (xs := #[.tmp 37, .tmp 39]) rfl ?_); at_builtin; refine Kd.R_append (Kd.int .i64) (w0 := w) w.heap.size rfl (.tmp 37) (.tmp 39) 134 3 (.int .i64 0) 8 rfl Tryz.underlying134 info3 rfl (by decide) (by omega) u3 x3_1 x4_1 [.int .i64 x4_1] (fun _ => True) (fun _ => False) rfl rfl ?aP (fun _ hk => hk.elim) ?aF ?aO ?aB ?aS ?aL ?_; (case aP => exact rfl); (case aB => exact tB); (case aF => exact (fun _ _ => trivial)); (case aO => exact (tR HO_3)); (case aS => exact (below_size tB)); (case aL => have := LMc10.out; omega); intro v286 w11 ho hb hg hat; rw [← Ny285.out] at ho; replace HB := Aside0.mk (hb); have HO287 := Aside0.mk (ho); clear HO_3 ho hb hg hat))
       go_roundg k2
       case measure => have := HK1.out; have := HK2.out; omega
       case rel => exact ⟨(y285), (wrap64 (x4_1 + 1)), tS, H', ⟨by have := HK1.out; have := HK2.out; omega⟩, ⟨tR HO287⟩, ⟨tB⟩⟩
      have H' := Aside0.mk H
      clear H
      go_wp2
      go_roundg k2
      case measure => have := HK1.out; have := HK2.out; omega
      case rel => exact ⟨(x3_1), (wrap64 (x4_1 + 1)), tS, H', ⟨by have := HK1.out; have := HK2.out; omega⟩, ⟨tR HO_3⟩, ⟨tB⟩⟩
   replace H := iX H
   obtain ⟨t280, A12, H⟩ := H
   obtain rfl := Option.some.inj H
   obtain ⟨Aoh_3, coh_3, eoh_3⟩ := Kd.R_slice HO_3.out
   subst eoh_3
   go_wp2_with (first | ((with_reducible refine gf_ 102 rfl ?_); refine gC_ (some 42) Tryz.func102 #[.slice Aoh_3 x3_1.length coh_3] ?_; (with_reducible refine (r01Set.calls k1 _ _ x3_1 t280 _ ?side1 ?side2 A12.out).mono ?_); (case side1 => exact tCr HO_3); (case side2 => exact (Kd.R_reads' HO_3.out).2.1); rintro e w' ⟨rfl, ⟨nd, rfl⟩⟩; refine ⟨_, rfl, ?_⟩))
   go_ret
   exact ⟨tE, tB⟩
def r10low.f (k : Nat) (l0 : List (S113)) (a1 : Int) : Option (Bool) := (r03Dims.f k l0).bind fun t288 => ((r01List.f k t288).bind fun t289 => (if (t289.length : Int) = 0 then (some true) else (if 0 ≤ (wrap64 ((t289.length : Int) - 1)) then (if (wrap64 ((t289.length : Int) - 1)) < (t289.length : Int) then (some (decide ((rd t289 (wrap64 ((t289.length : Int) - 1))) < a1))) else (none)) else (none))))
theorem r10low.mono : ∀ a0 a1 k, LeO (r10low.f k a0 a1) (r10low.f (k + 1) a0 a1) := by
  intro a0 a1 k
  unfold r10low.f
  have m0_ := @r01List.mono
  have m1_ := @r03Dims.mono
  exact tMo
theorem r10low.z0 {p : Prop} (h_ : p := by go_wp2_with (first | ((with_reducible refine gf_ 84 rfl ?_); refine gC_ (some 7) Tryz.func84 #[.slice A0 l0.length c0] ?_; (with_reducible refine (r03Dims.calls k _ _ l0 t288 _ ?side1 ?side2 A3.out).mono ?_); (case side1 => repeat (first | exact HR0.out | (with_reducible refine Kd.C_alloc ?_ _) | (with_reducible refine Kd.C_drewN ?_ _) | (with_reducible refine Kd.C_drew ?_))); (case side2 => exact HC0.out); rintro e wa ⟨rfl, hb⟩; refine ⟨_, rfl, ?_⟩; replace HB := Aside0.mk (below_step tB hb); (try clear hb)) | ((with_reducible refine gf_ 83 rfl ?_); refine gC_ (some 8) Tryz.func83 #[.int .u32 t288] ?_; (with_reducible refine (r01List.calls k t288 t289 _ A4.out).mono ?_); rintro e wa ⟨v290, rfl, ho0, hb⟩; refine ⟨_, rfl, ?_⟩; have HO291 := Aside0.mk (Kd.R_lower ho0 (below_size tB)); replace HB := Aside0.mk (below_step tB hb); (try clear hb); (try clear ho0); obtain ⟨Aoh291, coh291, eoh291⟩ := Kd.R_slice HO291.out; subst eoh291; have p292 : 0 ≤ ((ji9) : Int) := tA; have q292 : (ji9) < (t289.length : Int) := tA; obtain ⟨ad292, e292, hx292_0⟩ := Kd.at_int (Kd.R_reads' HO291.out).2.2 (ji9) p292 q292; cases e292; replace p292 := eq_true p292; replace q292 := eq_true q292) | ((with_reducible refine gf_ 83 rfl ?_); refine gC_ (some 8) Tryz.func83 #[.int .u32 t288] ?_; (with_reducible refine (r01List.calls k t288 t289 _ A4.out).mono ?_); rintro e wa ⟨v290, rfl, ho0, hb⟩; refine ⟨_, rfl, ?_⟩; have HO291 := Aside0.mk (Kd.R_lower ho0 (below_size tB)); replace HB := Aside0.mk (below_step tB hb); (try clear hb); (try clear ho0); obtain ⟨Aoh291, coh291, eoh291⟩ := Kd.R_slice HO291.out; subst eoh291)); first | (go_ret; exact ⟨by first | rfl | (simp [errW_none, errW_some] <;> rfl) | (simp only [← hji9]; first | rfl | (simp [errW_none, errW_some] <;> rfl)) | (simp [*, errW_none, errW_some] <;> rfl), tB⟩) | (go_ret; exact ⟨tE, tB⟩)) : p := h_
set_option maxHeartbeats 8000000 in
set_option maxRecDepth 100000 in
theorem r10low.calls (k : Nat) (A0 : Option Addr) (c0 : Nat) (l0 : List (S113)) (a1 : Int) (r : Bool) (w : World) (hr0 : Kd.C k113 w A0 l0.length l0) (hc0 : l0.length ≤ c0) (h : r10low.f k l0 a1 = some r) :
  Calls Tryz.prog 67 #[.slice A0 l0.length c0, .int .i64 a1] w fun e w' => e = .returned (.bool r) ∧ Below w.heap.size w w' := by
 have HR0 := Aside0.mk hr0
 have HC0 := Aside0.mk hc0
 clear hr0 hc0
 have HB := Aside0.mk (Below.refl w.heap.size w)
 have H : ((r03Dims.f k l0).bind fun t288 => ((r01List.f k t288).bind fun t289 => (if (t289.length : Int) = 0 then (some true) else (if 0 ≤ (wrap64 ((t289.length : Int) - 1)) then (if (wrap64 ((t289.length : Int) - 1)) < (t289.length : Int) then (some (decide ((rd t289 (wrap64 ((t289.length : Int) - 1))) < a1))) else (none)) else (none))))) = some r := h
 clear h
 replace H := iX H
 obtain ⟨t288, A3, H⟩ := H
 replace H := iX H
 obtain ⟨t289, A4, H⟩ := H
 replace H := iE H
 rcases H with ⟨c5b0, c5b1, H⟩ | ⟨c5, c5b0, c5b1, H⟩
 ·obtain rfl := Option.some.inj H
  go_enter Tryz.func67, Tryz.ntmps67
  exact r10low.z0
 have c5b2 : ¬ (t289 = []) := fun h_ => c5 (by rw [h_]; rfl)
 obtain ⟨ji9, hji9⟩ : ∃ j_ : Int, (wrap64 ((t289.length : Int) - 1)) = j_ := ⟨_, rfl⟩
 replace H : (if 0 ≤ (ji9) then (if (ji9) < (t289.length : Int) then (some (decide ((rd t289 (ji9)) < a1))) else (none)) else (none)) = some r := by first | (rw [hji9] at H; exact H) | (simp only [hji9] at H ⊢; exact H)
 (try rw [hji9] at A3)
 (try rw [hji9] at A4)
 have hji9w : (IntKind.i64.wrap ((t289.length : Int) - 1)) = ji9 := (i64_w _).trans hji9
 replace H := niD H
 obtain ⟨c10b0, H⟩ := H
 replace H := niD H
 obtain ⟨c11b0, H⟩ := H
 obtain rfl := Option.some.inj H
 go_enter Tryz.func67, Tryz.ntmps67
 exact r10low.z0
end
end Go.Proofs.YtahdjajdaggmjaaGreatDoor.XPa
