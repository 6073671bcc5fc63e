-- Written for this claim by a program of ours (wip/xp.py), out of the translation and of hand-written contracts.
import Derived.Test.YtahdjajdaggmjaaGreatDoorUtab
import Derived.Test.YtahdjajdaggmjaaGreatDoorSx
import Derived.Test.YtahdjajdaggmjaaGreatDoorYrec
import Derived.Test.YtahdjajdaggmjaaGreatDoorYdec
import Derived.Test.YtahdjajdaggmjaaGreatDoorZrall
import Derived.Test.YtahdjajdaggmjaaGreatDoorZwr
import Derived.Test.YtahdjajdaggmjaaGreatDoorXPax6
section
namespace Go.Proofs.YtahdjajdaggmjaaGreatDoor.XPa
noncomputable section
open Go.RowKit Go.Proofs.YtahdjajdaggmjaaGreatDoorW.PrintWords Go.Proofs.YtahdjajdaggmjaaGreatDoorW.PrintLast Go.Proofs.YtahdjajdaggmjaaGreatDoorW.PrintMore
attribute [local go_sem] max2_int min2_int max_two min_two max_three min_three max_four min_four
set_option linter.unusedVariables false
set_option linter.unusedSimpArgs false
attribute [local go_sem high] eqA113
def cl_Below.f (a0_0 : Int) (a0_1 : Int) (a1_0 : Int) (a1_1 : Int) : Option (Bool) := (cl_Meet.f a0_0 a0_1 a1_0 a1_1).bind fun bt156 => (some (bt156.1 == a0_0 && (bt156.2 == a0_1)))
set_option maxHeartbeats 8000000 in
set_option maxRecDepth 100000 in
theorem cl_Below.calls (a0_0 : Int) (a0_1 : Int) (a1_0 : Int) (a1_1 : Int) (r : Bool) (w : World) (h : cl_Below.f a0_0 a0_1 a1_0 a1_1 = some r) :
  Calls Tryz.prog 116 #[.agg #[.int .u32 a0_0, .int .u32 a0_1], .agg #[.int .u32 a1_0, .int .u32 a1_1]] w fun e w' => e = .returned (.bool r) ∧ Below w.heap.size w w' := by
 have hu113 := Tryz.underlying113
 have HB := Aside0.mk (Below.refl w.heap.size w)
 have H : ((cl_Meet.f a0_0 a0_1 a1_0 a1_1).bind fun bt156 => (some (bt156.1 == a0_0 && (bt156.2 == a0_1)))) = some r := h
 clear h
 replace H := iX H
 obtain ⟨⟨t156, t157⟩, A3, H⟩ := H
 try dsimp only at H
 obtain rfl := Option.some.inj H
 go_enter Tryz.func116, Tryz.ntmps116
 try go_wp2_with (first | ((with_reducible refine gd_ 2 rfl ?_); refine boxE 2 #[.int .u32 a0_0, .int .u32 a0_1] 113 ?_; intro gb154 hg w4 hbox hb; have BK154 := Aside0.mk (hbox); have GW154 := Aside0.mk (tG : w.heap.size ≤ gb154); have GE154 := Aside0.mk (tG : w.heap.size ≤ gb154); replace HB := Aside0.mk (below_step tB hb); clear hb hbox hg) | ((with_reducible refine gd_ 3 rfl ?_); refine boxE 3 #[.int .u32 a1_0, .int .u32 a1_1] 113 ?_; intro gb155 hg w5 hbox hb; have BK155 := Aside0.mk (hbox); have GW155 := Aside0.mk ((by rw [hg]; exact (below_size (tBs GE154)) : w.heap.size ≤ gb155)); have GE155 := Aside0.mk ((by rw [hg]; exact (below_size (tBs GE154)) : w.heap.size ≤ gb155)); replace HB := Aside0.mk (below_step (tBs GE154) hb); have NB154_155 := Aside0.mk ((by rw [hg]; exact Nat.ne_of_lt (blk_lt (g := gb154) (o := .cells #[.int .u32 a0_0, .int .u32 a0_1] 113 (0, 0)) (tK BK154)) : gb154 ≠ gb155)); have NB155_154 := Aside0.mk ((by rw [hg]; exact Nat.ne_of_gt (blk_lt (g := gb154) (o := .cells #[.int .u32 a0_0, .int .u32 a0_1] 113 (0, 0)) (tK BK154)) : gb155 ≠ gb154)); replace BK154 := Aside0.mk (blk_below (g := gb154) (o := .cells #[.int .u32 a0_0, .int .u32 a0_1] 113 (0, 0)) (tK BK154) hb); clear hb hbox hg))
 have n0_ := Aside0.mk (blk_drew BK154.out)
 have n1_ := Aside0.mk (blk_drew BK155.out)
 have n2_ := Aside0.mk (below_drew1 HB.out)
 clear BK154
 clear BK155
 clear HB
 have BK154 := n0_
 have BK155 := n1_
 have HB := n2_
 clear n0_ n1_ n2_
 refine start_ (n := 6) (S := fun w' => w'.cell? ⟨gb154, 0, none⟩ = some (.int .u32 a0_0) ∧ w'.cell? ⟨gb154, 1, none⟩ = some (.int .u32 a0_1) ∧ w'.cell? ⟨gb155, 0, none⟩ = some (.int .u32 a1_0) ∧ w'.cell? ⟨gb155, 1, none⟩ = some (.int .u32 a1_1)) (ds := []) #[false, false, false, false, false, false] (by kernel_rfl) rfl rfl ⟨(blk_cell BK154.out 0).trans rfl, (blk_cell BK154.out 1).trans rfl, (blk_cell BK155.out 0).trans rfl, (blk_cell BK155.out 1).trans rfl⟩ (fun hHeld => ?_)
 generalize w5.drew = w6 at BK154 BK155 HB hHeld ⊢
 refine tw_ 0 5 ?_
 refine tw_ 1 6 ?_
 refine tw_ 3 8 ?_
 refine on_ 2 (some 7) fun K hK => ?_
 refine goes_ Tryz.func122 (by kernel_rfl) rfl #[.agg #[.int .u32 a0_0, .int .u32 a0_1], .agg #[.int .u32 a1_0, .int .u32 a1_1]] (by rfl) rfl rfl tM ?_
 with_reducible refine (cl_Meet.calls a0_0 a0_1 a1_0 a1_1 t156 t157 _ A3.out).mono ?_
 rintro e w7 ⟨rfl, hb⟩
 refine ⟨_, rfl, ?_⟩
 have n0_ := Aside0.mk (blk_below (g := gb154) (o := .cells #[.int .u32 a0_0, .int .u32 a0_1] 113 (0, 0)) (tK BK154) hb)
 have n1_ := Aside0.mk (blk_below (g := gb155) (o := .cells #[.int .u32 a1_0, .int .u32 a1_1] 113 (0, 0)) (tK BK155) hb)
 have n2_ := Aside0.mk (below_step (by repeat (first | (with_reducible first | exact HB.out | apply below_alloc | apply pw_below_drewN | apply below_drew1 | refine below_set ?_ GE154.out | refine below_set ?_ GE155.out) | exact HB.out)) hb)
 clear BK154
 clear BK155
 clear HB
 have BK154 := n0_
 have BK155 := n1_
 have HB := n2_
 clear n0_ n1_ n2_
 (try clear hb)
 (try clear hb2)
 (try clear hk)
 (try clear hi)
 refine hK.out _ _ ⟨(blk_cell BK154.out 0).trans rfl, (blk_cell BK154.out 1).trans rfl, (blk_cell BK155.out 0).trans rfl, (blk_cell BK155.out 1).trans rfl⟩ (fun hHeld => ?_)
 clear hK K
 refine norm_ (a' := ?_) ?_ ?_
 rotate_left
 ·show Act.put _ (some 7) _ = _
  simp only [Act.put, List.setIfInBounds_toArray, List.set_cons_zero, List.set_cons_succ, i64_w, i32_w]
  rfl
 refine pw_ 4 9 ?_
 refine pw_ 5 4 ?_
 refine done_ (by kernel_rfl) ?_
 try go_wp2
 go_ret
 exact ⟨tE, by repeat (first | (with_reducible first | exact HB.out | apply below_alloc | apply pw_below_drewN | apply below_drew1 | refine below_set ?_ GE154.out | refine below_set ?_ GE155.out) | exact HB.out)⟩
def inR24 (x : S113) : Bool := decide (0 ≤ x.f0 ∧ x.f0 < 4294967296 ∧ 0 ≤ x.f1 ∧ x.f1 < 4294967296)
def toC24 (x : S113) : H.C := (UInt32.ofNat x.f0.toNat, UInt32.ofNat x.f1.toNat)
def ofC24 (c : H.C) : S113 := ⟨un c.1, un c.2⟩
theorem un_ofNat {a : Int} (h0 : 0 ≤ a) (h1 : a < 4294967296) : un (UInt32.ofNat a.toNat) = a := by
  unfold un
  rw [UInt32.toNat_ofNat', Nat.mod_eq_of_lt (by omega)]
  omega
theorem ofC_toC24 {x : S113} (h : inR24 x = true) : ofC24 (toC24 x) = x := by
  have h' := of_decide_eq_true h
  unfold ofC24 toC24
  rw [un_ofNat h'.1 h'.2.1, un_ofNat h'.2.2.1 h'.2.2.2]
theorem toC_ofC24 (c : H.C) : toC24 (ofC24 c) = c := by
  unfold ofC24 toC24 un
  simp
theorem inR_ofC24 (c : H.C) : inR24 (ofC24 c) = true := by
  have h1 := un_range c.1
  have h2 := un_range c.2
  exact decide_eq_true ⟨h1.1, h1.2, h2.1, h2.2⟩
theorem plain24 {w : World} {ad : Addr} {v : Value} (h : w.cell? (ad.add 0) = some v) : ∃ b off, ad = ⟨b, off, none⟩ := by
  obtain ⟨b, off, s⟩ := ad
  cases s with
  | none => exact ⟨b, off, rfl⟩
  | some s =>
    simp only [World.cell?, Addr.add, if_true, Option.isSome_some] at h
    split at h <;> cases h
theorem rd24 {w : World} {A : Option Addr} {l : List S113} (h : Kd.C k113 w A l.length l) (hin : l.all inR24 = true) (hlen : l.length ≤ 1000000) : Rd w A (l.map toC24) := by
  refine ⟨by rw [List.length_map]; omega, fun hp => ?_⟩
  rw [List.length_map] at hp
  obtain ⟨ad, e, h0, h1⟩ := at_T113 h 0 (by omega) (by omega)
  obtain ⟨b, off, rfl⟩ := plain24 h0
  refine ⟨b, off, e, fun j hj => ?_⟩
  rw [List.length_map] at hj
  obtain ⟨ad2, e2, g0, g1⟩ := at_T113 h (j : Int) (by omega) (by omega)
  rw [e] at e2
  obtain rfl := Option.some.inj e2
  have hx : rd_T113 l (j : Int) = l[j] := by
    unfold rd_T113
    rw [Int.toNat_natCast, List.getD_eq_getElem?_getD, List.getElem?_eq_getElem hj]
    rfl
  have hr := of_decide_eq_true (List.all_eq_true.1 hin l[j] (List.getElem_mem _))
  rw [hx, Int.toNat_natCast] at g0 g1
  have ea : (⟨b, off, none⟩ : Addr).add (j * 2) = ⟨b, off + j * 2, none⟩ := by
    unfold Addr.add
    split <;> simp_all
  rw [ea] at g0 g1
  rw [List.getElem_map]
  unfold toC24
  rw [un_ofNat hr.1 hr.2.1, un_ofNat hr.2.2.1 hr.2.2.2]
  exact ⟨g0, g1⟩
theorem own24 {w : World} {base : Nat} {v : Value} {l : List H.C} (h : Own w base v l) : Kd.R k113 113 w base (fun _ => True) v (l.map ofC24) := by
  refine ⟨fun _ _ => trivial, flat l, by rw [List.length_map]; exact h.1, by rw [List.length_map]; exact flat_length l, fun j p hp => ?_⟩
  rw [List.getElem?_map] at hp
  obtain ⟨c, hc, rfl⟩ := Option.map_eq_some_iff.1 hp
  obtain ⟨hj, rfl⟩ := List.getElem?_eq_some_iff.1 hc
  obtain ⟨g0, g1⟩ := flat_get l j hj
  have e : ((flat l).drop (j * 2)).take 2 = [.int .u32 (un l[j].1), .int .u32 (un l[j].2)] := by
    obtain ⟨h0, g0⟩ := List.getElem?_eq_some_iff.1 g0
    obtain ⟨h1, g1⟩ := List.getElem?_eq_some_iff.1 g1
    rw [List.drop_eq_getElem_cons h0, List.take_succ_cons, List.drop_eq_getElem_cons h1, List.take_succ_cons, List.take_zero, g0, g1]
  show k113.M w base _ (ofC24 l[j]) (((flat l).drop (j * 2)).take 2)
  rw [e]
  exact k113_mkM _ _ _ (ofC24 l[j])
theorem kd24 {w : World} {A : Option Addr} {l : List H.C} (h : Rd w A l) (hl : l.length ≤ 1000000) : Kd.C k113 w A (l.map ofC24).length (l.map ofC24) := by
  refine ⟨rfl, by rw [List.length_map]; omega, fun hp => ?_⟩
  rw [List.length_map] at hp
  obtain ⟨b, off, rfl, hc⟩ := h.2 hp
  refine ⟨_, rfl, fun j p hp => ?_⟩
  rw [List.getElem?_map] at hp
  obtain ⟨c, hcj, rfl⟩ := Option.map_eq_some_iff.1 hp
  obtain ⟨hj, rfl⟩ := List.getElem?_eq_some_iff.1 hcj
  refine ⟨_, rfl, k113_mk w (ofC24 l[j]), fun k u hk => ?_⟩
  obtain ⟨h0, h1⟩ := hc j hj
  have ea : ∀ n, (⟨b, off, none⟩ : Addr).add n = ⟨b, off + n, none⟩ := fun n => by
    unfold Addr.add
    split <;> simp_all
  show w.cell? ((⟨b, off, none⟩ : Addr).add (j * 2 + k)) = some u
  rw [ea]
  match k, hk with
  | 0, hk => cases hk; exact h0
  | 1, hk => cases hk; exact h1
def okL24 (l : List S113) : Prop := l.all inR24 = true ∧ l.length ≤ 1000000
instance (l : List S113) : Decidable (okL24 l) := by unfold okL24; exact inferInstance
theorem right24 (c : H.C) : cl_Right.f (un c.1) (un c.2) = some (H.ok c) := by
  have h1 : ∀ x : UInt32, ma_Right.f (un x) = some (H.r1 x) := fun x => by
    unfold ma_Right.f
    rw [un_all, un_andNot, un_zero, un_beq, r1_andNot]
  unfold cl_Right.f
  rw [h1, h1, Option.bind_some]
  unfold H.ok
  cases H.r1 c.1
  · rfl
  · rfl
theorem below24 (a b : H.C) : cl_Below.f (un a.1) (un a.2) (un b.1) (un b.2) = some (H.below a b) := by
  unfold cl_Below.f cl_Meet.f
  rw [Option.bind_some, un_or, un_or, un_beq, un_beq]
  unfold H.below H.meet
  rw [Option.some.injEq, Bool.eq_iff_iff]
  simp [Prod.ext_iff]
theorem small24 : Small where
  right c w := cl_Right.calls (un c.1) (un c.2) (H.ok c) w (right24 c)
  below a b w := cl_Below.calls (un a.1) (un a.2) (un b.1) (un b.2) (H.below a b) w (below24 a b)
def cl_Least.f (l0 : List S113) : Option (List S113 × Int) := if l0.all inR24 = true ∧ l0.length ≤ 1000000 then some ((H.least (l0.map toC24)).1.map ofC24, (H.least (l0.map toC24)).2) else none
theorem cl_Least.calls (A0 : Option Addr) (c0 : Nat) (l0 : List (S113)) (r1 : List (S113)) (r2 : Int) (w : World) (hr0 : Kd.C k113 w A0 l0.length l0) (hc0 : l0.length ≤ c0) (h : cl_Least.f l0 = some (r1, r2)) :
    Calls Tryz.prog 103 #[.slice A0 l0.length c0] w fun e w' => ∃ v0_ : Value, e = .returned (.tuple #[v0_, .int .i64 r2]) ∧ Kd.R k113 113 w' w.heap.size (fun _ => True) v0_ r1 ∧ Below w.heap.size w w' := by
 unfold cl_Least.f at h
 by_cases hr : l0.all inR24 = true ∧ l0.length ≤ 1000000
 ·rw [if_pos hr] at h
  simp only [Option.some.injEq, Prod.mk.injEq] at h
  obtain ⟨rfl, rfl⟩ := h
  have hc := cl_Least small24 A0 c0 (l0.map toC24) w (rd24 hr0 hr.1 hr.2) (by rw [List.length_map]; exact hr.2)
  rw [List.length_map] at hc
  refine hc.mono ?_
  rintro e w' ⟨v, rfl, ho, hb⟩
  exact ⟨v, rfl, own24 ho, hb⟩
 ·rw [if_neg hr] at h
  exact absurd h (by simp)
def ap_Clause.l0 : Nat → List (S113) → List (S113) → Int → Int → Option (Bool)
  | 0, _, _, _, _ => none
  | k + 1, x0, x1, x12, x13 => if x13 < x12 then (if 0 ≤ x13 then (if x13 < (x0.length : Int) then (if x13 < (x1.length : Int) then (if (!(((rd_T113 x0 x13).f0) == ((rd_T113 x1 x13).f0)) || (!(((rd_T113 x0 x13).f1) == ((rd_T113 x1 x13).f1)))) = true then (some false) else (ap_Clause.l0 k x0 x1 x12 (wrap64 (x13 + 1)))) else (none)) else (none)) else (none)) else (some true)
def ap_Clause.f (k : Nat) (l0 : List (S113)) (l1 : List (S113)) : Option (Bool) := if (l0.length : Int) = (l1.length : Int) then (ap_Clause.l0 k l0 l1 (l0.length : Int) 0) else (some false)
theorem ap_Clause.mono_l : ∀ k, (∀ y0 y1 y2 y3, LeO (ap_Clause.l0 k y0 y1 y2 y3) (ap_Clause.l0 (k + 1) y0 y1 y2 y3))
  | 0 => fun _ _ _ _ r h => by simp [ap_Clause.l0] at h
  | k + 1 => by
    have ih0 := ap_Clause.mono_l k
    · intros; unfold ap_Clause.l0; exact tMo
theorem ap_Clause.mono : ∀ a0 a1 k, LeO (ap_Clause.f k a0 a1) (ap_Clause.f (k + 1) a0 a1) := by
  intro a0 a1 k
  have ih0 := ap_Clause.mono_l k
  unfold ap_Clause.f
  exact tMo
set_option maxHeartbeats 8000000 in
set_option maxRecDepth 100000 in
theorem ap_Clause.calls (k : Nat) (A0 : Option Addr) (c0 : Nat) (l0 : List (S113)) (A1 : Option Addr) (c1 : Nat) (l1 : List (S113)) (r : Bool) (w : World) (hr0 : Kd.C k113 w A0 l0.length l0) (hc0 : l0.length ≤ c0) (hr1 : Kd.C k113 w A1 l1.length l1) (hc1 : l1.length ≤ c1) (h : ap_Clause.f k l0 l1 = some r) :
  Calls Tryz.prog 104 #[.slice A0 l0.length c0, .slice A1 l1.length c1] w fun e w' => e = .returned (.bool r) ∧ Drawn0 w w' := by
 have hu113 := Tryz.underlying113
 have HR0 := Aside0.mk hr0
 have HC0 := Aside0.mk hc0
 clear hr0 hc0
 have HR1 := Aside0.mk hr1
 have HC1 := Aside0.mk hc1
 clear hr1 hc1
 have H : (if (l0.length : Int) = (l1.length : Int) then (ap_Clause.l0 k l0 l1 (l0.length : Int) 0) else (some false)) = some r := h
 clear h
 replace H := iEk H
 rcases H with ⟨c3, c3b0, c3b1, H⟩ | ⟨c3, c3b0, c3b1, H⟩
 ·have c3b2 : (l0.length == l1.length) = true := by first | simpa using c3 | (simp at c3 ⊢; omega)
  clear c3
  have H' := Aside0.mk H
  clear H
  go_enter Tryz.func104, Tryz.ntmps104
  go_wp2
  repeat (go_quiet (fail); try go_wp2)
  go_loopg [13] k (fun kq v13 w' => ∃ (x13_1 : Int), v13 = .int .i64 x13_1 ∧ Aside0 (ap_Clause.l0 kq l0 l1 (l0.length : Int) x13_1 = some r) ∧ Aside0 (kq ≤ k) ∧ Drawn0 w w')
  case atStart => exact ⟨(0), tS, H', ⟨Nat.le_refl _⟩, tD⟩
  case round =>
   clear H'
   try clear c3
   try clear c3b0
   try clear c3b1
   try clear c3b2
   obtain ⟨x13_1, rfl, HA, HK1, ⟨m1, rfl⟩⟩ := hrel
   cases gk with
   | zero => exact absurd HA.out (by simp [ap_Clause.l0])
   | succ k1 =>
    have H := HA.out
    clear HA
    simp only [ap_Clause.l0] at H
    replace H := iD H
    rcases H with ⟨c4b0, H⟩ | ⟨c4b0, H⟩
    ·replace H := niD H
     obtain ⟨c5b0, H⟩ := H
     replace H := niD H
     obtain ⟨c6b0, H⟩ := H
     replace H := niD H
     obtain ⟨c7b0, H⟩ := H
     replace H := iC H
     rcases H with ⟨c8, H⟩ | ⟨c8, H⟩
     ·have c8b0 : (!(((rd_T113 l0 x13_1).f0) == ((rd_T113 l1 x13_1).f0)) || (!(((rd_T113 l0 x13_1).f1) == ((rd_T113 l1 x13_1).f1)))) = true := c8
      clear c8
      obtain rfl := Option.some.inj H
      have p158 : 0 ≤ (x13_1 : Int) := tA
      have q158 : x13_1 < (l0.length : Int) := tA
      obtain ⟨ad158, e158, hx158_0, hx158_1⟩ := at_T113 HR0.out x13_1 p158 q158
      cases e158
      replace p158 := eq_true p158
      replace q158 := eq_true q158
      have p159 : 0 ≤ (x13_1 : Int) := tA
      have q159 : x13_1 < (l1.length : Int) := tA
      obtain ⟨ad159, e159, hx159_0, hx159_1⟩ := at_T113 HR1.out x13_1 p159 q159
      cases e159
      replace p159 := eq_true p159
      replace q159 := eq_true q159
      go_wp2
      repeat (go_quiet (fail); try go_wp2)
      go_ret
      exact ⟨tS, tD⟩
     have c8b0 : (!(((rd_T113 l0 x13_1).f0) == ((rd_T113 l1 x13_1).f0)) || (!(((rd_T113 l0 x13_1).f1) == ((rd_T113 l1 x13_1).f1)))) = false := by simpa using c8
     clear c8
     have H' := Aside0.mk H
     clear H
     have p158 : 0 ≤ (x13_1 : Int) := tA
     have q158 : x13_1 < (l0.length : Int) := tA
     obtain ⟨ad158, e158, hx158_0, hx158_1⟩ := at_T113 HR0.out x13_1 p158 q158
     cases e158
     replace p158 := eq_true p158
     replace q158 := eq_true q158
     have p159 : 0 ≤ (x13_1 : Int) := tA
     have q159 : x13_1 < (l1.length : Int) := tA
     obtain ⟨ad159, e159, hx159_0, hx159_1⟩ := at_T113 HR1.out x13_1 p159 q159
     cases e159
     replace p159 := eq_true p159
     replace q159 := eq_true q159
     go_wp2
     repeat (go_quiet (fail); try go_wp2)
     go_roundg k1
     case measure => have := HK1.out; omega
     case rel => exact ⟨(wrap64 (x13_1 + 1)), tS, H', ⟨by have := HK1.out; omega⟩, tD⟩
    exact zz8
 have c3b2 : (l0.length == l1.length) = false := by first | simpa using c3 | (simp at c3 ⊢; omega)
 obtain rfl := Option.some.inj H
 go_enter Tryz.func104, Tryz.ntmps104
 go_wp2
 repeat (go_quiet (fail); try go_wp2)
 go_ret
 exact ⟨tS, tD⟩
def fo_Right.f (k : Nat) (l0 : List (S113)) : Option (Bool) := (cl_Least.f l0).bind fun bt160 => (if bt160.2 = 0 then ((ap_Clause.f k bt160.1 l0).bind fun t164 => (some t164)) else (some false))
theorem fo_Right.mono : ∀ a0 k, LeO (fo_Right.f k a0) (fo_Right.f (k + 1) a0) := by
  intro a0 k
  unfold fo_Right.f
  have m0_ := @ap_Clause.mono
  exact tMo
set_option maxHeartbeats 8000000 in
set_option maxRecDepth 100000 in
theorem fo_Right.calls (k : Nat) (A0 : Option Addr) (c0 : Nat) (l0 : List (S113)) (r : Bool) (w : World) (hr0 : Kd.C k113 w A0 l0.length l0) (hc0 : l0.length ≤ c0) (h : fo_Right.f k l0 = some r) :
  Calls Tryz.prog 87 #[.slice A0 l0.length c0] w fun e w' => e = .returned (.bool r) ∧ Below w.heap.size w w' := by
 have HR0 := Aside0.mk hr0
 have HC0 := Aside0.mk hc0
 clear hr0 hc0
 have HB := Aside0.mk (Below.refl w.heap.size w)
 have H : ((cl_Least.f l0).bind fun bt160 => (if bt160.2 = 0 then ((ap_Clause.f k bt160.1 l0).bind fun t164 => (some t164)) else (some false))) = some r := h
 clear h
 replace H := iX H
 obtain ⟨⟨t160, t161⟩, A2, H⟩ := H
 try dsimp only at H
 replace H := iE H
 rcases H with ⟨c3b0, c3b1, H⟩ | ⟨c3, c3b0, c3b1, H⟩
 ·replace H := iX H
  obtain ⟨t164, A4, H⟩ := H
  obtain rfl := Option.some.inj H
  go_enter Tryz.func87, Tryz.ntmps87
  go_wp2_with (first | ((with_reducible refine gf_ 103 rfl ?_); refine gC_ (some 7) Tryz.func103 #[.slice A0 l0.length c0] ?_; (with_reducible refine (cl_Least.calls _ _ l0 t160 t161 _ ?side1 ?side2 A2.out).mono ?_); (case side1 => repeat (first | exact HR0.out | (with_reducible refine Kd.C_alloc ?_ _) | (with_reducible refine Kd.C_drewN ?_ _) | (with_reducible refine Kd.C_drew ?_))); (case side2 => exact HC0.out); rintro e w5 ⟨v162, rfl, ho0, hb⟩; refine ⟨_, rfl, ?_⟩; have HO163 := Aside0.mk (Kd.R_lower ho0 (below_size tB)); replace HB := Aside0.mk (below_step tB hb); (try clear hb); (try clear ho0); obtain ⟨Aoh163, coh163, eoh163⟩ := Kd.R_slice HO163.out; subst eoh163) | (go_at_call 104; (with_reducible refine (ap_Clause.calls k _ _ t160 _ _ l0 t164 _ ?side1 ?side2 ?side3 ?side4 A4.out).mono ?_); (case side1 => exact tCr HO163); (case side2 => exact (Kd.R_reads' HO163.out).2.1); (case side3 => exact tCb HR0 HB); (case side4 => exact HC0.out); rintro e w' ⟨rfl, ⟨nd, rfl⟩⟩))
  go_ret
  exact ⟨tE, tB⟩
 obtain rfl := Option.some.inj H
 go_enter Tryz.func87, Tryz.ntmps87
 go_wp2_with (first | ((with_reducible refine gf_ 103 rfl ?_); refine gC_ (some 7) Tryz.func103 #[.slice A0 l0.length c0] ?_; (with_reducible refine (cl_Least.calls _ _ l0 t160 t161 _ ?side1 ?side2 A2.out).mono ?_); (case side1 => repeat (first | exact HR0.out | (with_reducible refine Kd.C_alloc ?_ _) | (with_reducible refine Kd.C_drewN ?_ _) | (with_reducible refine Kd.C_drew ?_))); (case side2 => exact HC0.out); rintro e w7 ⟨v162, rfl, ho0, hb⟩; refine ⟨_, rfl, ?_⟩; have HO163 := Aside0.mk (Kd.R_lower ho0 (below_size tB)); replace HB := Aside0.mk (below_step tB hb); (try clear hb); (try clear ho0)))
 go_ret
 exact ⟨tE, tB⟩
def cl_Clash.f (a0_0 : Int) (a0_1 : Int) : Option (Bool) := some ((Go.bits .and .u32 a0_0 a0_1) != 0)
set_option maxHeartbeats 8000000 in
set_option maxRecDepth 100000 in
theorem cl_Clash.calls (a0_0 : Int) (a0_1 : Int) (r : Bool) (w : World) (h : cl_Clash.f a0_0 a0_1 = some r) :
  Calls Tryz.prog 106 #[.agg #[.int .u32 a0_0, .int .u32 a0_1]] w fun e w' => e = .returned (.bool r) ∧ Below w.heap.size w w' := by
 have hu113 := Tryz.underlying113
 have HB := Aside0.mk (Below.refl w.heap.size w)
 have H : (some ((Go.bits .and .u32 a0_0 a0_1) != 0)) = some r := h
 clear h
 obtain rfl := Option.some.inj H
 go_enter Tryz.func106, Tryz.ntmps106
 go_wp2_with (first | ((with_reducible refine gd_ 1 rfl ?_); refine boxE 1 #[.int .u32 a0_0, .int .u32 a0_1] 113 ?_; intro gb165 hg w2 hbox hb; have BK165 := Aside0.mk (hbox); have GW165 := Aside0.mk (tG : w.heap.size ≤ gb165); have GE165 := Aside0.mk (tG : w.heap.size ≤ gb165); replace HB := Aside0.mk (below_step tB hb); clear hb hbox hg; have hcz3 := cz2 BK165.out))
 go_ret
 exact ⟨tE, by repeat (first | (with_reducible first | exact HB.out | apply below_alloc | apply pw_below_drewN | apply below_drew1 | refine below_set ?_ GE165.out) | exact HB.out)⟩
theorem clash24 (c : H.C) : cl_Clash.f (un c.1) (un c.2) = some (H.clash c) := by
  unfold cl_Clash.f
  rw [un_and, Option.some.injEq, un_zero, Bool.eq_iff_iff]
  unfold H.clash
  simp [un_inj]
theorem meetx24 (a b : H.C) : cl_Meet.f (un a.1) (un a.2) (un b.1) (un b.2) = some (un (H.meet a b).1, un (H.meet a b).2) := by
  unfold cl_Meet.f
  rw [un_or, un_or]
  rfl
theorem equal_l0 (a b : List H.C) (hab : a.length = b.length) (hl : a.length ≤ 1000000) : ∀ (d k i : Nat), i + d = a.length → d < k → a.take i = b.take i → ap_Clause.l0 k (a.map ofC24) (b.map ofC24) (a.length : Int) (i : Int) = some (decide (a = b))
  | d, 0, _, _, hk, _ => absurd hk (by omega)
  | 0, k + 1, i, hi, _, ht => by
    have e : a = b := by rw [← List.take_of_length_le (l := a) (i := i) (by omega), ht, List.take_of_length_le (by omega)]
    rw [ap_Clause.l0, if_neg (by omega), decide_eq_true e]
  | d + 1, k + 1, i, hi, hk, ht => by
    have hia : i < a.length := by omega
    have hib : i < b.length := by omega
    have e2 : wrap64 ((i : Int) + 1) = ((i + 1 : Nat) : Int) := by
      unfold wrap64
      omega
    have r : ∀ (l : List H.C) (h : i < l.length), rd_T113 (l.map ofC24) (i : Int) = ofC24 l[i] := fun l h => by
      unfold rd_T113
      rw [Int.toNat_natCast, List.getD_eq_getElem?_getD, List.getElem?_map, List.getElem?_eq_getElem h]
      rfl
    rw [ap_Clause.l0, if_pos (by omega), if_pos (by omega), if_pos (by rw [List.length_map]; omega), if_pos (by rw [List.length_map]; omega), r a hia, r b hib]
    have hq : (!((ofC24 a[i]).f0 == (ofC24 b[i]).f0) || !((ofC24 a[i]).f1 == (ofC24 b[i]).f1)) = !decide (a[i] = b[i]) := by
      unfold ofC24
      rw [un_beq, un_beq, Bool.eq_iff_iff]
      simp [Prod.ext_iff]
    rw [hq, e2]
    by_cases hc : a[i] = b[i]
    · rw [if_neg (by simp [hc])]
      refine equal_l0 a b hab hl d k (i + 1) (by omega) (by omega) ?_
      rw [List.take_succ_eq_append_getElem hia, List.take_succ_eq_append_getElem hib, ht, hc]
    · rw [if_pos (by simp [hc]), decide_eq_false (fun e => hc (by subst e; rfl))]
theorem equal24 (a b : List H.C) (k : Nat) (hl : a.length ≤ 1000000) (hk : a.length < k) : ap_Clause.f k (a.map ofC24) (b.map ofC24) = some (decide (a = b)) := by
  unfold ap_Clause.f
  rw [List.length_map, List.length_map]
  by_cases h : a.length = b.length
  · rw [if_pos (by omega)]
    exact equal_l0 a b h hl a.length k 0 (by omega) hk rfl
  · rw [if_neg (by omega), decide_eq_false (fun e => h (by rw [e]))]
theorem leastx24 (l : List H.C) (h : l.length ≤ 1000000) : cl_Least.f (l.map ofC24) = some ((H.least l).1.map ofC24, (H.least l).2) := by
  unfold cl_Least.f
  have h2 : (l.map ofC24).map toC24 = l := by
    rw [List.map_map]
    refine (List.map_congr_left (g := id) fun c _ => ?_).trans (List.map_id _)
    rw [Function.comp_apply, toC_ofC24]
    rfl
  rw [if_pos ⟨by rw [List.all_map, List.all_eq_true]; intro c _; rw [Function.comp_apply, inR_ofC24], by rw [List.length_map]; exact h⟩, h2]
theorem least_len24 (l : List H.C) : (H.least l).1.length ≤ 64 := by
  rcases H.least_cases l with ⟨_, e⟩ | ⟨_, _, e⟩ | ⟨_, h, e⟩
  · rw [e]; simp
  · rw [e]; simp
  · rw [e]
    show (H.sortC (H.keep l)).length ≤ 64
    rw [H.length_sortC]
    exact h
theorem fright24 (l : List H.C) (k : Nat) (h : l.length ≤ 1000000) (hk : 64 < k) : fo_Right.f k (l.map ofC24) = some (H.right l) := by
  have := least_len24 l
  unfold fo_Right.f H.right
  rw [leastx24 l h, Option.bind_some]
  by_cases he : (H.least l).2 = 0
  · rw [if_pos he, equal24 _ _ k (by omega) (by omega), Option.bind_some, decide_eq_true he, Bool.true_and]
  · rw [if_neg he, decide_eq_false he, Bool.false_and]
theorem smallF24 : SmallF where
  toSmall := small24
  clash c w := cl_Clash.calls (un c.1) (un c.2) (H.clash c) w (clash24 c)
  meet a b w := cl_Meet.calls (un a.1) (un a.2) (un b.1) (un b.2) _ _ w (meetx24 a b)
  fright A cap l w hR hc hl := by
    have h := fo_Right.calls 65 A cap (l.map ofC24) (H.right l) w (kd24 hR hl) (by rw [List.length_map]; exact hc) (fright24 l 65 hl (by omega))
    rw [List.length_map] at h
    exact h
def fa_Right.f (l0 : List S113) : Option Bool := if okL24 l0 then some (faceR (l0.map toC24)) else none
theorem fa_Right.calls (A0 : Option Addr) (c0 : Nat) (l0 : List (S113)) (r : Bool) (w : World) (hr0 : Kd.C k113 w A0 l0.length l0) (hc0 : l0.length ≤ c0) (h : fa_Right.f l0 = some r) :
    Calls Tryz.prog 88 #[.slice A0 l0.length c0] w fun e w' => e = .returned (.bool r) ∧ Below w.heap.size w w' := by
 unfold fa_Right.f at h
 by_cases hr : okL24 l0
 ·rw [if_pos hr] at h
  obtain rfl := Option.some.inj h
  have hc := fa_Right smallF24 A0 c0 (l0.map toC24) w (rd24 hr0 hr.1 hr.2) (by rw [List.length_map]; exact hc0) (by rw [List.length_map]; exact hr.2)
  rw [List.length_map] at hc
  exact hc
 ·rw [if_neg hr] at h
  exact absurd h (by simp)
end
end Go.Proofs.YtahdjajdaggmjaaGreatDoor.XPa
end
section
namespace Go.Proofs.YtahdjajdaggmjaaGreatDoor.XPa
noncomputable section
open Go.RowKit Go.Proofs.YtahdjajdaggmjaaGreatDoorW.PrintWords Go.Proofs.YtahdjajdaggmjaaGreatDoorW.PrintLast Go.Proofs.YtahdjajdaggmjaaGreatDoorW.PrintMore
attribute [local go_sem] max2_int min2_int max_two min_two max_three min_three max_four min_four
set_option linter.unusedVariables false
set_option linter.unusedSimpArgs false
def te_name.l0 : Nat → ByteArray → Int → Int → Option (Bool)
  | 0, _, _, _ => none
  | k + 1, x0, x7, x8 => if x8 < x7 then (if 0 ≤ x8 then (if x8 < (x0.size : Int) then (if (bt x0 x8) ≥ 97 then (if (bt x0 x8) ≤ 122 then (te_name.l0 k x0 x7 (wrap64 (x8 + 1))) else (if (bt x0 x8) ≥ 65 then (if (bt x0 x8) ≤ 90 then (te_name.l0 k x0 x7 (wrap64 (x8 + 1))) else (if ((bt x0 x8) = 95) then (te_name.l0 k x0 x7 (wrap64 (x8 + 1))) else (if x8 = 0 then (some false) else (if (bt x0 x8) < 48 then (some false) else (if (bt x0 x8) > 57 then (some false) else (te_name.l0 k x0 x7 (wrap64 (x8 + 1)))))))) else (if ((bt x0 x8) = 95) then (te_name.l0 k x0 x7 (wrap64 (x8 + 1))) else (if x8 = 0 then (some false) else (if (bt x0 x8) < 48 then (some false) else (if (bt x0 x8) > 57 then (some false) else (te_name.l0 k x0 x7 (wrap64 (x8 + 1))))))))) else (if (bt x0 x8) ≥ 65 then (if (bt x0 x8) ≤ 90 then (te_name.l0 k x0 x7 (wrap64 (x8 + 1))) else (if ((bt x0 x8) = 95) then (te_name.l0 k x0 x7 (wrap64 (x8 + 1))) else (if x8 = 0 then (some false) else (if (bt x0 x8) < 48 then (some false) else (if (bt x0 x8) > 57 then (some false) else (te_name.l0 k x0 x7 (wrap64 (x8 + 1)))))))) else (if ((bt x0 x8) = 95) then (te_name.l0 k x0 x7 (wrap64 (x8 + 1))) else (if x8 = 0 then (some false) else (if (bt x0 x8) < 48 then (some false) else (if (bt x0 x8) > 57 then (some false) else (te_name.l0 k x0 x7 (wrap64 (x8 + 1))))))))) else (none)) else (none)) else (some (x0.toList != ([] : List UInt8)))
def te_name.f (k : Nat) (a0 : ByteArray) : Option (Bool) := te_name.l0 k a0 (a0.size : Int) 0
theorem te_name.mono_l : ∀ k, (∀ y0 y1 y2, LeO (te_name.l0 k y0 y1 y2) (te_name.l0 (k + 1) y0 y1 y2))
  | 0 => fun _ _ _ r h => by simp [te_name.l0] at h
  | k + 1 => by
    have ih0 := te_name.mono_l k
    · intros; unfold te_name.l0; exact tMo
theorem te_name.mono : ∀ a0 k, LeO (te_name.f k a0) (te_name.f (k + 1) a0) := by
  intro a0 k
  have ih0 := te_name.mono_l k
  unfold te_name.f
  exact tMo
set_option maxHeartbeats 8000000 in
set_option maxRecDepth 100000 in
theorem te_name.calls (k : Nat) (a0 : ByteArray) (r : Bool) (w : World) (h : te_name.f k a0 = some r) :
  Calls Tryz.prog 95 #[.string a0] w fun e w' => e = .returned (.bool r) ∧ Drawn0 w w' := by
 have H : (te_name.l0 k a0 (a0.size : Int) 0) = some r := h
 clear h
 have H' := Aside0.mk H
 clear H
 go_enter Tryz.func95, Tryz.ntmps95
 go_wp2
 go_loopg [8] k (fun kq v8 w' => ∃ (x8_1 : Int), v8 = .int .i64 x8_1 ∧ Aside0 (te_name.l0 kq a0 (a0.size : Int) x8_1 = some r) ∧ Aside0 (kq ≤ k) ∧ Drawn0 w w')
 case atStart => exact ⟨(0), tZ, H', ⟨Nat.le_refl _⟩, tD⟩
 case round =>
  clear H'
  obtain ⟨x8_1, rfl, HA, HK1, ⟨m1, rfl⟩⟩ := hrel
  cases gk with
  | zero => exact absurd HA.out (by simp [te_name.l0])
  | succ k1 =>
   have H := HA.out
   clear HA
   simp only [te_name.l0] at H
   replace H := iD H
   rcases H with ⟨c2b0, H⟩ | ⟨c2b0, H⟩
   ·replace H := niD H
    obtain ⟨c3b0, H⟩ := H
    replace H := niD H
    obtain ⟨c4b0, H⟩ := H
    replace H := iG H
    rcases H with ⟨c6b0, H⟩ | ⟨c6b0, H⟩
    ·replace H := iD H
     rcases H with ⟨c7b0, H⟩ | ⟨c7b0, H⟩
     ·exact zz20
     replace H := iG H
     rcases H with ⟨c8b0, H⟩ | ⟨c8b0, H⟩
     ·replace H := iD H
      rcases H with ⟨c9b0, H⟩ | ⟨c9b0, H⟩
      ·exact zz20
      replace H := iE H
      rcases H with ⟨c10b0, c10b1, H⟩ | ⟨c10, c10b0, c10b1, H⟩
      ·exact zz20
      replace H := iE H
      rcases H with ⟨c11b0, c11b1, H⟩ | ⟨c11, c11b0, c11b1, H⟩
      ·exact zz21
      replace H := iD H
      rcases H with ⟨c12b0, H⟩ | ⟨c12b0, H⟩
      ·exact zz21
      replace H := iH H
      rcases H with ⟨c13b0, H⟩ | ⟨c13b0, H⟩
      ·exact zz21
      exact zz20
     replace H := iE H
     rcases H with ⟨c14b0, c14b1, H⟩ | ⟨c14, c14b0, c14b1, H⟩
     ·exact zz20
     replace H := iE H
     rcases H with ⟨c15b0, c15b1, H⟩ | ⟨c15, c15b0, c15b1, H⟩
     ·exact zz21
     replace H := iD H
     rcases H with ⟨c16b0, H⟩ | ⟨c16b0, H⟩
     ·exact zz21
     replace H := iH H
     rcases H with ⟨c17b0, H⟩ | ⟨c17b0, H⟩
     ·exact zz21
     exact zz20
    replace H := iG H
    rcases H with ⟨c18b0, H⟩ | ⟨c18b0, H⟩
    ·replace H := iD H
     rcases H with ⟨c19b0, H⟩ | ⟨c19b0, H⟩
     ·exact zz20
     replace H := iE H
     rcases H with ⟨c20b0, c20b1, H⟩ | ⟨c20, c20b0, c20b1, H⟩
     ·exact zz20
     replace H := iE H
     rcases H with ⟨c21b0, c21b1, H⟩ | ⟨c21, c21b0, c21b1, H⟩
     ·exact zz21
     replace H := iD H
     rcases H with ⟨c22b0, H⟩ | ⟨c22b0, H⟩
     ·exact zz21
     replace H := iH H
     rcases H with ⟨c23b0, H⟩ | ⟨c23b0, H⟩
     ·exact zz21
     exact zz20
    replace H := iE H
    rcases H with ⟨c24b0, c24b1, H⟩ | ⟨c24, c24b0, c24b1, H⟩
    ·exact zz20
    replace H := iE H
    rcases H with ⟨c25b0, c25b1, H⟩ | ⟨c25, c25b0, c25b1, H⟩
    ·exact zz21
    replace H := iD H
    rcases H with ⟨c26b0, H⟩ | ⟨c26b0, H⟩
    ·exact zz21
    replace H := iH H
    rcases H with ⟨c27b0, H⟩ | ⟨c27b0, H⟩
    ·exact zz21
    exact zz20
   obtain rfl := Option.some.inj H
   go_wp2
   go_ret
   exact ⟨tZ, tD⟩
def ma_dimens.f (a0 : Int) : Option (Bool) := if a0 ≥ 0 then (some (decide (a0 < 24))) else (some false)
set_option maxHeartbeats 8000000 in
set_option maxRecDepth 100000 in
theorem ma_dimens.calls (a0 : Int) (r : Bool) (w : World) (h : ma_dimens.f a0 = some r) :
  Calls Tryz.prog 126 #[.int .i64 a0] w fun e w' => e = .returned (.bool r) ∧ Drawn0 w w' := by
 have H : (if a0 ≥ 0 then (some (decide (a0 < 24))) else (some false)) = some r := h
 clear h
 replace H := iG H
 rcases H with ⟨c2b0, H⟩ | ⟨c2b0, H⟩
 ·obtain rfl := Option.some.inj H
  go_enter Tryz.func126, Tryz.ntmps126
  exact zz0
 obtain rfl := Option.some.inj H
 go_enter Tryz.func126, Tryz.ntmps126
 exact zz0
def ma_Withou.f (a0 : Int) (a1 : Int) : Option (Int) := (ma_dimens.f a1).bind fun t166 => (if t166 = true then (if 0 ≤ (IntKind.u64.wrap (a1)) then (some (Go.bits .andNot .u32 (Go.bits .and .u32 a0 16777215) (shl .u32 1 (IntKind.u64.wrap (a1))))) else (none)) else (some (Go.bits .and .u32 a0 16777215)))
set_option maxHeartbeats 8000000 in
set_option maxRecDepth 100000 in
theorem ma_Withou.calls (a0 : Int) (a1 : Int) (r : Int) (w : World) (h : ma_Withou.f a0 a1 = some r) :
  Calls Tryz.prog 120 #[.int .u32 a0, .int .i64 a1] w fun e w' => e = .returned (.int .u32 r) ∧ Drawn0 w w' := by
 have H : ((ma_dimens.f a1).bind fun t166 => (if t166 = true then (if 0 ≤ (IntKind.u64.wrap (a1)) then (some (Go.bits .andNot .u32 (Go.bits .and .u32 a0 16777215) (shl .u32 1 (IntKind.u64.wrap (a1))))) else (none)) else (some (Go.bits .and .u32 a0 16777215)))) = some r := h
 clear h
 replace H := iX H
 obtain ⟨t166, A3, H⟩ := H
 replace H := iB H
 rcases H with ⟨rfl, H⟩ | ⟨rfl, H⟩
 ·obtain ⟨ji5, hji5⟩ : ∃ j_ : Int, (IntKind.u64.wrap (a1)) = j_ := ⟨_, rfl⟩
  replace H : (if 0 ≤ (ji5) then (some (Go.bits .andNot .u32 (Go.bits .and .u32 a0 16777215) (shl .u32 1 (ji5)))) else (none)) = some r := by first | (rw [hji5] at H; exact H) | (simp only [hji5] at H ⊢; exact H)
  (try rw [hji5] at A3)
  replace H := niT H
  obtain ⟨c6b0, c6b1, H⟩ := H
  obtain ⟨ji7, hji7⟩ : ∃ j_ : Int, (shl .u32 1 (ji5)) = j_ := ⟨_, rfl⟩
  replace H : (some (Go.bits .andNot .u32 (Go.bits .and .u32 a0 16777215) (ji7))) = some r := by first | (rw [hji7] at H; exact H) | (simp only [hji7] at H ⊢; exact H)
  (try rw [hji7] at A3)
  have hji7_ : (IntKind.u32.wrap (1 * 2 ^ min (ji5).toNat 32)) = ji7 := hji7
  have hji7z : (ji5) ≤ 32 → (IntKind.u32.wrap (1 * 2 ^ (ji5).toNat)) = ji7 := shl_small hji7
  have hji7u : (IntKind.u32.wrap (2 ^ min (ji5).toNat 32)) = ji7 := by have h_ := hji7_; rw [Int.one_mul] at h_; exact h_
  have hji7v : (ji5) ≤ 32 → (IntKind.u32.wrap (2 ^ (ji5).toNat)) = ji7 := fun hle_ => by have h_ := hji7z hle_; rw [Int.one_mul] at h_; exact h_
  obtain rfl := Option.some.inj H
  go_enter Tryz.func120, Tryz.ntmps120
  go_wp2_with (first | ((with_reducible refine gf_ 126 rfl ?_); refine gC_ (some 8) Tryz.func126 #[.int .i64 a1] ?_; (with_reducible refine (ma_dimens.calls a1 true _ A3.out).mono ?_); rintro e w' ⟨rfl, ⟨nd, rfl⟩⟩; refine ⟨_, rfl, ?_⟩))
  go_ret
  exact ⟨by first | rfl | (simp; done) | (simp only [← hji5, ← hji7] <;> (first | rfl | simp)) | (simp [*]; done), tD⟩
 obtain rfl := Option.some.inj H
 go_enter Tryz.func120, Tryz.ntmps120
 go_wp2_with (first | ((with_reducible refine gf_ 126 rfl ?_); refine gC_ (some 8) Tryz.func126 #[.int .i64 a1] ?_; (with_reducible refine (ma_dimens.calls a1 false _ A3.out).mono ?_); rintro e w' ⟨rfl, ⟨nd, rfl⟩⟩; refine ⟨_, rfl, ?_⟩))
 go_ret
 exact ⟨tS, tD⟩
def fo_Dims.l0 : Nat → Int → List (S113) → Int → Int → Option (Int)
  | 0, _, _, _, _ => none
  | k + 1, x3, x6, x7, x8 => if x8 < x7 then (if 0 ≤ x8 then (if x8 < (x6.length : Int) then (fo_Dims.l0 k (Go.bits .or .u32 x3 (Go.bits .or .u32 ((rd_T113 x6 x8).f0) ((rd_T113 x6 x8).f1))) x6 x7 (wrap64 (x8 + 1))) else (none)) else (none)) else ((ma_Withou.f x3 (-1)).bind fun t169 => (some t169))
def fo_Dims.f (k : Nat) (l0 : List (S113)) : Option (Int) := fo_Dims.l0 k 0 l0 (l0.length : Int) 0
theorem fo_Dims.mono_l : ∀ k, (∀ y0 y1 y2 y3, LeO (fo_Dims.l0 k y0 y1 y2 y3) (fo_Dims.l0 (k + 1) y0 y1 y2 y3))
  | 0 => fun _ _ _ _ r h => by simp [fo_Dims.l0] at h
  | k + 1 => by
    have ih0 := fo_Dims.mono_l k
    · intros; unfold fo_Dims.l0; exact tMo
theorem fo_Dims.mono : ∀ a0 k, LeO (fo_Dims.f k a0) (fo_Dims.f (k + 1) a0) := by
  intro a0 k
  have ih0 := fo_Dims.mono_l k
  unfold fo_Dims.f
  exact tMo
set_option maxHeartbeats 8000000 in
set_option maxRecDepth 100000 in
theorem fo_Dims.calls (k : Nat) (A0 : Option Addr) (c0 : Nat) (l0 : List (S113)) (r : Int) (w : World) (hr0 : Kd.C k113 w A0 l0.length l0) (hc0 : l0.length ≤ c0) (h : fo_Dims.f k l0 = some r) :
  Calls Tryz.prog 109 #[.slice A0 l0.length c0] w fun e w' => e = .returned (.int .u32 r) ∧ Below w.heap.size w w' := by
 have hu113 := Tryz.underlying113
 have HR0 := Aside0.mk hr0
 have HC0 := Aside0.mk hc0
 clear hr0 hc0
 have HB := Aside0.mk (Below.refl w.heap.size w)
 have H : (fo_Dims.l0 k 0 l0 (l0.length : Int) 0) = some r := h
 clear h
 have H' := Aside0.mk H
 clear H
 go_enter Tryz.func109, Tryz.ntmps109
 go_wp2
 go_loopg [3, 8] k (fun kq v3 v8 w' => ∃ (x3_1 : Int) (x8_1 : Int), v3 = .int .u32 x3_1 ∧ v8 = .int .i64 x8_1 ∧ Aside0 (fo_Dims.l0 kq x3_1 l0 (l0.length : Int) x8_1 = some r) ∧ Aside0 (kq ≤ k) ∧ Aside0 (Below w.heap.size w w'))
 case atStart => exact ⟨(0), (0), tS, tS, H', ⟨Nat.le_refl _⟩, ⟨tB⟩⟩
 case round =>
  clear H'
  obtain ⟨x3_1, x8_1, rfl, rfl, HA, HK1, HB⟩ := hrel
  cases gk with
  | zero => exact absurd HA.out (by simp [fo_Dims.l0])
  | succ k1 =>
   have H := HA.out
   clear HA
   simp only [fo_Dims.l0] at H
   replace H := iD H
   rcases H with ⟨c2b0, H⟩ | ⟨c2b0, H⟩
   ·replace H := niD H
    obtain ⟨c3b0, H⟩ := H
    replace H := niD H
    obtain ⟨c4b0, H⟩ := H
    have H' := Aside0.mk H
    clear H
    obtain ⟨p167, q167, ad167, rfl, hx167_0, hx167_1⟩ := at_B113 HR0 HB x8_1
    go_wp2_with (first | ((with_reducible refine gd_ 5 rfl ?_); refine boxE 5 #[.int .u32 0, .int .u32 0] 113 ?_; intro gb168 hg w5 hbox hb; have BK168 := Aside0.mk (hbox); have GW168 := Aside0.mk (tG : w.heap.size ≤ gb168); have GE168 := Aside0.mk (tG : w.heap.size ≤ gb168); replace HB := Aside0.mk (below_step tB hb); clear hb hbox hg; have hcz6 := cz2 BK168.out))
    go_roundg k1
    case measure => have := HK1.out; omega
    case rel => exact ⟨(Go.bits .or .u32 x3_1 (Go.bits .or .u32 ((rd_T113 l0 x8_1).f0) ((rd_T113 l0 x8_1).f1))), (wrap64 (x8_1 + 1)), tS, tS, H', ⟨by have := HK1.out; omega⟩, ⟨tBs GE168⟩⟩
   replace H := iX H
   obtain ⟨t169, A7, H⟩ := H
   obtain rfl := Option.some.inj H
   go_wp2_with (first | ((with_reducible refine gf_ 120 rfl ?_); refine gC_ (some 21) Tryz.func120 #[.int .u32 x3_1, .int .i64 (-1)] ?_; (with_reducible refine (ma_Withou.calls x3_1 (-1) t169 _ A7.out).mono ?_); rintro e w' ⟨rfl, ⟨nd, rfl⟩⟩; refine ⟨_, rfl, ?_⟩))
   go_ret
   exact ⟨tE, tB⟩
def te_within.f (k : Nat) (l0 : List (S113)) (a1 : Int) : Option (Bool) := if a1 ≥ 24 then (some true) else ((fo_Dims.f k l0).bind fun t170 => (if 0 ≤ (IntKind.u64.wrap (a1)) then (some ((shr .u32 t170 (IntKind.u64.wrap (a1))) == 0)) else (none)))
theorem te_within.mono : ∀ a0 a1 k, LeO (te_within.f k a0 a1) (te_within.f (k + 1) a0 a1) := by
  intro a0 a1 k
  unfold te_within.f
  have m0_ := @fo_Dims.mono
  exact tMo
set_option maxHeartbeats 8000000 in
set_option maxRecDepth 100000 in
theorem te_within.calls (k : Nat) (A0 : Option Addr) (c0 : Nat) (l0 : List (S113)) (a1 : Int) (r : Bool) (w : World) (hr0 : Kd.C k113 w A0 l0.length l0) (hc0 : l0.length ≤ c0) (h : te_within.f k l0 a1 = some r) :
  Calls Tryz.prog 96 #[.slice A0 l0.length c0, .int .i64 a1] w fun e w' => e = .returned (.bool r) ∧ Below w.heap.size w w' := by
 have HR0 := Aside0.mk hr0
 have HC0 := Aside0.mk hc0
 clear hr0 hc0
 have HB := Aside0.mk (Below.refl w.heap.size w)
 have H : (if a1 ≥ 24 then (some true) else ((fo_Dims.f k l0).bind fun t170 => (if 0 ≤ (IntKind.u64.wrap (a1)) then (some ((shr .u32 t170 (IntKind.u64.wrap (a1))) == 0)) else (none)))) = some r := h
 clear h
 replace H := iG H
 rcases H with ⟨c3b0, H⟩ | ⟨c3b0, H⟩
 ·obtain rfl := Option.some.inj H
  go_enter Tryz.func96, Tryz.ntmps96
  go_wp2
  go_ret
  exact ⟨tE, tB⟩
 replace H := iX H
 obtain ⟨t170, A4, H⟩ := H
 obtain ⟨ji5, hji5⟩ : ∃ j_ : Int, (IntKind.u64.wrap (a1)) = j_ := ⟨_, rfl⟩
 replace H : (if 0 ≤ (ji5) then (some ((shr .u32 t170 (ji5)) == 0)) else (none)) = some r := by first | (rw [hji5] at H; exact H) | (simp only [hji5] at H ⊢; exact H)
 (try rw [hji5] at A4)
 replace H := niT H
 obtain ⟨c6b0, c6b1, H⟩ := H
 obtain ⟨ji7, hji7⟩ : ∃ j_ : Int, (shr .u32 t170 (ji5)) = j_ := ⟨_, rfl⟩
 replace H : (some ((ji7) == 0)) = some r := by first | (rw [hji7] at H; exact H) | (simp only [hji7] at H ⊢; exact H)
 (try rw [hji7] at A4)
 have hji7_ : (t170 / 2 ^ min (ji5).toNat 32) = ji7 := hji7
 have hji7z : (ji5) ≤ 32 → (t170 / 2 ^ (ji5).toNat) = ji7 := shr_small hji7
 obtain rfl := Option.some.inj H
 go_enter Tryz.func96, Tryz.ntmps96
 go_wp2_with (first | (go_at_call 109; (with_reducible refine (fo_Dims.calls k _ _ l0 t170 _ ?side1 ?side2 A4.out).mono ?_); (case side1 => repeat (first | exact HR0.out | (with_reducible refine Kd.C_alloc ?_ _) | (with_reducible refine Kd.C_drewN ?_ _) | (with_reducible refine Kd.C_drew ?_))); (case side2 => exact HC0.out); rintro e w8 ⟨rfl, hb⟩; replace HB := Aside0.mk (below_step tB hb); (try clear hb)))
 go_ret
 exact ⟨by first | rfl | (simp [errW_none, errW_some] <;> rfl) | (simp only [← hji5, ← hji7]; first | rfl | (simp [errW_none, errW_some] <;> rfl)) | (simp [*, errW_none, errW_some] <;> rfl), tB⟩
def hasO {α : Type} (F : Nat → Option α) : Prop := ∃ k r, F k = some r
noncomputable def valO {α : Type} (d : α) (F : Nat → Option α) : α := @dite _ (hasO F) (Classical.propDecidable _) (fun h => Classical.choose (Classical.choose_spec h)) (fun _ => d)
theorem valO_has {α : Type} {d : α} {F : Nat → Option α} (h : hasO F) : ∃ k, F k = some (valO d F) := by
  unfold valO
  rw [dif_pos h]
  exact ⟨_, Classical.choose_spec (Classical.choose_spec h)⟩
theorem leO_up {α : Type} {F : Nat → Option α} (hm : ∀ k, LeO (F k) (F (k + 1))) (k : Nat) : ∀ j, LeO (F k) (F (k + j)) := by
  intro j
  induction j with
  | zero => exact LeO.refl _
  | succ j ih => exact fun r hr => hm (k + j) r (ih r hr)
theorem valO_some {α : Type} {d : α} {F : Nat → Option α} (_ : ∀ k, LeO (F k) (F (k + 1))) (h : hasO F) : ∃ k, F k = some (valO d F) := valO_has h
theorem valO_eq {α : Type} {d : α} {F : Nat → Option α} (hm : ∀ k, LeO (F k) (F (k + 1))) {k : Nat} {r : α} (h : F k = some r) : valO d F = r := by
  obtain ⟨k2, h2⟩ := valO_has (d := d) ⟨k, r, h⟩
  have h3 := leO_up hm k k2 _ h
  have h4 := leO_up hm k2 k _ h2
  rw [Nat.add_comm] at h4
  exact Option.some.inj (h4.symm.trans h3)
theorem kidsx (a : Int) : te_Kids.f 8 a = some (kidsI a) := by
  have h : a = 1 ∨ a = 2 ∨ a = 3 ∨ a = 4 ∨ a = 5 ∨ a = 6 ∨ a = 7 ∨ a = 8 ∨ a = 9 ∨ a = 10 ∨ a = 11 ∨ a = 12 ∨ a = 13 ∨ a = 14 ∨ a = 15 ∨ a = 16 ∨ a = 17 ∨ a = 18 ∨ a = 19 ∨ a = 20 ∨ a = 21 ∨ a = 22 ∨ a = 23 ∨ a = 24 ∨ a = 25 ∨ a = 26 ∨ a = 27 ∨ a = 28 ∨ (a < 1 ∨ 28 < a) := by omega
  rcases h with rfl | rfl | rfl | rfl | rfl | rfl | rfl | rfl | rfl | rfl | rfl | rfl | rfl | rfl | rfl | rfl | rfl | rfl | rfl | rfl | rfl | rfl | rfl | rfl | rfl | rfl | rfl | rfl | hn
  · rfl
  · rfl
  · rfl
  · rfl
  · rfl
  · rfl
  · rfl
  · rfl
  · rfl
  · rfl
  · rfl
  · rfl
  · rfl
  · rfl
  · rfl
  · rfl
  · rfl
  · rfl
  · rfl
  · rfl
  · rfl
  · rfl
  · rfl
  · rfl
  · rfl
  · rfl
  · rfl
  · rfl
  · have e : kidsI a = -1 := by
      unfold kidsI
      by_cases h0 : a < 0 ∨ 28 < a
      · rw [if_pos h0]
      · have : a = 0 := by omega
        subst this
        rfl
    rw [e]
    simp [te_Kids.f, te_Kids.j0, te_Kids.j1, te_Kids.j2, te_Kids.j3, (show ¬ a = 1 by omega), (show ¬ a = 2 by omega), (show ¬ a = 3 by omega), (show ¬ a = 4 by omega), (show ¬ a = 5 by omega), (show ¬ a = 6 by omega), (show ¬ a = 7 by omega), (show ¬ a = 8 by omega), (show ¬ a = 9 by omega), (show ¬ a = 10 by omega), (show ¬ a = 11 by omega), (show ¬ a = 12 by omega), (show ¬ a = 13 by omega), (show ¬ a = 14 by omega), (show ¬ a = 15 by omega), (show ¬ a = 16 by omega), (show ¬ a = 17 by omega), (show ¬ a = 18 by omega), (show ¬ a = 19 by omega), (show ¬ a = 20 by omega), (show ¬ a = 21 by omega), (show ¬ a = 22 by omega), (show ¬ a = 23 by omega), (show ¬ a = 24 by omega), (show ¬ a = 25 by omega), (show ¬ a = 26 by omega), (show ¬ a = 27 by omega), (show ¬ a = 28 by omega)]
theorem partsx (a : Int) : te_Parts.f 4 a = some (partsI a) := by
  have h : a = 16 ∨ a = 15 ∨ a = 17 ∨ a = 18 ∨ (a ≠ 16 ∧ a ≠ 15 ∧ a ≠ 17 ∧ a ≠ 18) := by omega
  rcases h with rfl | rfl | rfl | rfl | ⟨h16, h15, h17, h18⟩
  · rfl
  · rfl
  · rfl
  · rfl
  · simp [te_Parts.f, te_Parts.j0, partsI, h16, h15, h17, h18]
theorem parts_all (a : Int) (w : World) : Calls Tryz.prog 41 #[.int .i64 a] w fun e w' => e = .returned (.int .i64 (partsI a)) ∧ Below w.heap.size w w' :=
  (te_Parts.calls 4 a _ w (partsx a)).mono fun e w' ⟨he, hb⟩ => ⟨he, hb.below⟩
noncomputable def frP (l : List Cl) : Bool := valO false fun k => fo_Right.f k l
noncomputable def faP (l : List Cl) : Bool := valO false fun _ => fa_Right.f l
noncomputable def wiP (l : List Cl) (d : Int) : Bool := valO false fun k => te_within.f k l d
noncomputable def nmP (s : ByteArray) : Bool := valO false fun k => te_name.f k s
def PFp (l : List Cl) : Prop := (hasO fun k => fo_Right.f k l) ∧ (hasO fun _ => fa_Right.f l) ∧ ∀ d, 0 ≤ d → d ≤ 1000 → hasO fun k => te_within.f k l d
def PNp (s : ByteArray) : Prop := hasO fun k => te_name.f k s
theorem ownP_all : OwnP PFp PNp frP faP wiP nmP where
  kids a w := (te_Kids.calls 8 a _ w (kidsx a)).mono fun e w' ⟨he, hb⟩ => ⟨he, hb.out⟩
  parts a w := (te_Parts.calls 4 a _ w (partsx a)).mono fun e w' ⟨he, hb⟩ => ⟨he, hb.out⟩
  fright A c l w hC hl hp := by
    obtain ⟨k, hk⟩ := valO_some (d := false) (fo_Right.mono l) hp.1
    exact fo_Right.calls k A c l _ w hC hl hk
  faright A c l w hC hl hp := by
    obtain ⟨k, hk⟩ := valO_some (d := false) (fun _ => LeO.refl _) hp.2.1
    exact fa_Right.calls A c l _ w hC hl hk
  within A c l d w hC hl hp h0 h1 := by
    obtain ⟨k, hk⟩ := valO_some (d := false) (te_within.mono l d) (hp.2.2 d h0 h1)
    exact te_within.calls k A c l d _ w hC hl hk
  name s w hp := by
    obtain ⟨k, hk⟩ := valO_some (d := false) (te_name.mono s) hp
    exact (te_name.calls k s _ w hk).mono fun e w' ⟨he, hb⟩ => ⟨he, hb.below⟩
def allG (t : Tm) (a1 a2 : Int) (a3 : Bool) : Prop := a3 = true ∧ okS PFp PNp t ∧ 0 ≤ a1 ∧ a1 + sizeT t ≤ 1000000000 ∧ 0 ≤ a2 ∧ a2 ≤ 25
noncomputable def term_all.f (a0_0 a0_1 : Int) (a0_2 : ByteArray) (l0_3 : List S113) (l0_4 : List S49) (l0_5 : List S90) (a1 a2 : Int) (a3 : Bool) : Option Bool := @ite _ (allG (⟨a0_0, a0_1, a0_2, l0_3, l0_4, l0_5⟩ : Tm) a1 a2 a3) (Classical.propDecidable _) (some (allT frP faP wiP nmP (⟨a0_0, a0_1, a0_2, l0_3, l0_4, l0_5⟩ : Tm) a1 a2)) none
theorem term_all.calls (a0_0 : Int) (a0_1 : Int) (a0_2 : ByteArray) (A0_3 : Option Addr) (c0_3 : Nat) (l0_3 : List (S113)) (A0_4 : Option Addr) (c0_4 : Nat) (l0_4 : List (S49)) (A0_5 : Option Addr) (c0_5 : Nat) (l0_5 : List (S90)) (a1 : Int) (a2 : Int) (a3 : Bool) (r : Bool) (w : World) (hr0_3 : Kd.C k113 w A0_3 l0_3.length l0_3) (hc0_3 : l0_3.length ≤ c0_3) (hr0_4 : Kd.C k49 w A0_4 l0_4.length l0_4) (hc0_4 : l0_4.length ≤ c0_4) (hr0_5 : Kd.C k90 w A0_5 l0_5.length l0_5) (hc0_5 : l0_5.length ≤ c0_5) (h : term_all.f a0_0 a0_1 a0_2 l0_3 l0_4 l0_5 a1 a2 a3 = some r) :
    Calls Tryz.prog 55 #[.agg #[.int .i64 a0_0, .int .i64 a0_1, .string a0_2, .slice A0_3 l0_3.length c0_3, .slice A0_4 l0_4.length c0_4, .slice A0_5 l0_5.length c0_5], .int .i64 a1, .int .i64 a2, .bool a3] w fun e w' => e = .returned (.bool r) ∧ Below w.heap.size w w' := by
 unfold term_all.f at h
 by_cases hr : allG (⟨a0_0, a0_1, a0_2, l0_3, l0_4, l0_5⟩ : Tm) a1 a2 a3
 ·rw [if_pos hr] at h
  obtain rfl := Option.some.inj h
  obtain ⟨rfl, h1, h2, h3, h4, h5⟩ := hr
  exact term_all ownP_all binds_all (enters_ Tryz.func79 (by kernel_rfl) rfl) (sizeT (⟨a0_0, a0_1, a0_2, l0_3, l0_4, l0_5⟩ : Tm)) (⟨a0_0, a0_1, a0_2, l0_3, l0_4, l0_5⟩ : Tm) a1 a2 _ w (Nat.le_refl _) h1 h2 h3 h4 h5 (k49_mk w (⟨a0_0, a0_1, a0_2, l0_3, l0_4, l0_5⟩ : Tm) hc0_3 hr0_3 hc0_4 hr0_4 hc0_5 hr0_5)
 ·rw [if_neg hr] at h
  exact absurd h (by simp)
end
end Go.Proofs.YtahdjajdaggmjaaGreatDoor.XPa
end
