-- Written for this claim by a program of ours (wip/xp.py), out of the translation and of hand-written contracts.
import Derived.Test.YtahdjajdaggmjaaGreatDoorSx
import Derived.Test.YtahdjajdaggmjaaGreatDoorYrec
import Derived.Test.YtahdjajdaggmjaaGreatDoorYdec
import Derived.Test.YtahdjajdaggmjaaGreatDoorZrall
import Derived.Test.YtahdjajdaggmjaaGreatDoorZwr
import Derived.Test.YtahdjajdaggmjaaGreatDoorXPax3
import Derived.Test.YtahdjajdaggmjaaGreatDoorXPax4
import Derived.Test.YtahdjajdaggmjaaGreatDoorXPax6
import Derived.Test.YtahdjajdaggmjaaGreatDoorXPax8
namespace Go.Proofs.YtahdjajdaggmjaaGreatDoor.XPa
noncomputable section
open Go.RowKit Go.Proofs.YtahdjajdaggmjaaGreatDoorW.PrintWords Go.Proofs.YtahdjajdaggmjaaGreatDoorW.PrintLast Go.Proofs.YtahdjajdaggmjaaGreatDoorW.PrintMore
attribute [local go_sem] max2_int min2_int max_two min_two max_three min_three max_four min_four
set_option linter.unusedVariables false
set_option linter.unusedSimpArgs false
def te_Right.j0 : Nat → Int → Int → Bool → Int → Int → ByteArray → List (S113) → List (S49) → List (S90) → Option (Int)
  | 0, _, _, _, _, _, _, _, _, _ => none
  | k + 1, x1, x2, x17, x172000, x172001, x172002, x172003, x172004, x172005 => if x17 = true then (some 2) else ((te_sized.f x172000 x172001 x172002 x172003 x172004 x172005).bind fun t172 => (if t172 = 0 then ((term_all.f x172000 x172001 x172002 x172003 x172004 x172005 x1 x2 true).bind fun t173 => (if t173 = true then (some 0) else (some 100))) else (some t172)))
def te_Right.f (k : Nat) (a0_0 : Int) (a0_1 : Int) (a0_2 : ByteArray) (l0_3 : List (S113)) (l0_4 : List (S49)) (l0_5 : List (S90)) (a1 : Int) (a2 : Int) : Option (Int) := if a1 < 0 then (te_Right.j0 k a1 a2 true a0_0 a0_1 a0_2 l0_3 l0_4 l0_5) else (if a2 < 0 then (te_Right.j0 k a1 a2 true a0_0 a0_1 a0_2 l0_3 l0_4 l0_5) else (te_Right.j0 k a1 a2 (decide (a2 > 24)) a0_0 a0_1 a0_2 l0_3 l0_4 l0_5))
theorem te_Right.mono_l : ∀ k, (∀ y0 y1 y2 y3 y4 y5 y6 y7 y8, LeO (te_Right.j0 k y0 y1 y2 y3 y4 y5 y6 y7 y8) (te_Right.j0 (k + 1) y0 y1 y2 y3 y4 y5 y6 y7 y8))
  | 0 => fun _ _ _ _ _ _ _ _ _ r h => by simp [te_Right.j0] at h
  | k + 1 => by
    have ih0 := te_Right.mono_l k
    · intros; unfold te_Right.j0; exact tMo
theorem te_Right.mono : ∀ a0 a1 a2 a3 a4 a5 a6 a7 k, LeO (te_Right.f k a0 a1 a2 a3 a4 a5 a6 a7) (te_Right.f (k + 1) a0 a1 a2 a3 a4 a5 a6 a7) := by
  intro a0 a1 a2 a3 a4 a5 a6 a7 k
  have ih0 := te_Right.mono_l k
  unfold te_Right.f
  exact tMo
theorem te_Right.z0 {p : Prop} (h_ : p := by obtain rfl := Option.some.inj H; (try (have hcz := cz6 BK171.out)); go_wp2_with (first | ((with_reducible refine gf_ 54 rfl ?_); refine gC_ (some 19) Tryz.func54 #[.agg #[.int .i64 a0_0, .int .i64 a0_1, .string a0_2, .slice A0_3 l0_3.length c0_3, .slice A0_4 l0_4.length c0_4, .slice A0_5 l0_5.length c0_5]] ?_; (with_reducible refine (te_sized.calls a0_0 a0_1 a0_2 _ _ l0_3 _ _ l0_4 _ _ l0_5 t172 _ ?side1 ?side2 ?side3 ?side4 ?side5 ?side6 A9.out).mono ?_); (case side1 => exact tCb HR0_3 HB); (case side2 => exact HC0_3.out); (case side3 => exact tCb HR0_4 HB); (case side4 => exact HC0_4.out); (case side5 => exact tCb HR0_5 HB); (case side6 => exact HC0_5.out); rintro e wa ⟨rfl, hb⟩; refine ⟨_, rfl, ?_⟩; replace BK171 := Aside0.mk (blk_below (g := gb171) (o := .cells #[.int .i64 a0_0, .int .i64 a0_1, .string a0_2, .slice A0_3 l0_3.length c0_3, .slice A0_4 l0_4.length c0_4, .slice A0_5 l0_5.length c0_5] 49 (0, 0)) (tK BK171) hb); replace HB := Aside0.mk (below_step (tBs GE171) hb); (try clear hb); have hcza := cz6 BK171.out) | ((with_reducible refine gf_ 55 rfl ?_); refine gC_ (some 26) Tryz.func55 #[.agg #[.int .i64 a0_0, .int .i64 a0_1, .string a0_2, .slice A0_3 l0_3.length c0_3, .slice A0_4 l0_4.length c0_4, .slice A0_5 l0_5.length c0_5], .int .i64 a1, .int .i64 a2, .bool true] ?_; (with_reducible refine (term_all.calls a0_0 a0_1 a0_2 _ _ l0_3 _ _ l0_4 _ _ l0_5 a1 a2 true false _ ?side1 ?side2 ?side3 ?side4 ?side5 ?side6 A11.out).mono ?_); (case side1 => exact tCb HR0_3 HB); (case side2 => exact HC0_3.out); (case side3 => exact tCb HR0_4 HB); (case side4 => exact HC0_4.out); (case side5 => exact tCb HR0_5 HB); (case side6 => exact HC0_5.out); rintro e wa ⟨rfl, hb⟩; refine ⟨_, rfl, ?_⟩; replace BK171 := Aside0.mk (blk_below (g := gb171) (o := .cells #[.int .i64 a0_0, .int .i64 a0_1, .string a0_2, .slice A0_3 l0_3.length c0_3, .slice A0_4 l0_4.length c0_4, .slice A0_5 l0_5.length c0_5] 49 (0, 0)) (tK BK171) hb); replace HB := Aside0.mk (below_step (tBs GE171) hb); (try clear hb)) | ((with_reducible refine gf_ 55 rfl ?_); refine gC_ (some 26) Tryz.func55 #[.agg #[.int .i64 a0_0, .int .i64 a0_1, .string a0_2, .slice A0_3 l0_3.length c0_3, .slice A0_4 l0_4.length c0_4, .slice A0_5 l0_5.length c0_5], .int .i64 a1, .int .i64 a2, .bool true] ?_; (with_reducible refine (term_all.calls a0_0 a0_1 a0_2 _ _ l0_3 _ _ l0_4 _ _ l0_5 a1 a2 true true _ ?side1 ?side2 ?side3 ?side4 ?side5 ?side6 A11.out).mono ?_); (case side1 => exact tCb HR0_3 HB); (case side2 => exact HC0_3.out); (case side3 => exact tCb HR0_4 HB); (case side4 => exact HC0_4.out); (case side5 => exact tCb HR0_5 HB); (case side6 => exact HC0_5.out); rintro e wa ⟨rfl, hb⟩; refine ⟨_, rfl, ?_⟩; replace BK171 := Aside0.mk (blk_below (g := gb171) (o := .cells #[.int .i64 a0_0, .int .i64 a0_1, .string a0_2, .slice A0_3 l0_3.length c0_3, .slice A0_4 l0_4.length c0_4, .slice A0_5 l0_5.length c0_5] 49 (0, 0)) (tK BK171) hb); replace HB := Aside0.mk (below_step (tBs GE171) hb); (try clear hb))); go_ret; exact ⟨tE, by repeat (first | (with_reducible first | exact HB.out | apply below_alloc | apply pw_below_drewN | apply below_drew1 | refine below_set ?_ GE171.out) | exact HB.out)⟩) : p := h_
set_option maxHeartbeats 8000000 in
set_option maxRecDepth 100000 in
theorem te_Right.calls (k : Nat) (a0_0 : Int) (a0_1 : Int) (a0_2 : ByteArray) (A0_3 : Option Addr) (c0_3 : Nat) (l0_3 : List (S113)) (A0_4 : Option Addr) (c0_4 : Nat) (l0_4 : List (S49)) (A0_5 : Option Addr) (c0_5 : Nat) (l0_5 : List (S90)) (a1 : Int) (a2 : Int) (r : Int) (w : World) (hr0_3 : Kd.C k113 w A0_3 l0_3.length l0_3) (hc0_3 : l0_3.length ≤ c0_3) (hr0_4 : Kd.C k49 w A0_4 l0_4.length l0_4) (hc0_4 : l0_4.length ≤ c0_4) (hr0_5 : Kd.C k90 w A0_5 l0_5.length l0_5) (hc0_5 : l0_5.length ≤ c0_5) (h : te_Right.f k a0_0 a0_1 a0_2 l0_3 l0_4 l0_5 a1 a2 = some r) :
  Calls Tryz.prog 39 #[.agg #[.int .i64 a0_0, .int .i64 a0_1, .string a0_2, .slice A0_3 l0_3.length c0_3, .slice A0_4 l0_4.length c0_4, .slice A0_5 l0_5.length c0_5], .int .i64 a1, .int .i64 a2] w fun e w' => e = .returned (.int .i64 r) ∧ Below w.heap.size w w' := by
 have hu49 := Tryz.underlying49
 have HR0_3 := Aside0.mk hr0_3
 have HC0_3 := Aside0.mk hc0_3
 clear hr0_3 hc0_3
 have HR0_4 := Aside0.mk hr0_4
 have HC0_4 := Aside0.mk hc0_4
 clear hr0_4 hc0_4
 have HR0_5 := Aside0.mk hr0_5
 have HC0_5 := Aside0.mk hc0_5
 clear hr0_5 hc0_5
 have HB := Aside0.mk (Below.refl w.heap.size w)
 have H : (if a1 < 0 then (te_Right.j0 k a1 a2 true a0_0 a0_1 a0_2 l0_3 l0_4 l0_5) else (if a2 < 0 then (te_Right.j0 k a1 a2 true a0_0 a0_1 a0_2 l0_3 l0_4 l0_5) else (te_Right.j0 k a1 a2 (decide (a2 > 24)) a0_0 a0_1 a0_2 l0_3 l0_4 l0_5))) = some r := h
 clear h
 have HC4 := Aside0.mk H
 clear H
 go_enter Tryz.func39, Tryz.ntmps39
 go_upto_region 1 with (first | ((with_reducible refine gd_ 3 rfl ?_); refine boxE 3 #[.int .i64 a0_0, .int .i64 a0_1, .string a0_2, .slice A0_3 l0_3.length c0_3, .slice A0_4 l0_4.length c0_4, .slice A0_5 l0_5.length c0_5] 49 ?_; intro gb171 hg w5 hbox hb; have BK171 := Aside0.mk (hbox); have GW171 := Aside0.mk (tG : w.heap.size ≤ gb171); have GE171 := Aside0.mk (tG : w.heap.size ≤ gb171); replace HB := Aside0.mk (below_step tB hb); clear hb hbox hg))
 (try simp only [Act.put, List.setIfInBounds_toArray, List.set_cons_zero, List.set_cons_succ])
 go_cut [17] (fun v17 wc => ∃ (kq : Nat) (x17_3 : Bool), v17 = .bool x17_3 ∧ Aside0 (te_Right.j0 kq a1 a2 x17_3 a0_0 a0_1 a0_2 l0_3 l0_4 l0_5 = some r) ∧ Aside0 (kq ≤ k) ∧ Aside0 (wc.heap[gb171]? = some (.cells #[.int .i64 a0_0, .int .i64 a0_1, .string a0_2, (.slice A0_3 l0_3.length c0_3), (.slice A0_4 l0_4.length c0_4), (.slice A0_5 l0_5.length c0_5)] 49 (0, 0))) ∧ Aside0 (Below w.heap.size w wc))
 case first =>
  have H := HC4.out
  clear HC4
  replace H := iD H
  rcases H with ⟨c6b0, H⟩ | ⟨c6b0, H⟩
  ·(first | rw [c6b0] | (simp only [i64_w, i32_w]; rw [c6b0]) | skip)
   exact zz22
  (first | rw [c6b0] | (simp only [i64_w, i32_w]; rw [c6b0]) | skip)
  replace H := iD H
  rcases H with ⟨c7b0, H⟩ | ⟨c7b0, H⟩
  ·exact zz22
  have H' := Aside0.mk H
  clear H
  go_wp2
  go_meet
  case rel => exact ⟨_, (decide (a2 > 24)), tS, H', ⟨by first | omega | exact Nat.le_refl _⟩, ⟨tK BK171⟩, ⟨tBs GE171⟩⟩
 case rest =>
  clear HC4
  obtain ⟨kq, x17_3, rfl, HA, HJ3, BK171, HB⟩ := hcut
  cases kq with
  | zero => exact absurd HA.out (by simp [te_Right.j0])
  | succ kj3 =>
   have H := HA.out
   clear HA
   simp only [te_Right.j0] at H
   replace H := iB H
   rcases H with ⟨rfl, H⟩ | ⟨rfl, H⟩
   ·obtain rfl := Option.some.inj H
    go_wp2
    go_ret
    exact ⟨tE, by repeat (first | (with_reducible first | exact HB.out | apply below_alloc | apply pw_below_drewN | apply below_drew1 | refine below_set ?_ GE171.out) | exact HB.out)⟩
   replace H := iX H
   obtain ⟨t172, A9, H⟩ := H
   replace H := iE H
   rcases H with ⟨c10b0, c10b1, H⟩ | ⟨c10, c10b0, c10b1, H⟩
   ·replace H := iX H
    obtain ⟨t173, A11, H⟩ := H
    replace H := iB H
    rcases H with ⟨rfl, H⟩ | ⟨rfl, H⟩
    ·exact te_Right.z0
    exact te_Right.z0
   obtain rfl := Option.some.inj H
   have hcz21 := cz6 BK171.out
   go_wp2_with (first | ((with_reducible refine gf_ 54 rfl ?_); refine gC_ (some 19) Tryz.func54 #[.agg #[.int .i64 a0_0, .int .i64 a0_1, .string a0_2, .slice A0_3 l0_3.length c0_3, .slice A0_4 l0_4.length c0_4, .slice A0_5 l0_5.length c0_5]] ?_; (with_reducible refine (te_sized.calls a0_0 a0_1 a0_2 _ _ l0_3 _ _ l0_4 _ _ l0_5 t172 _ ?side1 ?side2 ?side3 ?side4 ?side5 ?side6 A9.out).mono ?_); (case side1 => exact tCb HR0_3 HB); (case side2 => exact HC0_3.out); (case side3 => exact tCb HR0_4 HB); (case side4 => exact HC0_4.out); (case side5 => exact tCb HR0_5 HB); (case side6 => exact HC0_5.out); rintro e w22 ⟨rfl, hb⟩; refine ⟨_, rfl, ?_⟩; replace BK171 := Aside0.mk (blk_below (g := gb171) (o := .cells #[.int .i64 a0_0, .int .i64 a0_1, .string a0_2, .slice A0_3 l0_3.length c0_3, .slice A0_4 l0_4.length c0_4, .slice A0_5 l0_5.length c0_5] 49 (0, 0)) (tK BK171) hb); replace HB := Aside0.mk (below_step (tBs GE171) hb); (try clear hb)))
   go_ret
   exact ⟨tE, by repeat (first | (with_reducible first | exact HB.out | apply below_alloc | apply pw_below_drewN | apply below_drew1 | refine below_set ?_ GE171.out) | exact HB.out)⟩
noncomputable def nbP (s : ByteArray) : Bool := valO false fun k => pa_named.f k s
noncomputable def rtP (t : Tm) : Int := valO 0 fun k => te_Right.f k t.f0 t.f1 t.f2 t.f3 t.f4 t.f5 0 0
noncomputable def slP (l : List Int) : List Int := valO [] fun k => pa_sealed.f k l
def PNb (s : ByteArray) : Prop := hasO fun k => pa_named.f k s
def PTp (t : Tm) : Prop := hasO fun k => te_Right.f k t.f0 t.f1 t.f2 t.f3 t.f4 t.f5 0 0
def PSp (l : List Int) : Prop := hasO fun k => pa_sealed.f k l
theorem encP_all : EncP PNb PTp PSp nbP rtP slP where
  named s w hT hp := by
    obtain ⟨k, hk⟩ := valO_some (d := false) (pa_named.mono s) hp
    exact pa_named.calls k s _ w ⟨hT⟩ hk
  right t cs w hK hp := by
    obtain ⟨k, hk⟩ := valO_some (d := 0) (te_Right.mono t.f0 t.f1 t.f2 t.f3 t.f4 t.f5 0 0) hp
    obtain ⟨A3, c3, A4, c4, A5, c5, rfl, l3, g3, l4, g4, l5, g5⟩ := k49_open hK
    exact te_Right.calls k t.f0 t.f1 t.f2 A3 c3 t.f3 A4 c4 t.f4 A5 c5 t.f5 0 0 _ w g3 l3 g4 l4 g5 l5 hk
  parts := parts_all
  sealed_ u l w0 w hB hR hp := by
    obtain ⟨k, hk⟩ := valO_some (d := []) (pa_sealed.mono l) hp
    refine (pa_sealed.calls k (fun _ => True) u l _ w0 w hB hR hk).mono ?_
    rintro e w' ⟨v, he, hv, hb, _⟩
    exact ⟨v, he, Kd.R_mono hv (fun _ _ => trivial), hb⟩
def encG (l : List En) : Prop := l.length ≤ 1000 ∧ (∀ x ∈ l, okE PNb PTp x) ∧ (wrongI nbP rtP l = 0 → (encS l).length ≤ 10000000 ∧ ((encS l).length ≤ 1048572 → PSp (encS l)) ∧ ∀ x ∈ l, okT x.f1 ∧ okT x.f2)
noncomputable def pa_Encode.f (l0 : List S59) : Option (List Int × Int) := @ite _ (encG l0) (Classical.propDecidable _) (some (encodeI nbP rtP slP l0)) none
theorem pa_Encode.calls (A0 : Option Addr) (c0 : Nat) (l0 : List (S59)) (r1 : List Int) (r2 : Int) (w : World) (HT : Aside0 (Tab w)) (hr0 : Kd.C k59 w A0 l0.length l0) (hc0 : l0.length ≤ c0) (h : pa_Encode.f l0 = some (r1, r2)) :
    Calls Tryz.prog 8 #[.slice A0 l0.length c0] w fun e w' => ∃ v0_ : Value, e = .returned (.tuple #[v0_, .int .i64 r2]) ∧ Kd.R (Kd.int .u8) 5 w' w.heap.size (fun _ => True) v0_ r1 ∧ Below w.heap.size w w' := by
 unfold pa_Encode.f at h
 by_cases hr : encG l0
 ·rw [if_pos hr] at h
  have h2 := Option.some.inj h
  have hc := pa_Encode encP_all A0 c0 l0 w HT.out hr0 hr.1 hr.2.1 hr.2.2
  rw [h2] at hc
  exact hc
 ·rw [if_neg hr] at h
  exact absurd h (by simp)
noncomputable def slD (l : List Int) : List Int := valO [] fun k => pa_sealed.f k l
def PSd (l : List Int) : Prop := hasO fun k => pa_sealed.f k l
def decG (l : List Int) : Prop := (∀ x ∈ l, 0 ≤ x ∧ x < 256) ∧ PSd (l.take (l.length - 4)) ∧ (∀ x ∈ slD (l.take (l.length - 4)), 0 ≤ x ∧ x < 256) ∧ headB (l.take (l.length - 4)) = none ∧ numS (l.take (l.length - 4)) 3 = .ok (0, l.length - 4)
noncomputable def pa_Decode.f (l0 : List Int) : Option (List S59 × Int × Int) := @ite _ (decG l0) (Classical.propDecidable _) (some ([], (dec0 slD l0).1, (dec0 slD l0).2)) none
theorem pa_Decode.calls (A0 : Option Addr) (c0 : Nat) (l0 : List Int) (r1 : List S59) (r2 : Int) (r3 : Int) (w : World) (hr0 : Kd.C (Kd.int .u8) w A0 l0.length l0) (hc0 : l0.length ≤ c0) (h : pa_Decode.f l0 = some (r1, r2, r3)) :
    Calls Tryz.prog 13 #[.slice A0 l0.length c0] w fun e w' => ∃ v0_ : Value, e = .returned (.tuple #[v0_, .int .i64 r2, .int .i64 r3]) ∧ Kd.R k59 59 w' w.heap.size (fun _ => True) v0_ r1 ∧ Below w.heap.size w w' := by
 unfold pa_Decode.f at h
 by_cases hr : decG l0
 ·rw [if_pos hr] at h
  have h2 := Option.some.inj h
  have hc := pa_Decode1 (PS := PSd) (sl := slD) (fun u l w0 w hB hR hp => by
   obtain ⟨k, hk⟩ := valO_some (d := []) (pa_sealed.mono l) hp
   refine (pa_sealed.calls k (fun _ => True) u l _ w0 w hB hR hk).mono ?_
   rintro e w' ⟨v, he, hv, hb, _⟩
   exact ⟨v, he, Kd.R_mono hv (fun _ _ => trivial), hb⟩) A0 c0 l0 w hr0 hc0 hr.1 hr.2.1 hr.2.2.1 hr.2.2.2
  injection h2 with h3 h4
  injection h4 with h5 h6
  subst h3 h5 h6
  refine hc.mono ?_
  rintro e w' ⟨he, hb⟩
  exact ⟨_, he, Kd.R_nil _ _ _ _ _, hb⟩
 ·rw [if_neg hr] at h
  exact absurd h (by simp)
def w36works.f (k : Nat)  : Option (Bool) := (pa_Encode.f ([] : List (S59))).bind fun bt174 => ((pa_Decode.f bt174.1).bind fun bt178 => (if bt174.2 = 0 then (if (bt174.1.length : Int) = 8 then (if 0 < (bt174.1.length : Int) then (if (rd bt174.1 0) = 72 then (if 1 < (bt174.1.length : Int) then (if (rd bt174.1 1) = 67 then (if 2 < (bt174.1.length : Int) then (if (rd bt174.1 2) = 1 then (if 3 < (bt174.1.length : Int) then (if (rd bt174.1 3) = 0 then (if bt178.2.2 = 0 then (if (bt178.1.length : Int) = 0 then ((pack_Sum.f k ([] : List Int)).bind fun t187 => (some (t187 == 2166136261))) else (some false)) else (some false)) else (some false)) else (none)) else (some false)) else (none)) else (some false)) else (none)) else (some false)) else (none)) else (some false)) else (some false)))
set_option maxHeartbeats 8000000 in
set_option maxRecDepth 100000 in
theorem w36works.calls (k : Nat)  (r : Bool) (w : World) (HT : Aside0 (Tab w)) (hr_ : Aside0 (r = true)) (h : w36works.f k  = some r) :
  Calls Tryz.prog 7 #[] w fun e w' => e = .returned (.bool r) ∧ Below w.heap.size w w' := by
 have HB := Aside0.mk (Below.refl w.heap.size w)
 have H : ((pa_Encode.f ([] : List (S59))).bind fun bt174 => ((pa_Decode.f bt174.1).bind fun bt178 => (if bt174.2 = 0 then (if (bt174.1.length : Int) = 8 then (if 0 < (bt174.1.length : Int) then (if (rd bt174.1 0) = 72 then (if 1 < (bt174.1.length : Int) then (if (rd bt174.1 1) = 67 then (if 2 < (bt174.1.length : Int) then (if (rd bt174.1 2) = 1 then (if 3 < (bt174.1.length : Int) then (if (rd bt174.1 3) = 0 then (if bt178.2.2 = 0 then (if (bt178.1.length : Int) = 0 then ((pack_Sum.f k ([] : List Int)).bind fun t187 => (some (t187 == 2166136261))) else (some false)) else (some false)) else (some false)) else (none)) else (some false)) else (none)) else (some false)) else (none)) else (some false)) else (none)) else (some false)) else (some false)))) = some r := h
 clear h
 replace H := iX H
 obtain ⟨⟨t174, t175⟩, A1, H⟩ := H
 try dsimp only at H
 replace H := iX H
 obtain ⟨⟨t178, t179, t180⟩, A2, H⟩ := H
 try dsimp only at H
 replace H := iE H
 rcases H with ⟨c3b0, c3b1, H⟩ | ⟨c3, c3b0, c3b1, H⟩
 ·replace H := iE H
  rcases H with ⟨c4b0, c4b1, H⟩ | ⟨c4, c4b0, c4b1, H⟩
  ·by_cases c5 : 0 < (t174.length : Int)
   ·rw [if_pos c5] at H
    have c5b0 : decide (0 < (t174.length : Int)) = true := decide_eq_true c5
    have c5b1 : decide (0 < t174.length) = true := decide_eq_true (by omega)
    clear c5
    replace H := iE H
    rcases H with ⟨c6b0, c6b1, H⟩ | ⟨c6, c6b0, c6b1, H⟩
    ·by_cases c7 : 1 < (t174.length : Int)
     ·rw [if_pos c7] at H
      have c7b0 : decide (1 < (t174.length : Int)) = true := decide_eq_true c7
      have c7b1 : decide (1 < t174.length) = true := decide_eq_true (by omega)
      clear c7
      replace H := iE H
      rcases H with ⟨c8b0, c8b1, H⟩ | ⟨c8, c8b0, c8b1, H⟩
      ·by_cases c9 : 2 < (t174.length : Int)
       ·rw [if_pos c9] at H
        have c9b0 : decide (2 < (t174.length : Int)) = true := decide_eq_true c9
        have c9b1 : decide (2 < t174.length) = true := decide_eq_true (by omega)
        clear c9
        replace H := iE H
        rcases H with ⟨c10b0, c10b1, H⟩ | ⟨c10, c10b0, c10b1, H⟩
        ·by_cases c11 : 3 < (t174.length : Int)
         ·rw [if_pos c11] at H
          have c11b0 : decide (3 < (t174.length : Int)) = true := decide_eq_true c11
          have c11b1 : decide (3 < t174.length) = true := decide_eq_true (by omega)
          clear c11
          replace H := iE H
          rcases H with ⟨c12b0, c12b1, H⟩ | ⟨c12, c12b0, c12b1, H⟩
          ·replace H := iE H
           rcases H with ⟨c13b0, c13b1, H⟩ | ⟨c13, c13b0, c13b1, H⟩
           ·replace H := iE H
            rcases H with ⟨c14b0, c14b1, H⟩ | ⟨c14, c14b0, c14b1, H⟩
            ·replace H := iX H
             obtain ⟨t187, A15, H⟩ := H
             obtain rfl := Option.some.inj H
             go_enter Tryz.func7, Tryz.ntmps7
             go_wp2_with (first | ((with_reducible refine gf_ 8 rfl ?_); refine gC_ (some 7) Tryz.func8 #[.slice none 0 0] ?_; (refine (pa_Encode.calls (HT := ⟨Tab.below HT.out tB⟩) _ _ ([] : List (S59)) t174 t175 _ ?side1 ?side2 A1.out).mono ?_); (case side1 => exact Kd.C_nil _ _); (case side2 => exact Nat.le_refl _); rintro e w16 ⟨v176, rfl, ho0, hb⟩; refine ⟨_, rfl, ?_⟩; have HO177 := Aside0.mk (Kd.R_lower ho0 (below_size tB)); replace HB := Aside0.mk (below_step tB hb); (try clear hb); (try clear ho0); obtain ⟨Aoh177, coh177, eoh177⟩ := Kd.R_slice HO177.out; subst eoh177) | ((with_reducible refine gf_ 13 rfl ?_); refine gC_ (some 12) Tryz.func13 #[.slice Aoh177 t174.length coh177] ?_; (with_reducible refine (pa_Decode.calls _ _ t174 t178 t179 t180 _ ?side1 ?side2 A2.out).mono ?_); (case side1 => exact tCr HO177); (case side2 => exact (Kd.R_reads' HO177.out).2.1); rintro e w18 ⟨v181, rfl, ho0, hb⟩; refine ⟨_, rfl, ?_⟩; replace HO177 := Aside0.mk (Kd.R_below (tR HO177) hb); have HO182 := Aside0.mk (Kd.R_lower ho0 (below_size tB)); replace HB := Aside0.mk (below_step tB hb); (try clear hb); (try clear ho0); have p183 : 0 ≤ (0 : Int) := (by omega); have q183 : 0 < (t174.length : Int) := tA; obtain ⟨ad183, e183, hx183_0⟩ := Kd.at_int (Kd.R_reads' HO177.out).2.2 0 p183 q183; cases e183; have qi183 : (0 < t174.length) = True := eq_true (by omega); (try rw [show ((0 : Int)).toNat = 0 from rfl] at hx183_0); (try rw [Addr.add_zero'] at hx183_0); replace p183 := eq_true p183; replace q183 := eq_true q183; have p184 : 0 ≤ (1 : Int) := (by omega); have q184 : 1 < (t174.length : Int) := tA; obtain ⟨ad184, e184, hx184_0⟩ := Kd.at_int (Kd.R_reads' HO177.out).2.2 1 p184 q184; obtain rfl : ad183 = ad184 := (by injection e184); (try simp only [show (1 : Int).toNat = 1 from rfl, Nat.reduceMul, Nat.reduceEqDiff, Go.Addr.add, ↓reduceIte] at hx184_0); have qi184 : (1 < t174.length) = True := eq_true (by omega); (try rw [show ((1 : Int)).toNat = 1 from rfl] at hx184_0); replace p184 := eq_true p184; replace q184 := eq_true q184; have p185 : 0 ≤ (2 : Int) := (by omega); have q185 : 2 < (t174.length : Int) := tA; obtain ⟨ad185, e185, hx185_0⟩ := Kd.at_int (Kd.R_reads' HO177.out).2.2 2 p185 q185; obtain rfl : ad183 = ad185 := (by injection e185); (try simp only [show (2 : Int).toNat = 2 from rfl, Nat.reduceMul, Nat.reduceEqDiff, Go.Addr.add, ↓reduceIte] at hx185_0); have qi185 : (2 < t174.length) = True := eq_true (by omega); (try rw [show ((2 : Int)).toNat = 2 from rfl] at hx185_0); replace p185 := eq_true p185; replace q185 := eq_true q185; have p186 : 0 ≤ (3 : Int) := (by omega); have q186 : 3 < (t174.length : Int) := tA; obtain ⟨ad186, e186, hx186_0⟩ := Kd.at_int (Kd.R_reads' HO177.out).2.2 3 p186 q186; obtain rfl : ad183 = ad186 := (by injection e186); (try simp only [show (3 : Int).toNat = 3 from rfl, Nat.reduceMul, Nat.reduceEqDiff, Go.Addr.add, ↓reduceIte] at hx186_0); have qi186 : (3 < t174.length) = True := eq_true (by omega); (try rw [show ((3 : Int)).toNat = 3 from rfl] at hx186_0); replace p186 := eq_true p186; replace q186 := eq_true q186; obtain ⟨Aoh182, coh182, eoh182⟩ := Kd.R_slice HO182.out; subst eoh182) | (go_at_call 11; (refine (pack_Sum.calls k _ _ ([] : List Int) t187 _ ?side1 ?side2 A15.out).mono ?_); (case side1 => exact Kd.C_nil _ _); (case side2 => exact Nat.le_refl _); rintro e w' ⟨rfl, ⟨nd, rfl⟩⟩))
             go_ret
             exact ⟨tE, tB⟩
            have c14b2 : ¬ (t178 = []) := fun h_ => c14 (by rw [h_]; rfl)
            exact absurd ((Option.some.inj H).trans hr_.out) Bool.false_ne_true
           exact absurd ((Option.some.inj H).trans hr_.out) Bool.false_ne_true
          exact absurd ((Option.some.inj H).trans hr_.out) Bool.false_ne_true
         ·rw [if_neg c11] at H
          exact absurd H (by simp)
        exact absurd ((Option.some.inj H).trans hr_.out) Bool.false_ne_true
       ·rw [if_neg c9] at H
        exact absurd H (by simp)
      exact absurd ((Option.some.inj H).trans hr_.out) Bool.false_ne_true
     ·rw [if_neg c7] at H
      exact absurd H (by simp)
    exact absurd ((Option.some.inj H).trans hr_.out) Bool.false_ne_true
   ·rw [if_neg c5] at H
    exact absurd H (by simp)
  exact absurd ((Option.some.inj H).trans hr_.out) Bool.false_ne_true
 exact absurd ((Option.some.inj H).trans hr_.out) Bool.false_ne_true
def w26Sig.l0 : Nat → List (S59) → List (S51) → Int → Int → Option ((List (S59)))
  | 0, _, _, _, _ => none
  | k + 1, x3, x6, x7, x8 => if x8 < x7 then (if 0 ≤ x8 then (if x8 < (x6.length : Int) then (if x3.length < 628292358729 then (w26Sig.l0 k (x3 ++ [(⟨(rd_T51 x6 x8).f0, (⟨(rd_T51 x6 x8).f1.f0, (rd_T51 x6 x8).f1.f1, (rd_T51 x6 x8).f1.f2, (rd_T51 x6 x8).f1.f3, (rd_T51 x6 x8).f1.f4, (rd_T51 x6 x8).f1.f5⟩ : S49), (⟨(rd_T51 x6 x8).f2.f0, (rd_T51 x6 x8).f2.f1, (rd_T51 x6 x8).f2.f2, (rd_T51 x6 x8).f2.f3, (rd_T51 x6 x8).f2.f4, (rd_T51 x6 x8).f2.f5⟩ : S49)⟩ : S59)]) x6 x7 (wrap64 (x8 + 1))) else (none)) else (none)) else (none)) else (some x3)
def w26Sig.f (k : Nat) (l0 : List (S51)) : Option ((List (S59))) := w26Sig.l0 k ([] : List (S59)) l0 (l0.length : Int) 0
set_option maxHeartbeats 8000000 in
set_option maxRecDepth 100000 in
theorem w26Sig.calls (k : Nat) (P0_ : Nat → Prop) (A0 : Option Addr) (c0 : Nat) (l0 : List (S51)) (r : List (S59)) (w : World) (hs0 : Kd.V k51 51 w w.heap.size (fun k_ => P0_ k_) (.slice A0 l0.length c0) l0) (h : w26Sig.f k l0 = some r) :
  Calls Tryz.prog 9 #[.slice A0 l0.length c0] w fun e w' => ∃ v0_ : Value, e = .returned (v0_) ∧ Kd.N k59 59 w' w.heap.size (fun k_ => (P0_ k_ ∨ w.heap.size ≤ k_)) v0_ r ∧ Below w.heap.size w w' := by
 have hu51 := Tryz.underlying51
 have HO0 := Aside0.mk (show Kd.V k51 51 w w.heap.size (fun k_ => (P0_ k_ ∨ w.heap.size ≤ k_)) (.slice A0 l0.length c0) l0 from Kd.V_mono hs0 (fun k_ hk => .inl hk))
 have HB := Aside0.mk (Below.refl w.heap.size w)
 have H : (w26Sig.l0 k ([] : List (S59)) l0 (l0.length : Int) 0) = some r := h
 clear h
 have H' := Aside0.mk H
 clear H
 go_enter Tryz.func9, Tryz.ntmps9
 go_wp2
 go_loopg [3, 8] k (fun kq v3 v8 w' => ∃ (x3_1 : List (S59)) (x8_1 : Int), v8 = .int .i64 x8_1 ∧ Aside0 (w26Sig.l0 kq x3_1 l0 (l0.length : Int) x8_1 = some r) ∧ Aside0 (kq ≤ k) ∧ Aside0 (Kd.N k59 59 w' w.heap.size (fun k_ => (P0_ k_ ∨ w.heap.size ≤ k_)) v3 x3_1) ∧ Aside0 (Kd.V k51 51 w' w.heap.size (fun k_ => (P0_ k_ ∨ w.heap.size ≤ k_) ∧ some k_ ≠ (v3 : Value).ownBlock) (.slice A0 l0.length c0) l0) ∧ Aside0 (Below w.heap.size w w'))
 case atStart => exact ⟨(([] : List (S59))), (0), tS, H', ⟨Nat.le_refl _⟩, ⟨by first | exact Kd.R_nil _ _ _ _ _ | exact Kd.N_nil _ _ _ _ _ | exact Kd.V_nil _ _ _ _ _ | exact Kd.Q_nil _ _ _ _ _ | exact Kd.S_nil _ _ _ _ _⟩, ⟨by (with_reducible repeat (first | apply Kd.V_alloc | apply Kd.V_drewN | apply Kd.V_drew)); exact Kd.V_mono HO0.out (fun _ hk => ⟨hk, (by simp [Value.ownBlock])⟩)⟩, ⟨tB⟩⟩
 case round =>
  clear H'
  obtain ⟨x3_1, x8_1, rfl, HA, HK1, HO_3, HO_6, HB⟩ := hrel
  cases gk with
  | zero => exact absurd HA.out (by simp [w26Sig.l0])
  | succ k1 =>
   have H := HA.out
   clear HA
   simp only [w26Sig.l0] at H
   replace H := iD H
   rcases H with ⟨c2b0, H⟩ | ⟨c2b0, H⟩
   ·replace H := niD H
    obtain ⟨c3b0, H⟩ := H
    replace H := niD H
    obtain ⟨c4b0, H⟩ := H
    replace H := niC H
    obtain ⟨c5, H⟩ := H
    have LMc5 := Aside0.mk c5
    clear c5
    obtain ⟨y190, hy190⟩ : ∃ y_ : List (S59), y_ = (x3_1 ++ [(⟨(rd_T51 l0 x8_1).f0, (⟨(rd_T51 l0 x8_1).f1.f0, (rd_T51 l0 x8_1).f1.f1, (rd_T51 l0 x8_1).f1.f2, (rd_T51 l0 x8_1).f1.f3, (rd_T51 l0 x8_1).f1.f4, (rd_T51 l0 x8_1).f1.f5⟩ : S49), (⟨(rd_T51 l0 x8_1).f2.f0, (rd_T51 l0 x8_1).f2.f1, (rd_T51 l0 x8_1).f2.f2, (rd_T51 l0 x8_1).f2.f3, (rd_T51 l0 x8_1).f2.f4, (rd_T51 l0 x8_1).f2.f5⟩ : S49)⟩ : S59)]) := ⟨_, rfl⟩
    replace H : (w26Sig.l0 k1 y190 l0 (l0.length : Int) (wrap64 (x8_1 + 1))) = some r := tY hy190 H
    have Ny190 := Aside0.mk hy190
    clear hy190
    have H' := Aside0.mk H
    clear H
    have p188 : 0 ≤ (x8_1 : Int) := tA
    have q188 : x8_1 < (l0.length : Int) := tA
    obtain ⟨ad188, A188_4, c188_4, A188_5, c188_5, A188_6, c188_6, A188_10, c188_10, A188_11, c188_11, A188_12, c188_12, e188, hx188_0, hx188_1, hx188_2, hx188_3, hx188_4, hx188_5, hx188_6, hx188_7, hx188_8, hx188_9, hx188_10, hx188_11, hx188_12, hl188_4, hi188_4, hl188_5, hi188_5, hl188_6, hi188_6, hl188_10, hi188_10, hl188_11, hi188_11, hl188_12, hi188_12⟩ := at_T51 (Kd.V_reads' HO_6.out).2.2 x8_1 p188 q188
    cases e188
    obtain ⟨ce188, hce188, hMe188, hcc188⟩ := Kd.V_get HO_6.out z51 x8_1 p188 (by first | exact q188 | exact tA | (have e_ := (Kd.V_reads' HO_6.out).1; omega))
    obtain ⟨ua188_4, uc188_4, ua188_5, uc188_5, ua188_6, uc188_6, ua188_10, uc188_10, ua188_11, uc188_11, ua188_12, uc188_12, rfl, ul188_4, ge188_4, ul188_5, ge188_5, ul188_6, ge188_6, ul188_10, ge188_10, ul188_11, ge188_11, ul188_12, ge188_12⟩ := k51_openF hMe188
    have hv188_4 := hcc188 4 _ rfl
    rw [add_field _ _ 4 (by omega)] at hv188_4
    replace hv188_4 := Option.some.inj (hv188_4.symm.trans hx188_4)
    injection hv188_4 with hva_ hvn_ hvc_
    rw [hva_] at ge188_4
    rw [hvc_] at ul188_4
    have HL188_4 := Aside0.mk (show Kd.V k113 113 _ w.heap.size _ _ ((rd_T51 l0 x8_1).f1.f3) from Kd.V_mk ul188_4 ge188_4)
    clear hva_ hvn_ hvc_ ge188_4 ul188_4
    have hv188_5 := hcc188 5 _ rfl
    rw [add_field _ _ 5 (by omega)] at hv188_5
    replace hv188_5 := Option.some.inj (hv188_5.symm.trans hx188_5)
    injection hv188_5 with hva_ hvn_ hvc_
    rw [hva_] at ge188_5
    rw [hvc_] at ul188_5
    have HL188_5 := Aside0.mk (show Kd.V k49 49 _ w.heap.size _ _ ((rd_T51 l0 x8_1).f1.f4) from Kd.V_mk ul188_5 ge188_5)
    clear hva_ hvn_ hvc_ ge188_5 ul188_5
    have hv188_6 := hcc188 6 _ rfl
    rw [add_field _ _ 6 (by omega)] at hv188_6
    replace hv188_6 := Option.some.inj (hv188_6.symm.trans hx188_6)
    injection hv188_6 with hva_ hvn_ hvc_
    rw [hva_] at ge188_6
    rw [hvc_] at ul188_6
    have HL188_6 := Aside0.mk (show Kd.V k90 90 _ w.heap.size _ _ ((rd_T51 l0 x8_1).f1.f5) from Kd.V_mk ul188_6 ge188_6)
    clear hva_ hvn_ hvc_ ge188_6 ul188_6
    have hv188_10 := hcc188 10 _ rfl
    rw [add_field _ _ 10 (by omega)] at hv188_10
    replace hv188_10 := Option.some.inj (hv188_10.symm.trans hx188_10)
    injection hv188_10 with hva_ hvn_ hvc_
    rw [hva_] at ge188_10
    rw [hvc_] at ul188_10
    have HL188_10 := Aside0.mk (show Kd.V k113 113 _ w.heap.size _ _ ((rd_T51 l0 x8_1).f2.f3) from Kd.V_mk ul188_10 ge188_10)
    clear hva_ hvn_ hvc_ ge188_10 ul188_10
    have hv188_11 := hcc188 11 _ rfl
    rw [add_field _ _ 11 (by omega)] at hv188_11
    replace hv188_11 := Option.some.inj (hv188_11.symm.trans hx188_11)
    injection hv188_11 with hva_ hvn_ hvc_
    rw [hva_] at ge188_11
    rw [hvc_] at ul188_11
    have HL188_11 := Aside0.mk (show Kd.V k49 49 _ w.heap.size _ _ ((rd_T51 l0 x8_1).f2.f4) from Kd.V_mk ul188_11 ge188_11)
    clear hva_ hvn_ hvc_ ge188_11 ul188_11
    have hv188_12 := hcc188 12 _ rfl
    rw [add_field _ _ 12 (by omega)] at hv188_12
    replace hv188_12 := Option.some.inj (hv188_12.symm.trans hx188_12)
    injection hv188_12 with hva_ hvn_ hvc_
    rw [hva_] at ge188_12
    rw [hvc_] at ul188_12
    have HL188_12 := Aside0.mk (show Kd.V k90 90 _ w.heap.size _ _ ((rd_T51 l0 x8_1).f2.f5) from Kd.V_mk ul188_12 ge188_12)
    clear hva_ hvn_ hvc_ ge188_12 ul188_12
    clear hcc188 hce188
    have HR188_4 := Aside0.mk hi188_4
    have HC188_4 := Aside0.mk hl188_4
    clear hi188_4 hl188_4
    have HR188_5 := Aside0.mk hi188_5
    have HC188_5 := Aside0.mk hl188_5
    clear hi188_5 hl188_5
    have HR188_6 := Aside0.mk hi188_6
    have HC188_6 := Aside0.mk hl188_6
    clear hi188_6 hl188_6
    have HR188_10 := Aside0.mk hi188_10
    have HC188_10 := Aside0.mk hl188_10
    clear hi188_10 hl188_10
    have HR188_11 := Aside0.mk hi188_11
    have HC188_11 := Aside0.mk hl188_11
    clear hi188_11 hl188_11
    have HR188_12 := Aside0.mk hi188_12
    have HC188_12 := Aside0.mk hl188_12
    clear hi188_12 hl188_12
    replace p188 := eq_true p188
    replace q188 := eq_true q188
    go_wp2_with (first | ((with_reducible refine gd_ 5 rfl ?_); refine boxE 5 #[.string (⟨#[]⟩ : ByteArray), .int .i64 0, .int .i64 0, .string (⟨#[]⟩ : ByteArray), .slice none 0 0, .slice none 0 0, .slice none 0 0, .int .i64 0, .int .i64 0, .string (⟨#[]⟩ : ByteArray), .slice none 0 0, .slice none 0 0, .slice none 0 0] 51 ?_; intro gb189 hg w6 hbox hb; replace HO_3 := Aside0.mk (Kd.N_below (Kd.N_elderB (tN HO_3) gb189 (Nat.le_of_eq hg.symm)) hb); replace HO_6 := Aside0.mk (Kd.V_below (Kd.V_elderB (tV HO_6) gb189 (Nat.le_of_eq hg.symm)) hb); replace HL188_4 := Aside0.mk (Kd.V_below (Kd.V_elderB (tV HL188_4) gb189 (Nat.le_of_eq hg.symm)) hb); replace HL188_5 := Aside0.mk (Kd.V_below (Kd.V_elderB (tV HL188_5) gb189 (Nat.le_of_eq hg.symm)) hb); replace HL188_6 := Aside0.mk (Kd.V_below (Kd.V_elderB (tV HL188_6) gb189 (Nat.le_of_eq hg.symm)) hb); replace HL188_10 := Aside0.mk (Kd.V_below (Kd.V_elderB (tV HL188_10) gb189 (Nat.le_of_eq hg.symm)) hb); replace HL188_11 := Aside0.mk (Kd.V_below (Kd.V_elderB (tV HL188_11) gb189 (Nat.le_of_eq hg.symm)) hb); replace HL188_12 := Aside0.mk (Kd.V_below (Kd.V_elderB (tV HL188_12) gb189 (Nat.le_of_eq hg.symm)) hb); replace HR188_4 := Aside0.mk (Kd.C_below (tC HR188_4) hb); replace HR188_5 := Aside0.mk (Kd.C_below (tC HR188_5) hb); replace HR188_6 := Aside0.mk (Kd.C_below (tC HR188_6) hb); replace HR188_10 := Aside0.mk (Kd.C_below (tC HR188_10) hb); replace HR188_11 := Aside0.mk (Kd.C_below (tC HR188_11) hb); replace HR188_12 := Aside0.mk (Kd.C_below (tC HR188_12) hb); have BK189 := Aside0.mk (hbox); have GW189 := Aside0.mk (tG : w.heap.size ≤ gb189); have GE189 := Aside0.mk (tG : w.heap.size ≤ gb189); replace HB := Aside0.mk (below_step tB hb); clear hb hbox hg; have hcz7 := cz13 BK189.out) | ((with_reducible refine gate_store (t := 51) (p := 5) rfl ?_); refine store_event (t := 51) (p := 5) (v := ?vo_w8) (w1 := (((((((((((((w6.setCell ⟨gb189, 0, none⟩ (.string ((rd_T51 l0 x8_1).f0))).setCell ⟨gb189, 1, none⟩ (.int .i64 ((rd_T51 l0 x8_1).f1.f0))).setCell ⟨gb189, 2, none⟩ (.int .i64 ((rd_T51 l0 x8_1).f1.f1))).setCell ⟨gb189, 3, none⟩ (.string ((rd_T51 l0 x8_1).f1.f2))).setCell ⟨gb189, 4, none⟩ (.slice A188_4 ((rd_T51 l0 x8_1).f1.f3).length c188_4)).setCell ⟨gb189, 5, none⟩ (.slice A188_5 ((rd_T51 l0 x8_1).f1.f4).length c188_5)).setCell ⟨gb189, 6, none⟩ (.slice A188_6 ((rd_T51 l0 x8_1).f1.f5).length c188_6)).setCell ⟨gb189, 7, none⟩ (.int .i64 ((rd_T51 l0 x8_1).f2.f0))).setCell ⟨gb189, 8, none⟩ (.int .i64 ((rd_T51 l0 x8_1).f2.f1))).setCell ⟨gb189, 9, none⟩ (.string ((rd_T51 l0 x8_1).f2.f2))).setCell ⟨gb189, 10, none⟩ (.slice A188_10 ((rd_T51 l0 x8_1).f2.f3).length c188_10)).setCell ⟨gb189, 11, none⟩ (.slice A188_11 ((rd_T51 l0 x8_1).f2.f4).length c188_11)).setCell ⟨gb189, 12, none⟩ (.slice A188_12 ((rd_T51 l0 x8_1).f2.f5).length c188_12))) ?hg ?ho ?hn ?hr ?_; (case ho => rfl); (case hg => rfl); (case hn => rfl); (case hr => first | (go_simp; done) | (go_simp; rfl)); intro w8 hw; have n0_ : Aside0 (Kd.N k59 59 w8 w.heap.size (fun k_ => (P0_ k_ ∨ w.heap.size ≤ k_) ∧ k_ ≠ gb189) u3 x3_1) := ⟨(by rw [hw]; exact (by (with_reducible repeat (first | apply Kd.N_alloc | apply Kd.N_drewN | apply Kd.N_drew)); exact Kd.N_mono (tNf (Kd.N_mono HO_3.out (fun k_ hk => (⟨hk, hk.2⟩ : _ ∧ k_ ≠ gb189)))) (fun _ hk => ⟨hk.1.1, hk.1.2⟩)))⟩; have n1_ : Aside0 (Kd.V k51 51 w8 w.heap.size (fun k_ => (P0_ k_ ∨ w.heap.size ≤ k_) ∧ some k_ ≠ (u3 : Value).ownBlock ∧ k_ ≠ gb189) (.slice (some ad188) l0.length c0) l0) := ⟨(by rw [hw]; exact (by (with_reducible repeat (first | apply Kd.V_alloc | apply Kd.V_drewN | apply Kd.V_drew)); exact Kd.V_mono (tVf (Kd.V_mono HO_6.out (fun k_ hk => (⟨hk, hk.2⟩ : _ ∧ k_ ≠ gb189)))) (fun _ hk => ⟨hk.1.1.1, ⟨hk.1.1.2, hk.1.2⟩⟩)))⟩; have n2_ : Aside0 (Kd.V k113 113 w8 w.heap.size (fun k_ => (P0_ k_ ∨ w.heap.size ≤ k_) ∧ some k_ ≠ (u3 : Value).ownBlock ∧ k_ ≠ gb189) (.slice A188_4 ((rd_T51 l0 x8_1).f1.f3).length c188_4) ((rd_T51 l0 x8_1).f1.f3)) := ⟨(by rw [hw]; exact (by (with_reducible repeat (first | apply Kd.V_alloc | apply Kd.V_drewN | apply Kd.V_drew)); exact Kd.V_mono (tVf (Kd.V_mono HL188_4.out (fun k_ hk => (⟨hk, hk.2⟩ : _ ∧ k_ ≠ gb189)))) (fun _ hk => ⟨hk.1.1.1, ⟨hk.1.1.2, hk.1.2⟩⟩)))⟩; have n3_ : Aside0 (Kd.V k49 49 w8 w.heap.size (fun k_ => (P0_ k_ ∨ w.heap.size ≤ k_) ∧ some k_ ≠ (u3 : Value).ownBlock ∧ k_ ≠ gb189) (.slice A188_5 ((rd_T51 l0 x8_1).f1.f4).length c188_5) ((rd_T51 l0 x8_1).f1.f4)) := ⟨(by rw [hw]; exact (by (with_reducible repeat (first | apply Kd.V_alloc | apply Kd.V_drewN | apply Kd.V_drew)); exact Kd.V_mono (tVf (Kd.V_mono HL188_5.out (fun k_ hk => (⟨hk, hk.2⟩ : _ ∧ k_ ≠ gb189)))) (fun _ hk => ⟨hk.1.1.1, ⟨hk.1.1.2, hk.1.2⟩⟩)))⟩; have n4_ : Aside0 (Kd.V k90 90 w8 w.heap.size (fun k_ => (P0_ k_ ∨ w.heap.size ≤ k_) ∧ some k_ ≠ (u3 : Value).ownBlock ∧ k_ ≠ gb189) (.slice A188_6 ((rd_T51 l0 x8_1).f1.f5).length c188_6) ((rd_T51 l0 x8_1).f1.f5)) := ⟨(by rw [hw]; exact (by (with_reducible repeat (first | apply Kd.V_alloc | apply Kd.V_drewN | apply Kd.V_drew)); exact Kd.V_mono (tVf (Kd.V_mono HL188_6.out (fun k_ hk => (⟨hk, hk.2⟩ : _ ∧ k_ ≠ gb189)))) (fun _ hk => ⟨hk.1.1.1, ⟨hk.1.1.2, hk.1.2⟩⟩)))⟩; have n5_ : Aside0 (Kd.V k113 113 w8 w.heap.size (fun k_ => (P0_ k_ ∨ w.heap.size ≤ k_) ∧ some k_ ≠ (u3 : Value).ownBlock ∧ k_ ≠ gb189) (.slice A188_10 ((rd_T51 l0 x8_1).f2.f3).length c188_10) ((rd_T51 l0 x8_1).f2.f3)) := ⟨(by rw [hw]; exact (by (with_reducible repeat (first | apply Kd.V_alloc | apply Kd.V_drewN | apply Kd.V_drew)); exact Kd.V_mono (tVf (Kd.V_mono HL188_10.out (fun k_ hk => (⟨hk, hk.2⟩ : _ ∧ k_ ≠ gb189)))) (fun _ hk => ⟨hk.1.1.1, ⟨hk.1.1.2, hk.1.2⟩⟩)))⟩; have n6_ : Aside0 (Kd.V k49 49 w8 w.heap.size (fun k_ => (P0_ k_ ∨ w.heap.size ≤ k_) ∧ some k_ ≠ (u3 : Value).ownBlock ∧ k_ ≠ gb189) (.slice A188_11 ((rd_T51 l0 x8_1).f2.f4).length c188_11) ((rd_T51 l0 x8_1).f2.f4)) := ⟨(by rw [hw]; exact (by (with_reducible repeat (first | apply Kd.V_alloc | apply Kd.V_drewN | apply Kd.V_drew)); exact Kd.V_mono (tVf (Kd.V_mono HL188_11.out (fun k_ hk => (⟨hk, hk.2⟩ : _ ∧ k_ ≠ gb189)))) (fun _ hk => ⟨hk.1.1.1, ⟨hk.1.1.2, hk.1.2⟩⟩)))⟩; have n7_ : Aside0 (Kd.V k90 90 w8 w.heap.size (fun k_ => (P0_ k_ ∨ w.heap.size ≤ k_) ∧ some k_ ≠ (u3 : Value).ownBlock ∧ k_ ≠ gb189) (.slice A188_12 ((rd_T51 l0 x8_1).f2.f5).length c188_12) ((rd_T51 l0 x8_1).f2.f5)) := ⟨(by rw [hw]; exact (by (with_reducible repeat (first | apply Kd.V_alloc | apply Kd.V_drewN | apply Kd.V_drew)); exact Kd.V_mono (tVf (Kd.V_mono HL188_12.out (fun k_ hk => (⟨hk, hk.2⟩ : _ ∧ k_ ≠ gb189)))) (fun _ hk => ⟨hk.1.1.1, ⟨hk.1.1.2, hk.1.2⟩⟩)))⟩; have n8_ : Aside0 (w8.heap[gb189]? = some (.cells #[.string ((rd_T51 l0 x8_1).f0), .int .i64 ((rd_T51 l0 x8_1).f1.f0), .int .i64 ((rd_T51 l0 x8_1).f1.f1), .string ((rd_T51 l0 x8_1).f1.f2), .slice A188_4 ((rd_T51 l0 x8_1).f1.f3).length c188_4, .slice A188_5 ((rd_T51 l0 x8_1).f1.f4).length c188_5, .slice A188_6 ((rd_T51 l0 x8_1).f1.f5).length c188_6, .int .i64 ((rd_T51 l0 x8_1).f2.f0), .int .i64 ((rd_T51 l0 x8_1).f2.f1), .string ((rd_T51 l0 x8_1).f2.f2), .slice A188_10 ((rd_T51 l0 x8_1).f2.f3).length c188_10, .slice A188_11 ((rd_T51 l0 x8_1).f2.f4).length c188_11, .slice A188_12 ((rd_T51 l0 x8_1).f2.f5).length c188_12] 51 (0, 0))) := ⟨(by rw [hw]; exact (tPt BK189))⟩; have n9_ : Aside0 (Below w.heap.size w w8) := ⟨(by rw [hw]; exact (tBs GE189))⟩; clear hw HO_3 HO_6 HL188_4 HL188_5 HL188_6 HL188_10 HL188_11 HL188_12 BK189 HB; have HO_3 := n0_; have HO_6 := n1_; have HL188_4 := n2_; have HL188_5 := n3_; have HL188_6 := n4_; have HL188_10 := n5_; have HL188_11 := n6_; have HL188_12 := n7_; have BK189 := n8_; have HB := n9_; clear n0_ n1_ n2_ n3_ n4_ n5_ n6_ n7_ n8_ n9_; have hcz9 := cz13 BK189.out) | ((with_reducible refine gate_builtin (b := .append) (xs := #[.tmp 12, .tmp 14]) rfl ?_); at_builtin; refine Kd.N_append k59 (w0 := w) w.heap.size rfl (.tmp 12) (.tmp 14) 29 59 (.agg #[(.string ⟨#[]⟩), (.int .i64 0), (.int .i64 0), (.string ⟨#[]⟩), (.slice none 0 0), (.slice none 0 0), (.slice none 0 0), (.int .i64 0), (.int .i64 0), (.string ⟨#[]⟩), (.slice none 0 0), (.slice none 0 0), (.slice none 0 0)]) 224 rfl Tryz.underlying29 info59 rfl (by decide) (by omega) u3 x3_1 (⟨(rd_T51 l0 x8_1).f0, (⟨(rd_T51 l0 x8_1).f1.f0, (rd_T51 l0 x8_1).f1.f1, (rd_T51 l0 x8_1).f1.f2, (rd_T51 l0 x8_1).f1.f3, (rd_T51 l0 x8_1).f1.f4, (rd_T51 l0 x8_1).f1.f5⟩ : S49), (⟨(rd_T51 l0 x8_1).f2.f0, (rd_T51 l0 x8_1).f2.f1, (rd_T51 l0 x8_1).f2.f2, (rd_T51 l0 x8_1).f2.f3, (rd_T51 l0 x8_1).f2.f4, (rd_T51 l0 x8_1).f2.f5⟩ : S49)⟩ : S59) [.string ((rd_T51 l0 x8_1).f0), .int .i64 ((rd_T51 l0 x8_1).f1.f0), .int .i64 ((rd_T51 l0 x8_1).f1.f1), .string ((rd_T51 l0 x8_1).f1.f2), .slice A188_4 ((rd_T51 l0 x8_1).f1.f3).length c188_4, .slice A188_5 ((rd_T51 l0 x8_1).f1.f4).length c188_5, .slice A188_6 ((rd_T51 l0 x8_1).f1.f5).length c188_6, .int .i64 ((rd_T51 l0 x8_1).f2.f0), .int .i64 ((rd_T51 l0 x8_1).f2.f1), .string ((rd_T51 l0 x8_1).f2.f2), .slice A188_10 ((rd_T51 l0 x8_1).f2.f3).length c188_10, .slice A188_11 ((rd_T51 l0 x8_1).f2.f4).length c188_11, .slice A188_12 ((rd_T51 l0 x8_1).f2.f5).length c188_12] (fun k_ => (P0_ k_ ∨ w.heap.size ≤ k_) ∧ k_ ≠ gb189) (fun k_ => ((fun k_ => (P0_ k_ ∨ w.heap.size ≤ k_) ∧ k_ ≠ gb189)) k_ ∧ some k_ ≠ (u3 : Value).ownBlock) rfl rfl ?aP (fun _ hk => hk) ?aF ?aO ?aB ?aS ?aL ?_; (case aP => exact (k59_mkF _ _ (⟨(rd_T51 l0 x8_1).f0, (⟨(rd_T51 l0 x8_1).f1.f0, (rd_T51 l0 x8_1).f1.f1, (rd_T51 l0 x8_1).f1.f2, (rd_T51 l0 x8_1).f1.f3, (rd_T51 l0 x8_1).f1.f4, (rd_T51 l0 x8_1).f1.f5⟩ : S49), (⟨(rd_T51 l0 x8_1).f2.f0, (rd_T51 l0 x8_1).f2.f1, (rd_T51 l0 x8_1).f2.f2, (rd_T51 l0 x8_1).f2.f3, (rd_T51 l0 x8_1).f2.f4, (rd_T51 l0 x8_1).f2.f5⟩ : S49)⟩ : S59) (Kd.V_reads' (Kd.V_mono (ok' := (fun k_ => ((fun k_ => (P0_ k_ ∨ w.heap.size ≤ k_) ∧ k_ ≠ gb189)) k_ ∧ some k_ ≠ (u3 : Value).ownBlock)) (HL188_4.out) (fun k_ hk => ⟨⟨hk.1, hk.2.2⟩, hk.2.1⟩))).2.1 (Kd.V_F (Kd.V_mono (ok' := (fun k_ => ((fun k_ => (P0_ k_ ∨ w.heap.size ≤ k_) ∧ k_ ≠ gb189)) k_ ∧ some k_ ≠ (u3 : Value).ownBlock)) (HL188_4.out) (fun k_ hk => ⟨⟨hk.1, hk.2.2⟩, hk.2.1⟩))) (Kd.V_reads' (Kd.V_mono (ok' := (fun k_ => ((fun k_ => (P0_ k_ ∨ w.heap.size ≤ k_) ∧ k_ ≠ gb189)) k_ ∧ some k_ ≠ (u3 : Value).ownBlock)) (HL188_5.out) (fun k_ hk => ⟨⟨hk.1, hk.2.2⟩, hk.2.1⟩))).2.1 (Kd.V_F (Kd.V_mono (ok' := (fun k_ => ((fun k_ => (P0_ k_ ∨ w.heap.size ≤ k_) ∧ k_ ≠ gb189)) k_ ∧ some k_ ≠ (u3 : Value).ownBlock)) (HL188_5.out) (fun k_ hk => ⟨⟨hk.1, hk.2.2⟩, hk.2.1⟩))) (Kd.V_reads' (Kd.V_mono (ok' := (fun k_ => ((fun k_ => (P0_ k_ ∨ w.heap.size ≤ k_) ∧ k_ ≠ gb189)) k_ ∧ some k_ ≠ (u3 : Value).ownBlock)) (HL188_6.out) (fun k_ hk => ⟨⟨hk.1, hk.2.2⟩, hk.2.1⟩))).2.1 (Kd.V_F (Kd.V_mono (ok' := (fun k_ => ((fun k_ => (P0_ k_ ∨ w.heap.size ≤ k_) ∧ k_ ≠ gb189)) k_ ∧ some k_ ≠ (u3 : Value).ownBlock)) (HL188_6.out) (fun k_ hk => ⟨⟨hk.1, hk.2.2⟩, hk.2.1⟩))) (Kd.V_reads' (Kd.V_mono (ok' := (fun k_ => ((fun k_ => (P0_ k_ ∨ w.heap.size ≤ k_) ∧ k_ ≠ gb189)) k_ ∧ some k_ ≠ (u3 : Value).ownBlock)) (HL188_10.out) (fun k_ hk => ⟨⟨hk.1, hk.2.2⟩, hk.2.1⟩))).2.1 (Kd.V_F (Kd.V_mono (ok' := (fun k_ => ((fun k_ => (P0_ k_ ∨ w.heap.size ≤ k_) ∧ k_ ≠ gb189)) k_ ∧ some k_ ≠ (u3 : Value).ownBlock)) (HL188_10.out) (fun k_ hk => ⟨⟨hk.1, hk.2.2⟩, hk.2.1⟩))) (Kd.V_reads' (Kd.V_mono (ok' := (fun k_ => ((fun k_ => (P0_ k_ ∨ w.heap.size ≤ k_) ∧ k_ ≠ gb189)) k_ ∧ some k_ ≠ (u3 : Value).ownBlock)) (HL188_11.out) (fun k_ hk => ⟨⟨hk.1, hk.2.2⟩, hk.2.1⟩))).2.1 (Kd.V_F (Kd.V_mono (ok' := (fun k_ => ((fun k_ => (P0_ k_ ∨ w.heap.size ≤ k_) ∧ k_ ≠ gb189)) k_ ∧ some k_ ≠ (u3 : Value).ownBlock)) (HL188_11.out) (fun k_ hk => ⟨⟨hk.1, hk.2.2⟩, hk.2.1⟩))) (Kd.V_reads' (Kd.V_mono (ok' := (fun k_ => ((fun k_ => (P0_ k_ ∨ w.heap.size ≤ k_) ∧ k_ ≠ gb189)) k_ ∧ some k_ ≠ (u3 : Value).ownBlock)) (HL188_12.out) (fun k_ hk => ⟨⟨hk.1, hk.2.2⟩, hk.2.1⟩))).2.1 (Kd.V_F (Kd.V_mono (ok' := (fun k_ => ((fun k_ => (P0_ k_ ∨ w.heap.size ≤ k_) ∧ k_ ≠ gb189)) k_ ∧ some k_ ≠ (u3 : Value).ownBlock)) (HL188_12.out) (fun k_ hk => ⟨⟨hk.1, hk.2.2⟩, hk.2.1⟩))))); (case aB => exact (tBs GE189)); (case aF => exact (fun k_ hk => ⟨(.inr (Nat.le_trans (below_size (tBs GE189)) hk)), Kd.freshB (g := gb189) (o := .cells #[.string ((rd_T51 l0 x8_1).f0), .int .i64 ((rd_T51 l0 x8_1).f1.f0), .int .i64 ((rd_T51 l0 x8_1).f1.f1), .string ((rd_T51 l0 x8_1).f1.f2), .slice A188_4 ((rd_T51 l0 x8_1).f1.f3).length c188_4, .slice A188_5 ((rd_T51 l0 x8_1).f1.f4).length c188_5, .slice A188_6 ((rd_T51 l0 x8_1).f1.f5).length c188_6, .int .i64 ((rd_T51 l0 x8_1).f2.f0), .int .i64 ((rd_T51 l0 x8_1).f2.f1), .string ((rd_T51 l0 x8_1).f2.f2), .slice A188_10 ((rd_T51 l0 x8_1).f2.f3).length c188_10, .slice A188_11 ((rd_T51 l0 x8_1).f2.f4).length c188_11, .slice A188_12 ((rd_T51 l0 x8_1).f2.f5).length c188_12] 51 (0, 0)) (tK BK189) k_ hk⟩)); (case aO => exact (tN HO_3)); (case aS => exact (below_size (tBs GE189))); (case aL => have := LMc5.out; omega); intro v191 w10 ho hb hg hat; rw [← Ny190.out] at ho; replace HO_6 := Aside0.mk (Kd.V_afterv (ok := (fun k_ => (P0_ k_ ∨ w.heap.size ≤ k_) ∧ k_ ≠ gb189)) (by (with_reducible repeat (first | apply Kd.V_alloc | apply Kd.V_drewN | apply Kd.V_drew)); exact Kd.V_mono HO_6.out (fun _ hk => ⟨⟨hk.1, hk.2.2⟩, hk.2.1⟩)) hg hat); replace HL188_4 := Aside0.mk (Kd.V_afterv (ok := (fun k_ => (P0_ k_ ∨ w.heap.size ≤ k_) ∧ k_ ≠ gb189)) (by (with_reducible repeat (first | apply Kd.V_alloc | apply Kd.V_drewN | apply Kd.V_drew)); exact Kd.V_mono HL188_4.out (fun _ hk => ⟨⟨hk.1, hk.2.2⟩, hk.2.1⟩)) hg hat); replace HL188_5 := Aside0.mk (Kd.V_afterv (ok := (fun k_ => (P0_ k_ ∨ w.heap.size ≤ k_) ∧ k_ ≠ gb189)) (by (with_reducible repeat (first | apply Kd.V_alloc | apply Kd.V_drewN | apply Kd.V_drew)); exact Kd.V_mono HL188_5.out (fun _ hk => ⟨⟨hk.1, hk.2.2⟩, hk.2.1⟩)) hg hat); replace HL188_6 := Aside0.mk (Kd.V_afterv (ok := (fun k_ => (P0_ k_ ∨ w.heap.size ≤ k_) ∧ k_ ≠ gb189)) (by (with_reducible repeat (first | apply Kd.V_alloc | apply Kd.V_drewN | apply Kd.V_drew)); exact Kd.V_mono HL188_6.out (fun _ hk => ⟨⟨hk.1, hk.2.2⟩, hk.2.1⟩)) hg hat); replace HL188_10 := Aside0.mk (Kd.V_afterv (ok := (fun k_ => (P0_ k_ ∨ w.heap.size ≤ k_) ∧ k_ ≠ gb189)) (by (with_reducible repeat (first | apply Kd.V_alloc | apply Kd.V_drewN | apply Kd.V_drew)); exact Kd.V_mono HL188_10.out (fun _ hk => ⟨⟨hk.1, hk.2.2⟩, hk.2.1⟩)) hg hat); replace HL188_11 := Aside0.mk (Kd.V_afterv (ok := (fun k_ => (P0_ k_ ∨ w.heap.size ≤ k_) ∧ k_ ≠ gb189)) (by (with_reducible repeat (first | apply Kd.V_alloc | apply Kd.V_drewN | apply Kd.V_drew)); exact Kd.V_mono HL188_11.out (fun _ hk => ⟨⟨hk.1, hk.2.2⟩, hk.2.1⟩)) hg hat); replace HL188_12 := Aside0.mk (Kd.V_afterv (ok := (fun k_ => (P0_ k_ ∨ w.heap.size ≤ k_) ∧ k_ ≠ gb189)) (by (with_reducible repeat (first | apply Kd.V_alloc | apply Kd.V_drewN | apply Kd.V_drew)); exact Kd.V_mono HL188_12.out (fun _ hk => ⟨⟨hk.1, hk.2.2⟩, hk.2.1⟩)) hg hat); replace BK189 := Aside0.mk (blk_grown (g := gb189) (o := .cells #[.string ((rd_T51 l0 x8_1).f0), .int .i64 ((rd_T51 l0 x8_1).f1.f0), .int .i64 ((rd_T51 l0 x8_1).f1.f1), .string ((rd_T51 l0 x8_1).f1.f2), .slice A188_4 ((rd_T51 l0 x8_1).f1.f3).length c188_4, .slice A188_5 ((rd_T51 l0 x8_1).f1.f4).length c188_5, .slice A188_6 ((rd_T51 l0 x8_1).f1.f5).length c188_6, .int .i64 ((rd_T51 l0 x8_1).f2.f0), .int .i64 ((rd_T51 l0 x8_1).f2.f1), .string ((rd_T51 l0 x8_1).f2.f2), .slice A188_10 ((rd_T51 l0 x8_1).f2.f3).length c188_10, .slice A188_11 ((rd_T51 l0 x8_1).f2.f4).length c188_11, .slice A188_12 ((rd_T51 l0 x8_1).f2.f5).length c188_12] 51 (0, 0)) (tK BK189) hg (Kd.N_ne HO_3.out BK189.out (by decide))); replace HB := Aside0.mk (hb); have HO192 := Aside0.mk (ho); clear HO_3 ho hb hg hat))
    go_roundg k1
    case measure => have := HK1.out; omega
    case rel => exact ⟨(y190), (wrap64 (x8_1 + 1)), tS, H', ⟨by have := HK1.out; omega⟩, ⟨by (with_reducible repeat (first | apply Kd.N_alloc | apply Kd.N_drewN | apply Kd.N_drew)); exact Kd.N_mono HO192.out (fun _ hk => hk.1)⟩, ⟨by (with_reducible repeat (first | apply Kd.V_alloc | apply Kd.V_drewN | apply Kd.V_drew)); exact Kd.V_mono HO_6.out (fun _ hk => ⟨hk.1.1, hk.2⟩)⟩, ⟨tBs GE189⟩⟩
   obtain rfl := Option.some.inj H
   go_wp2
   go_ret
   exact ⟨_, tE, by (with_reducible repeat (first | apply Kd.N_alloc | apply Kd.N_drewN | apply Kd.N_drew)); exact HO_3.out, tB⟩
def r36Sum.l0 : Nat → List Int → Int → Int → Option (Int)
  | 0, _, _, _ => none
  | k + 1, x0, x3, x4 => if x4 < (x0.length : Int) then (if 0 ≤ x4 then (r36Sum.l0 k x0 (Int.tmod (wrap64 ((wrap64 ((wrap64 (x3 - (Int.tmod x3 256))) + (Go.bits .xor .i64 (Int.tmod x3 256) (wrap64 (rd x0 x4))))) * 16777619)) 4294967296) (wrap64 (x4 + 1))) else (none)) else (some x3)
def r36Sum.f (k : Nat) (l0 : List Int) : Option (Int) := r36Sum.l0 k l0 2166136261 0
set_option maxHeartbeats 8000000 in
set_option maxRecDepth 100000 in
theorem r36Sum.calls (k : Nat) (A0 : Option Addr) (c0 : Nat) (l0 : List Int) (r : Int) (w : World) (hr0 : Kd.C (Kd.int .u8) w A0 l0.length l0) (hc0 : l0.length ≤ c0) (h : r36Sum.f k l0 = some r) :
  Calls Tryz.prog 12 #[.slice A0 l0.length c0] w fun e w' => e = .returned (.int .i64 r) ∧ Drawn0 w w' := by
 have HR0 := Aside0.mk hr0
 have HC0 := Aside0.mk hc0
 clear hr0 hc0
 have H : (r36Sum.l0 k l0 2166136261 0) = some r := h
 clear h
 have H' := Aside0.mk H
 clear H
 go_enter Tryz.func12, Tryz.ntmps12
 go_wp2
 go_loopg [3, 4] k (fun kq v3 v4 w' => ∃ (x3_1 : Int) (x4_1 : Int), v3 = .int .i64 x3_1 ∧ v4 = .int .i64 x4_1 ∧ Aside0 (r36Sum.l0 kq l0 x3_1 x4_1 = some r) ∧ Aside0 (kq ≤ k) ∧ Drawn0 w w')
 case atStart => exact ⟨(2166136261), (0), tS, tS, H', ⟨Nat.le_refl _⟩, tD⟩
 case round =>
  clear H'
  obtain ⟨x3_1, x4_1, rfl, rfl, HA, HK1, ⟨m1, rfl⟩⟩ := hrel
  cases gk with
  | zero => exact absurd HA.out (by simp [r36Sum.l0])
  | succ k1 =>
   have H := HA.out
   clear HA
   simp only [r36Sum.l0] at H
   replace H := iD H
   rcases H with ⟨c2b0, H⟩ | ⟨c2b0, H⟩
   ·replace H := niD H
    obtain ⟨c3b0, H⟩ := H
    have H' := Aside0.mk H
    clear H
    have p193 : 0 ≤ (x4_1 : Int) := tA
    have q193 : x4_1 < (l0.length : Int) := tA
    obtain ⟨ad193, e193, hx193_0⟩ := Kd.at_int HR0.out x4_1 p193 q193
    cases e193
    replace p193 := eq_true p193
    replace q193 := eq_true q193
    go_wp2
    go_roundg k1
    case measure => have := HK1.out; omega
    case rel => exact ⟨(Int.tmod (wrap64 ((wrap64 ((wrap64 (x3_1 - (Int.tmod x3_1 256))) + (Go.bits .xor .i64 (Int.tmod x3_1 256) (wrap64 (rd l0 x4_1))))) * 16777619)) 4294967296), (wrap64 (x4_1 + 1)), tS, tS, H', ⟨by have := HK1.out; omega⟩, tD⟩
   exact zz5
mutual
def r06more.j0 : Nat → Int → Bool → Option (Int × Int)
  | 0, _, _ => none
  | k + 1, x0, x11 => if x11 = true then (some (1, 128)) else (if x0 ≥ 224 then (r06more.j1 k x0 (decide (x0 ≤ 239))) else (r06more.j1 k x0 false))
def r06more.j1 : Nat → Int → Bool → Option (Int × Int)
  | 0, _, _ => none
  | k + 1, x0, x17 => if x17 = true then (some (2, 2048)) else (if x0 ≥ 240 then (if x0 ≤ 244 then (some (3, 65536)) else (some ((-1), 0))) else (some ((-1), 0)))
end
def r06more.f (k : Nat) (a0 : Int) : Option (Int × Int) := if a0 < 128 then (some (0, 0)) else (if a0 ≥ 194 then (r06more.j0 k a0 (decide (a0 ≤ 223))) else (r06more.j0 k a0 false))
set_option maxHeartbeats 8000000 in
set_option maxRecDepth 100000 in
theorem r06more.calls (k : Nat) (a0 : Int) (r1 : Int) (r2 : Int) (w : World) (h : r06more.f k a0 = some (r1, r2)) :
  Calls Tryz.prog 80 #[.int .u8 a0] w fun e w' => e = .returned (.tuple #[.int .i64 r1, .int .i64 r2]) ∧ Drawn0 w w' := by
 have H : (if a0 < 128 then (some (0, 0)) else (if a0 ≥ 194 then (r06more.j0 k a0 (decide (a0 ≤ 223))) else (r06more.j0 k a0 false))) = some (r1, r2) := h
 clear h
 replace H := iD H
 rcases H with ⟨c2b0, H⟩ | ⟨c2b0, H⟩
 ·simp only [Option.some.injEq, Prod.mk.injEq] at H
  obtain ⟨rfl, rfl⟩ := H
  go_enter Tryz.func80, Tryz.ntmps80
  go_wp2
  go_ret2
  exact ⟨tS, tD⟩
 have HC3 := Aside0.mk H
 clear H
 go_enter Tryz.func80, Tryz.ntmps80
 go_upto_region 3 with (fail)
 go_cut [11] (fun v11 wc => ∃ (kq : Nat) (x11_2 : Bool), v11 = .bool x11_2 ∧ Aside0 (r06more.j0 kq a0 x11_2 = some (r1, r2)) ∧ Aside0 (kq ≤ k) ∧ Drawn0 w wc)
 case first =>
  have H := HC3.out
  clear HC3
  replace H := iG H
  rcases H with ⟨c4b0, H⟩ | ⟨c4b0, H⟩
  ·(first | rw [c4b0] | (simp only [i64_w, i32_w]; rw [c4b0]) | skip)
   have H' := Aside0.mk H
   clear H
   go_wp2
   go_meet
   case rel => exact ⟨_, (decide (a0 ≤ 223)), tS, H', ⟨by first | omega | exact Nat.le_refl _⟩, tD⟩
  (first | rw [c4b0] | (simp only [i64_w, i32_w]; rw [c4b0]) | skip)
  exact zz10
 case rest =>
  clear HC3
  try clear c2b0
  obtain ⟨kq, x11_2, rfl, HA, HJ2, ⟨mc2, rfl⟩⟩ := hcut
  cases kq with
  | zero => exact absurd HA.out (by simp [r06more.j0])
  | succ kj2 =>
   have H := HA.out
   clear HA
   simp only [r06more.j0] at H
   replace H := iB H
   rcases H with ⟨rfl, H⟩ | ⟨rfl, H⟩
   ·exact zz12
   have HC6 := Aside0.mk H
   clear H
   go_upto_region 5 with (fail)
   go_cut [17] (fun v17 wc => ∃ (kq : Nat) (x17_5 : Bool), v17 = .bool x17_5 ∧ Aside0 (r06more.j1 kq a0 x17_5 = some (r1, r2)) ∧ Aside0 (kq ≤ kj2) ∧ Drawn0 w wc)
   case first =>
    have H := HC6.out
    clear HC6
    replace H := iG H
    rcases H with ⟨c7b0, H⟩ | ⟨c7b0, H⟩
    ·(first | rw [c7b0] | (simp only [i64_w, i32_w]; rw [c7b0]) | skip)
     have H' := Aside0.mk H
     clear H
     go_wp2
     go_meet
     case rel => exact ⟨_, (decide (a0 ≤ 239)), tS, H', ⟨by have := HJ2.out; first | omega | exact Nat.le_refl _⟩, tD⟩
    (first | rw [c7b0] | (simp only [i64_w, i32_w]; rw [c7b0]) | skip)
    exact zz13
   case rest =>
    clear HC6
    try clear c2b0
    obtain ⟨kq, x17_5, rfl, HA, HJ5, ⟨mc5, rfl⟩⟩ := hcut
    cases kq with
    | zero => exact absurd HA.out (by simp [r06more.j1])
    | succ kj5 =>
     have H := HA.out
     clear HA
     simp only [r06more.j1] at H
     replace H := iB H
     rcases H with ⟨rfl, H⟩ | ⟨rfl, H⟩
     ·exact zz12
     replace H := iG H
     rcases H with ⟨c9b0, H⟩ | ⟨c9b0, H⟩
     ·replace H := iD H
      rcases H with ⟨c10b0, H⟩ | ⟨c10b0, H⟩
      ·exact zz12
      exact zz12
     exact zz12
end
end Go.Proofs.YtahdjajdaggmjaaGreatDoor.XPa
