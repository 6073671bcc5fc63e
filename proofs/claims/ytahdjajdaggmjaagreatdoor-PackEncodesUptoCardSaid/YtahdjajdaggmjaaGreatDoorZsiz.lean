/-
Walk: term.each.
-/
import Derived.Shelf.Abstract
import Derived.Test.YtahdjajdaggmjaaGreatDoorZterm
import Derived.Laws.EntriesVeiled
section
set_option linter.unusedVariables false
set_option linter.unusedSimpArgs false
namespace Go.Proofs.YtahdjajdaggmjaaGreatDoor.XPa
open Go.RowKit Go.Proofs.YtahdjajdaggmjaaGreatDoorW.PrintWords Go.Proofs.YtahdjajdaggmjaaGreatDoorW.PrintLast Go.Proofs.YtahdjajdaggmjaaGreatDoorW.PrintMore
def bindsI (k i : Int) : Int × Int :=
 if i = 1 ∧ (k = 4 ∨ k = 7) then (1, 0) else if i = 0 ∧ (k = 5 ∨ k = 22 ∨ k = 27) then (1, 0) else if i = 0 ∧ (k = 11 ∨ k = 12 ∨ k = 14) then (0, 1) else (0, 0)
def moreI (k : Int) : Int := if k = 15 then 1 else 0
theorem bindsI_01 (k i : Int) : 0 ≤ (bindsI k i).1 ∧ (bindsI k i).1 ≤ 1 ∧ 0 ≤ (bindsI k i).2 ∧ (bindsI k i).2 ≤ 1 := by
 unfold bindsI
 repeat' split
 all_goals simp
theorem moreI_01 (k : Int) : 0 ≤ moreI k ∧ moreI k ≤ 1 := by
 unfold moreI
 split <;> omega
def kidsA (kind : Int) : List Tm → Nat → List (Tm × Int × Int)
 | [], _ => []
 | k :: r, i => (k, (bindsI kind (i : Int)).1, (bindsI kind (i : Int)).2) :: kidsA kind r (i + 1)
def kidsP (kind : Int) (ks : List Tm) : List (Tm × Int × Int) := ks.map fun k => (k, 0, moreI kind)
def kidsB (kind : Int) (bs : List Br) : List (Tm × Int × Int) := bs.flatMap fun b => kidsP kind b.f1
def kidsOf (t : Tm) : List (Tm × Int × Int) := kidsA t.f0 t.f4 0 ++ kidsB t.f0 t.f5
def eachL {σ : Type} (f : Tm → Int → Int → σ → Bool × σ) : List (Tm × Int × Int) → σ → Bool × σ
 | [], s => (true, s)
 | x :: r, s => if (f x.1 x.2.1 x.2.2 s).1 = true then eachL f r (f x.1 x.2.1 x.2.2 s).2 else (false, (f x.1 x.2.1 x.2.2 s).2)
theorem eachL_yes {σ : Type} {f : Tm → Int → Int → σ → Bool × σ} {k : Tm} {v d : Int} {r : List (Tm × Int × Int)} {s : σ} (h : (f k v d s).1 = true) : eachL f ((k, v, d) :: r) s = eachL f r (f k v d s).2 := by
 rw [eachL, if_pos h]
theorem eachL_no {σ : Type} {f : Tm → Int → Int → σ → Bool × σ} {k : Tm} {v d : Int} {r : List (Tm × Int × Int)} {s : σ} (h : (f k v d s).1 = false) : eachL f ((k, v, d) :: r) s = (false, (f k v d s).2) := by
 rw [eachL, if_neg (by rw [h]; exact Bool.false_ne_true)]
def KeepT (w w' : World) : Prop := w.heap.size ≤ w'.heap.size ∧ ∀ (g : Nat) (cs : Array Value), w.heap[g]? = some (Obj.cells cs 49 (0, 0)) → w'.heap[g]? = some (Obj.cells cs 49 (0, 0))
theorem KeepT.refl (w : World) : KeepT w w := ⟨Nat.le_refl _, fun _ _ h => h⟩
theorem KeepT.trans {w w1 w2 : World} (h : KeepT w w1) (h2 : KeepT w1 w2) : KeepT w w2 := ⟨Nat.le_trans h.1 h2.1, fun g cs hg => h2.2 g cs (h.2 g cs hg)⟩
theorem KeepT.of_below {w w1 : World} (hb : Below w.heap.size w w1) : KeepT w w1 := ⟨hb.size, fun g cs hg => blk_below hg hb⟩
theorem KeepT.below {w w1 w2 : World} (h : KeepT w w1) (hb : Below w1.heap.size w1 w2) : KeepT w w2 := h.trans (KeepT.of_below hb)
set_option maxHeartbeats 4000000 in
set_option maxRecDepth 100000 in
theorem te_each1 {σ : Type} (HBinds : ∀ (a i : Int) (w : World), Calls Tryz.prog 97 #[.int .i64 a, .int .i64 i] w fun e w' => e = .returned (.tuple #[.int .i64 (bindsI a i).1, .int .i64 (bindsI a i).2]) ∧ Below w.heap.size w w')
  (F : FuncId) (p0 : Value) (f : Tm → Int → Int → σ → Bool × σ) (St : σ → World → Prop) (En : World → Prop) (Pk : Tm → Prop) (w0 : World) (t : Tm) (cs : List Value) (s0 : σ) (w : World)
  (eg : ∀ args w, (callFunc F args).run Tryz.prog w = .ok (.enter F args) w) (hK : k49.K w0 t cs)
  (hSb : ∀ s w1, St s w1 → Below w0.heap.size w0 w1) (hSm : ∀ s w1 w2, St s w1 → Below w1.heap.size w1 w2 → St s w2)
  (hF : ∀ (k : Tm) (v d : Int) (s : σ) (ks : List Value) (w1 : World), Pk k → 0 ≤ v ∧ v ≤ 1 ∧ 0 ≤ d ∧ d ≤ 1 → St s w1 → k49.K w0 k ks →
   Calls Tryz.prog F #[.agg ks.toArray, .int .i64 v, .int .i64 d, p0] w1 fun e w' => e = .returned (.bool (f k v d s).1) ∧ ((f k v d s).1 = true → St (f k v d s).2 w') ∧ ((f k v d s).1 = false → En w') ∧ KeepT w1 w')
  (hP4 : ∀ k ∈ t.f4, Pk k) (hP5 : ∀ b ∈ t.f5, ∀ k ∈ b.f1, Pk k) (hS : St s0 w) :
  Calls Tryz.prog 78 #[.agg cs.toArray, .func (.func F) #[] #[p0]] w fun e w' => e = .returned (.bool (eachL f (kidsOf t) s0).1) ∧ ((eachL f (kidsOf t) s0).1 = true → St (eachL f (kidsOf t) s0).2 w') ∧ ((eachL f (kidsOf t) s0).1 = false → En w') ∧ KeepT w w' := by
 obtain ⟨A3, c3, A4, c4, A5, c5, rfl, l3, g3, l4, g4, l5, g5⟩ := k49_open hK
 have HB := Aside0.mk HBinds
 have HSB := Aside0.mk hSb
 have HSM := Aside0.mk hSm
 have HF := Aside0.mk hF
 have HG4 := Aside0.mk g4
 have HG5 := Aside0.mk g5
 have hm4 : t.f4.length ≤ 9223372036854775807 := Kd.C_max g4
 have hm5 : t.f5.length ≤ 9223372036854775807 := Kd.C_max g5
 have HS0 := Aside0.mk (hSm _ _ _ hS (below_alloc (Below.refl _ _) (.cells #[.int .i64 t.f0, .int .i64 t.f1, .string t.f2, .slice A3 t.f3.length c3, .slice A4 t.f4.length c4, .slice A5 t.f5.length c5] 49)))
 have HT0 := Aside0.mk (blk_new w (.cells #[.int .i64 t.f0, .int .i64 t.f1, .string t.f2, .slice A3 t.f3.length c3, .slice A4 t.f4.length c4, .slice A5 t.f5.length c5] 49))
 have HK0 := Aside0.mk ((KeepT.refl w).below (below_alloc (Below.refl _ _) (.cells #[.int .i64 t.f0, .int .i64 t.f1, .string t.f2, .slice A3 t.f3.length c3, .slice A4 t.f4.length c4, .slice A5 t.f5.length c5] 49)))
 have HP4 := Aside0.mk hP4
 have HP5 := Aside0.mk hP5
 clear hP4 hP5
 clear HBinds hSb hSm hF hS g3 g4 g5 l3 l4 l5 hK
 go_enter Tryz.func78, Tryz.ntmps78
 go_wp2
 generalize hbt : w.heap.size = bt at *
 generalize hW0 : w.alloc (.cells #[.int .i64 t.f0, .int .i64 t.f1, .string t.f2, .slice A3 t.f3.length c3, .slice A4 t.f4.length c4, .slice A5 t.f5.length c5] 49) = W0 at *
 clear hW0 hbt
 go_loopg [17] (t.f4.length + 1) (fun kq v17 wx => ∃ (j : Nat) (s : σ), v17 = .int .i64 (j : Int) ∧ j ≤ t.f4.length ∧ kq + j = t.f4.length + 1 ∧ Aside0 (eachL f (kidsOf t) s0 = eachL f (kidsA t.f0 (t.f4.drop j) j ++ kidsB t.f0 t.f5) s) ∧ Aside0 (St s wx) ∧ Aside0 (KeepT w wx) ∧ Aside0 (wx.heap[bt]? = some (.cells #[.int .i64 t.f0, .int .i64 t.f1, .string t.f2, .slice A3 t.f3.length c3, .slice A4 t.f4.length c4, .slice A5 t.f5.length c5] 49 (0, 0))))
 case atStart => exact ⟨0, s0, rfl, Nat.zero_le _, rfl, ⟨rfl⟩, HS0, HK0, HT0⟩
 case round =>
  clear HS0 HK0 HT0
  obtain ⟨j, s, rfl, hj, hk, HE, HS, HK, HT⟩ := hrel
  have hz0 := (blk_cell HT.out 0).trans (rfl : _ = some (Value.int .i64 t.f0))
  by_cases hlt : j < t.f4.length
  ·have hd : decide ((j : Int) < (t.f4.length : Int)) = true := decide_eq_true (by omega)
   have HB0 := Aside0.mk (HSB.out _ _ HS.out)
   obtain ⟨ad, A3k, c3k, A4k, c4k, A5k, c5k, e, h0, h1, h2, h3, h4, h5, hKk⟩ := at_tm HG4.out j hlt
   cases e
   have hmem : t.f4[j] ∈ t.f4 := List.getElem_mem _
   have hdr := List.drop_eq_getElem_cons hlt
   obtain ⟨k, hkk⟩ : ∃ k, t.f4[j] = k := ⟨_, rfl⟩
   rw [hkk] at h0 h1 h2 h3 h4 h5 hKk hmem hdr
   replace h0 := pw_cell_below HB0.out h0
   replace h1 := pw_cell_below HB0.out h1
   replace h2 := pw_cell_below HB0.out h2
   replace h3 := pw_cell_below HB0.out h3
   replace h4 := pw_cell_below HB0.out h4
   replace h5 := pw_cell_below HB0.out h5
   have hE := HE.out
   rw [hdr, kidsA, List.cons_append] at hE
   obtain ⟨v, hv⟩ : ∃ v, (bindsI t.f0 (j : Int)).1 = v := ⟨_, rfl⟩
   obtain ⟨d, hd2⟩ : ∃ d, (bindsI t.f0 (j : Int)).2 = d := ⟨_, rfl⟩
   rw [hv, hd2] at hE
   have hba : Below wr.heap.size wr (wr.alloc (.cells #[.int .i64 k.f0, .int .i64 k.f1, .string k.f2, .slice A3k k.f3.length c3k, .slice A4k k.f4.length c4k, .slice A5k k.f5.length c5k] 49)) := below_alloc (Below.refl _ _) _
   have HNB := Aside0.mk (blk_new wr (.cells #[.int .i64 k.f0, .int .i64 k.f1, .string k.f2, .slice A3k k.f3.length c3k, .slice A4k k.f4.length c4k, .slice A5k k.f5.length c5k] 49))
   have HKA := Aside0.mk (HK.out.below hba)
   have HTA := Aside0.mk (blk_below HT.out hba)
   have HSA := Aside0.mk (HSM.out _ _ _ HS.out hba)
   have hcb := HB.out t.f0 (j : Int) (wr.alloc (.cells #[.int .i64 k.f0, .int .i64 k.f1, .string k.f2, .slice A3k k.f3.length c3k, .slice A4k k.f4.length c4k, .slice A5k k.f5.length c5k] 49))
   rw [hv, hd2] at hcb
   have HKk := Aside0.mk hKk
   have hz0a := (blk_cell HTA.out 0).trans (rfl : _ = some (Value.int .i64 t.f0))
   have HMEM := Aside0.mk (HP4.out _ hmem)
   have HVD := Aside0.mk (bindsI_01 t.f0 (j : Int))
   rw [hv, hd2] at HVD
   have HEE := Aside0.mk hE
   clear hba hdr hkk hmem hE HE HS HK HB0 hKk HT hv hd2
   cases hb : (f k v d s).1
   all_goals
    have HBV := Aside0.mk hb
    clear hb
    go_wp2_with (first
     | (go_at_call 97; refine hcb.mono ?_; rintro e w4 ⟨rfl, hb4⟩; have HK4 := Aside0.mk (HKA.out.below hb4); have HT4 := Aside0.mk (blk_below HTA.out hb4); have HS4 := Aside0.mk (HSM.out _ _ _ HSA.out hb4); have HN4 := Aside0.mk (blk_below HNB.out hb4); have hq0 := (blk_cell HN4.out 0).trans (rfl : _ = some (Value.int .i64 k.f0)); have hq1 := (blk_cell HN4.out 1).trans (rfl : _ = some (Value.int .i64 k.f1)); have hq2 := (blk_cell HN4.out 2).trans (rfl : _ = some (Value.string k.f2)); have hq3 := (blk_cell HN4.out 3).trans (rfl : _ = some (Value.slice A3k k.f3.length c3k)); have hq4 := (blk_cell HN4.out 4).trans (rfl : _ = some (Value.slice A4k k.f4.length c4k)); have hq5 := (blk_cell HN4.out 5).trans (rfl : _ = some (Value.slice A5k k.f5.length c5k)); have hcf := HF.out k v d s _ w4 HMEM.out HVD.out HS4.out HKk.out; rw [HBV.out] at hcf; clear hcb hb4)
     | (go_at_fn F; refine hcf.mono ?_; rintro e w5 ⟨rfl, hs5, hn5, hk5⟩; have HS5 := Aside0.mk hs5; have HN5 := Aside0.mk hn5; have HK5 := Aside0.mk (HK4.out.trans hk5); have HT5 := Aside0.mk (hk5.2 _ _ HT4.out); clear hcf hs5 hn5 hk5))
   ·go_ret
    exact ⟨by rw [HEE.out, eachL_no HBV.out]; rfl, by rw [HEE.out, eachL_no HBV.out]; exact fun h => absurd h Bool.false_ne_true, fun _ => HN5.out (by trivial), HK5.out⟩
   ·go_roundg (gk - 1)
    case measure => omega
    case rel => exact ⟨j + 1, _, rfl, by omega, by omega, ⟨by rw [HEE.out, eachL_yes HBV.out]⟩, ⟨HS5.out (by trivial)⟩, HK5, HT5⟩
  ·have hd : decide ((j : Int) < (t.f4.length : Int)) = false := decide_eq_false (by omega)
   have hE := HE.out
   rw [List.drop_eq_nil_of_le (by omega), kidsA, List.nil_append] at hE
   have HE2 := Aside0.mk hE
   clear hE HE
   have hz5 := (blk_cell HT.out 5).trans (rfl : _ = some (Value.slice A5 t.f5.length c5))
   have hz0 := (blk_cell HT.out 0).trans (rfl : _ = some (Value.int .i64 t.f0))
   go_upto_if 38 with fail
   go_cut [9] from 36 to 38 (fun v9 wx => v9 = .int .i64 (moreI t.f0) ∧ Aside0 (St s wx) ∧ Aside0 (KeepT w wx) ∧ Aside0 (wx.heap[bt]? = some (.cells #[.int .i64 t.f0, .int .i64 t.f1, .string t.f2, .slice A3 t.f3.length c3, .slice A4 t.f4.length c4, .slice A5 t.f5.length c5] 49 (0, 0))))
   case first =>
    by_cases k15 : t.f0 = 15
    ·have b15 : (t.f0 == 15) = true := by simp [k15]
     have hmo : moreI t.f0 = 1 := by rw [moreI, if_pos k15]
     clear k15
     go_wp2
     go_meet
     exact ⟨by rw [hmo], HS, HK, HT⟩
    ·have b15 : (t.f0 == 15) = false := by simp [k15]
     have hmo : moreI t.f0 = 0 := by rw [moreI, if_neg k15]
     clear k15
     go_wp2
     go_meet
     exact ⟨by rw [hmo], HS, HK, HT⟩
   case rest =>
    clear hz0 hz5 HS HK HT
    obtain ⟨rfl, HS, HK, HT⟩ := hcut
    have hz5 := (blk_cell HT.out 5).trans (rfl : _ = some (Value.slice A5 t.f5.length c5))
    go_wp2
    obtain ⟨go, rfl⟩ : ∃ go, go = gk := ⟨_, rfl⟩
    go_loopg [42] (t.f5.length + 1) (fun kq v42 wx => ∃ (i : Nat) (s : σ), v42 = .int .i64 (i : Int) ∧ i ≤ t.f5.length ∧ kq + i = t.f5.length + 1 ∧ Aside0 (eachL f (kidsOf t) s0 = eachL f (kidsB t.f0 (t.f5.drop i)) s) ∧ Aside0 (St s wx) ∧ Aside0 (KeepT w wx))
    case atStart => exact ⟨0, s, rfl, Nat.zero_le _, rfl, HE2, HS, HK⟩
    case round =>
     clear HS HK HT HE2 hz5
     obtain ⟨i, s, rfl, hi, hki, HE, HS, HK⟩ := hrel
     by_cases hli : i < t.f5.length
     ·have hdi : decide ((i : Int) < (t.f5.length : Int)) = true := decide_eq_true (by omega)
      have HB0 := Aside0.mk (HSB.out _ _ HS.out)
      obtain ⟨ad, A0b, c0b, A1b, c1b, e, h0, h1, l0, g0, l1, g1⟩ := at_br HG5.out i hli
      cases e
      have hmb : t.f5[i] ∈ t.f5 := List.getElem_mem _
      have hdr := List.drop_eq_getElem_cons hli
      obtain ⟨b, hbb⟩ : ∃ b, t.f5[i] = b := ⟨_, rfl⟩
      rw [hbb] at h0 h1 l0 g0 l1 g1 hmb hdr
      replace h0 := pw_cell_below HB0.out h0
      replace h1 := pw_cell_below HB0.out h1
      have hE := HE.out
      rw [hdr, kidsB, List.flatMap_cons, ← kidsB] at hE
      have HG1 := Aside0.mk g1
      have HMB := Aside0.mk hmb
      have hmk1 : b.f1.length ≤ 9223372036854775807 := Kd.C_max g1
      have hba : Below wr.heap.size wr (wr.alloc (.cells #[.slice A0b b.f0.length c0b, .slice A1b b.f1.length c1b] 90)) := below_alloc (Below.refl _ _) _
      have HSA := Aside0.mk (HSM.out _ _ _ HS.out hba)
      have HKA := Aside0.mk (HK.out.below hba)
      have HEE := Aside0.mk hE
      clear hE HE hdr hbb hmb g0 g1 l0 l1 hba HS HK HB0
      go_wp2
      obtain ⟨gp, rfl⟩ : ∃ gp, gp = gk := ⟨_, rfl⟩
      obtain ⟨wo, rfl⟩ : ∃ wo : World, wo = wr := ⟨_, rfl⟩
      go_loopg [49] (b.f1.length + 1) (fun kq v49 wx => ∃ (j : Nat) (s : σ), v49 = .int .i64 (j : Int) ∧ j ≤ b.f1.length ∧ kq + j = b.f1.length + 1 ∧ Aside0 (eachL f (kidsOf t) s0 = eachL f (kidsP t.f0 (b.f1.drop j) ++ kidsB t.f0 (t.f5.drop (i + 1))) s) ∧ Aside0 (St s wx) ∧ Aside0 (KeepT w wx))
      case atStart => exact ⟨0, s, rfl, Nat.zero_le _, rfl, HEE, HSA, HKA⟩
      case round =>
       clear HSA HKA HEE h0 h1
       obtain ⟨j, s, rfl, hj, hkj, HE, HS, HK⟩ := hrel
       by_cases hlt : j < b.f1.length
       ·have hd : decide ((j : Int) < (b.f1.length : Int)) = true := decide_eq_true (by omega)
        have HB0 := Aside0.mk (HSB.out _ _ HS.out)
        obtain ⟨ad, A3k, c3k, A4k, c4k, A5k, c5k, e, h0, h1, h2, h3, h4, h5, hKk⟩ := at_tm HG1.out j hlt
        cases e
        have hmem : b.f1[j] ∈ b.f1 := List.getElem_mem _
        have hdr := List.drop_eq_getElem_cons hlt
        obtain ⟨k, hkk⟩ : ∃ k, b.f1[j] = k := ⟨_, rfl⟩
        rw [hkk] at h0 h1 h2 h3 h4 h5 hKk hmem hdr
        replace h0 := pw_cell_below HB0.out h0
        replace h1 := pw_cell_below HB0.out h1
        replace h2 := pw_cell_below HB0.out h2
        replace h3 := pw_cell_below HB0.out h3
        replace h4 := pw_cell_below HB0.out h4
        replace h5 := pw_cell_below HB0.out h5
        have hE := HE.out
        rw [hdr, kidsP, List.map_cons, List.cons_append, ← kidsP] at hE
        have hba : Below wr.heap.size wr (wr.alloc (.cells #[.int .i64 k.f0, .int .i64 k.f1, .string k.f2, .slice A3k k.f3.length c3k, .slice A4k k.f4.length c4k, .slice A5k k.f5.length c5k] 49)) := below_alloc (Below.refl _ _) _
        have HKA := Aside0.mk (HK.out.below hba)
        have HSA := Aside0.mk (HSM.out _ _ _ HS.out hba)
        have HEE := Aside0.mk hE
        have hcf := HF.out k 0 (moreI t.f0) s _ (wr.alloc (.cells #[.int .i64 k.f0, .int .i64 k.f1, .string k.f2, .slice A3k k.f3.length c3k, .slice A4k k.f4.length c4k, .slice A5k k.f5.length c5k] 49)) (HP5.out _ HMB.out _ hmem) ⟨by omega, by omega, moreI_01 t.f0⟩ HSA.out hKk
        clear hba hdr hkk hmem hE HE HS HK HB0 hKk HSA
        cases hb : (f k 0 (moreI t.f0) s).1
        all_goals
         have HBV := Aside0.mk hb
         rw [hb] at hcf
         clear hb
         go_wp2_with (go_at_fn F; refine hcf.mono ?_; rintro e w5 ⟨rfl, hs5, hn5, hk5⟩; have HS5 := Aside0.mk hs5; have HN5 := Aside0.mk hn5; have HK5 := Aside0.mk (HKA.out.trans hk5); clear hcf hs5 hn5 hk5)
        ·go_ret
         exact ⟨by rw [HEE.out, eachL_no HBV.out]; rfl, by rw [HEE.out, eachL_no HBV.out]; exact fun h => absurd h Bool.false_ne_true, fun _ => HN5.out (by trivial), HK5.out⟩
        ·go_roundg (gk - 1)
         case measure => omega
         case rel => exact ⟨j + 1, _, rfl, by omega, by omega, ⟨by rw [HEE.out, eachL_yes HBV.out]⟩, ⟨HS5.out (by trivial)⟩, HK5⟩
       ·have hd : decide ((j : Int) < (b.f1.length : Int)) = false := decide_eq_false (by omega)
        have hE := HE.out
        rw [List.drop_eq_nil_of_le (by omega), kidsP, List.map_nil, List.nil_append] at hE
        have HE3 := Aside0.mk hE
        clear hE HE
        go_wp2
        go_roundg (gp - 1)
        case measure => omega
        case rel => exact ⟨i + 1, s, rfl, by omega, by omega, HE3, HS, HK⟩
     ·have hdi : decide ((i : Int) < (t.f5.length : Int)) = false := decide_eq_false (by omega)
      have hE := HE.out
      rw [List.drop_eq_nil_of_le (by omega), kidsB, List.flatMap_nil, eachL] at hE
      have HE3 := Aside0.mk hE
      clear hE HE
      go_wp2
      go_ret
      exact ⟨by rw [HE3.out]; rfl, by rw [HE3.out]; exact fun _ => HS.out, by rw [HE3.out]; exact fun h => absurd h.symm Bool.false_ne_true, HK.out⟩
set_option maxHeartbeats 4000000 in
set_option maxRecDepth 100000 in
theorem te_each3 {σ : Type} (HBinds : ∀ (a i : Int) (w : World), Calls Tryz.prog 97 #[.int .i64 a, .int .i64 i] w fun e w' => e = .returned (.tuple #[.int .i64 (bindsI a i).1, .int .i64 (bindsI a i).2]) ∧ Below w.heap.size w w')
  (F : FuncId) (p0 p1 p2 : Value) (f : Tm → Int → Int → σ → Bool × σ) (St : σ → World → Prop) (En : World → Prop) (Pk : Tm → Prop) (w0 : World) (t : Tm) (cs : List Value) (s0 : σ) (w : World)
  (eg : ∀ args w, (callFunc F args).run Tryz.prog w = .ok (.enter F args) w) (hK : k49.K w0 t cs)
  (hSb : ∀ s w1, St s w1 → Below w0.heap.size w0 w1) (hSm : ∀ s w1 w2, St s w1 → Below w1.heap.size w1 w2 → St s w2)
  (hF : ∀ (k : Tm) (v d : Int) (s : σ) (ks : List Value) (w1 : World), Pk k → 0 ≤ v ∧ v ≤ 1 ∧ 0 ≤ d ∧ d ≤ 1 → St s w1 → k49.K w0 k ks →
   Calls Tryz.prog F #[.agg ks.toArray, .int .i64 v, .int .i64 d, p0, p1, p2] w1 fun e w' => e = .returned (.bool (f k v d s).1) ∧ ((f k v d s).1 = true → St (f k v d s).2 w') ∧ ((f k v d s).1 = false → En w') ∧ KeepT w1 w')
  (hP4 : ∀ k ∈ t.f4, Pk k) (hP5 : ∀ b ∈ t.f5, ∀ k ∈ b.f1, Pk k) (hS : St s0 w) :
  Calls Tryz.prog 78 #[.agg cs.toArray, .func (.func F) #[] #[p0, p1, p2]] w fun e w' => e = .returned (.bool (eachL f (kidsOf t) s0).1) ∧ ((eachL f (kidsOf t) s0).1 = true → St (eachL f (kidsOf t) s0).2 w') ∧ ((eachL f (kidsOf t) s0).1 = false → En w') ∧ KeepT w w' := by
 obtain ⟨A3, c3, A4, c4, A5, c5, rfl, l3, g3, l4, g4, l5, g5⟩ := k49_open hK
 have HB := Aside0.mk HBinds
 have HSB := Aside0.mk hSb
 have HSM := Aside0.mk hSm
 have HF := Aside0.mk hF
 have HG4 := Aside0.mk g4
 have HG5 := Aside0.mk g5
 have hm4 : t.f4.length ≤ 9223372036854775807 := Kd.C_max g4
 have hm5 : t.f5.length ≤ 9223372036854775807 := Kd.C_max g5
 have HS0 := Aside0.mk (hSm _ _ _ hS (below_alloc (Below.refl _ _) (.cells #[.int .i64 t.f0, .int .i64 t.f1, .string t.f2, .slice A3 t.f3.length c3, .slice A4 t.f4.length c4, .slice A5 t.f5.length c5] 49)))
 have HT0 := Aside0.mk (blk_new w (.cells #[.int .i64 t.f0, .int .i64 t.f1, .string t.f2, .slice A3 t.f3.length c3, .slice A4 t.f4.length c4, .slice A5 t.f5.length c5] 49))
 have HK0 := Aside0.mk ((KeepT.refl w).below (below_alloc (Below.refl _ _) (.cells #[.int .i64 t.f0, .int .i64 t.f1, .string t.f2, .slice A3 t.f3.length c3, .slice A4 t.f4.length c4, .slice A5 t.f5.length c5] 49)))
 have HP4 := Aside0.mk hP4
 have HP5 := Aside0.mk hP5
 clear hP4 hP5
 clear HBinds hSb hSm hF hS g3 g4 g5 l3 l4 l5 hK
 go_enter Tryz.func78, Tryz.ntmps78
 go_wp2
 generalize hbt : w.heap.size = bt at *
 generalize hW0 : w.alloc (.cells #[.int .i64 t.f0, .int .i64 t.f1, .string t.f2, .slice A3 t.f3.length c3, .slice A4 t.f4.length c4, .slice A5 t.f5.length c5] 49) = W0 at *
 clear hW0 hbt
 go_loopg [17] (t.f4.length + 1) (fun kq v17 wx => ∃ (j : Nat) (s : σ), v17 = .int .i64 (j : Int) ∧ j ≤ t.f4.length ∧ kq + j = t.f4.length + 1 ∧ Aside0 (eachL f (kidsOf t) s0 = eachL f (kidsA t.f0 (t.f4.drop j) j ++ kidsB t.f0 t.f5) s) ∧ Aside0 (St s wx) ∧ Aside0 (KeepT w wx) ∧ Aside0 (wx.heap[bt]? = some (.cells #[.int .i64 t.f0, .int .i64 t.f1, .string t.f2, .slice A3 t.f3.length c3, .slice A4 t.f4.length c4, .slice A5 t.f5.length c5] 49 (0, 0))))
 case atStart => exact ⟨0, s0, rfl, Nat.zero_le _, rfl, ⟨rfl⟩, HS0, HK0, HT0⟩
 case round =>
  clear HS0 HK0 HT0
  obtain ⟨j, s, rfl, hj, hk, HE, HS, HK, HT⟩ := hrel
  have hz0 := (blk_cell HT.out 0).trans (rfl : _ = some (Value.int .i64 t.f0))
  by_cases hlt : j < t.f4.length
  ·have hd : decide ((j : Int) < (t.f4.length : Int)) = true := decide_eq_true (by omega)
   have HB0 := Aside0.mk (HSB.out _ _ HS.out)
   obtain ⟨ad, A3k, c3k, A4k, c4k, A5k, c5k, e, h0, h1, h2, h3, h4, h5, hKk⟩ := at_tm HG4.out j hlt
   cases e
   have hmem : t.f4[j] ∈ t.f4 := List.getElem_mem _
   have hdr := List.drop_eq_getElem_cons hlt
   obtain ⟨k, hkk⟩ : ∃ k, t.f4[j] = k := ⟨_, rfl⟩
   rw [hkk] at h0 h1 h2 h3 h4 h5 hKk hmem hdr
   replace h0 := pw_cell_below HB0.out h0
   replace h1 := pw_cell_below HB0.out h1
   replace h2 := pw_cell_below HB0.out h2
   replace h3 := pw_cell_below HB0.out h3
   replace h4 := pw_cell_below HB0.out h4
   replace h5 := pw_cell_below HB0.out h5
   have hE := HE.out
   rw [hdr, kidsA, List.cons_append] at hE
   obtain ⟨v, hv⟩ : ∃ v, (bindsI t.f0 (j : Int)).1 = v := ⟨_, rfl⟩
   obtain ⟨d, hd2⟩ : ∃ d, (bindsI t.f0 (j : Int)).2 = d := ⟨_, rfl⟩
   rw [hv, hd2] at hE
   have hba : Below wr.heap.size wr (wr.alloc (.cells #[.int .i64 k.f0, .int .i64 k.f1, .string k.f2, .slice A3k k.f3.length c3k, .slice A4k k.f4.length c4k, .slice A5k k.f5.length c5k] 49)) := below_alloc (Below.refl _ _) _
   have HNB := Aside0.mk (blk_new wr (.cells #[.int .i64 k.f0, .int .i64 k.f1, .string k.f2, .slice A3k k.f3.length c3k, .slice A4k k.f4.length c4k, .slice A5k k.f5.length c5k] 49))
   have HKA := Aside0.mk (HK.out.below hba)
   have HTA := Aside0.mk (blk_below HT.out hba)
   have HSA := Aside0.mk (HSM.out _ _ _ HS.out hba)
   have hcb := HB.out t.f0 (j : Int) (wr.alloc (.cells #[.int .i64 k.f0, .int .i64 k.f1, .string k.f2, .slice A3k k.f3.length c3k, .slice A4k k.f4.length c4k, .slice A5k k.f5.length c5k] 49))
   rw [hv, hd2] at hcb
   have HKk := Aside0.mk hKk
   have hz0a := (blk_cell HTA.out 0).trans (rfl : _ = some (Value.int .i64 t.f0))
   have HMEM := Aside0.mk (HP4.out _ hmem)
   have HVD := Aside0.mk (bindsI_01 t.f0 (j : Int))
   rw [hv, hd2] at HVD
   have HEE := Aside0.mk hE
   clear hba hdr hkk hmem hE HE HS HK HB0 hKk HT hv hd2
   cases hb : (f k v d s).1
   all_goals
    have HBV := Aside0.mk hb
    clear hb
    go_wp2_with (first
     | (go_at_call 97; refine hcb.mono ?_; rintro e w4 ⟨rfl, hb4⟩; have HK4 := Aside0.mk (HKA.out.below hb4); have HT4 := Aside0.mk (blk_below HTA.out hb4); have HS4 := Aside0.mk (HSM.out _ _ _ HSA.out hb4); have HN4 := Aside0.mk (blk_below HNB.out hb4); have hq0 := (blk_cell HN4.out 0).trans (rfl : _ = some (Value.int .i64 k.f0)); have hq1 := (blk_cell HN4.out 1).trans (rfl : _ = some (Value.int .i64 k.f1)); have hq2 := (blk_cell HN4.out 2).trans (rfl : _ = some (Value.string k.f2)); have hq3 := (blk_cell HN4.out 3).trans (rfl : _ = some (Value.slice A3k k.f3.length c3k)); have hq4 := (blk_cell HN4.out 4).trans (rfl : _ = some (Value.slice A4k k.f4.length c4k)); have hq5 := (blk_cell HN4.out 5).trans (rfl : _ = some (Value.slice A5k k.f5.length c5k)); have hcf := HF.out k v d s _ w4 HMEM.out HVD.out HS4.out HKk.out; rw [HBV.out] at hcf; clear hcb hb4)
     | (go_at_fn F; refine hcf.mono ?_; rintro e w5 ⟨rfl, hs5, hn5, hk5⟩; have HS5 := Aside0.mk hs5; have HN5 := Aside0.mk hn5; have HK5 := Aside0.mk (HK4.out.trans hk5); have HT5 := Aside0.mk (hk5.2 _ _ HT4.out); clear hcf hs5 hn5 hk5))
   ·go_ret
    exact ⟨by rw [HEE.out, eachL_no HBV.out]; rfl, by rw [HEE.out, eachL_no HBV.out]; exact fun h => absurd h Bool.false_ne_true, fun _ => HN5.out (by trivial), HK5.out⟩
   ·go_roundg (gk - 1)
    case measure => omega
    case rel => exact ⟨j + 1, _, rfl, by omega, by omega, ⟨by rw [HEE.out, eachL_yes HBV.out]⟩, ⟨HS5.out (by trivial)⟩, HK5, HT5⟩
  ·have hd : decide ((j : Int) < (t.f4.length : Int)) = false := decide_eq_false (by omega)
   have hE := HE.out
   rw [List.drop_eq_nil_of_le (by omega), kidsA, List.nil_append] at hE
   have HE2 := Aside0.mk hE
   clear hE HE
   have hz5 := (blk_cell HT.out 5).trans (rfl : _ = some (Value.slice A5 t.f5.length c5))
   have hz0 := (blk_cell HT.out 0).trans (rfl : _ = some (Value.int .i64 t.f0))
   go_upto_if 38 with fail
   go_cut [9] from 36 to 38 (fun v9 wx => v9 = .int .i64 (moreI t.f0) ∧ Aside0 (St s wx) ∧ Aside0 (KeepT w wx) ∧ Aside0 (wx.heap[bt]? = some (.cells #[.int .i64 t.f0, .int .i64 t.f1, .string t.f2, .slice A3 t.f3.length c3, .slice A4 t.f4.length c4, .slice A5 t.f5.length c5] 49 (0, 0))))
   case first =>
    by_cases k15 : t.f0 = 15
    ·have b15 : (t.f0 == 15) = true := by simp [k15]
     have hmo : moreI t.f0 = 1 := by rw [moreI, if_pos k15]
     clear k15
     go_wp2
     go_meet
     exact ⟨by rw [hmo], HS, HK, HT⟩
    ·have b15 : (t.f0 == 15) = false := by simp [k15]
     have hmo : moreI t.f0 = 0 := by rw [moreI, if_neg k15]
     clear k15
     go_wp2
     go_meet
     exact ⟨by rw [hmo], HS, HK, HT⟩
   case rest =>
    clear hz0 hz5 HS HK HT
    obtain ⟨rfl, HS, HK, HT⟩ := hcut
    have hz5 := (blk_cell HT.out 5).trans (rfl : _ = some (Value.slice A5 t.f5.length c5))
    go_wp2
    obtain ⟨go, rfl⟩ : ∃ go, go = gk := ⟨_, rfl⟩
    go_loopg [42] (t.f5.length + 1) (fun kq v42 wx => ∃ (i : Nat) (s : σ), v42 = .int .i64 (i : Int) ∧ i ≤ t.f5.length ∧ kq + i = t.f5.length + 1 ∧ Aside0 (eachL f (kidsOf t) s0 = eachL f (kidsB t.f0 (t.f5.drop i)) s) ∧ Aside0 (St s wx) ∧ Aside0 (KeepT w wx))
    case atStart => exact ⟨0, s, rfl, Nat.zero_le _, rfl, HE2, HS, HK⟩
    case round =>
     clear HS HK HT HE2 hz5
     obtain ⟨i, s, rfl, hi, hki, HE, HS, HK⟩ := hrel
     by_cases hli : i < t.f5.length
     ·have hdi : decide ((i : Int) < (t.f5.length : Int)) = true := decide_eq_true (by omega)
      have HB0 := Aside0.mk (HSB.out _ _ HS.out)
      obtain ⟨ad, A0b, c0b, A1b, c1b, e, h0, h1, l0, g0, l1, g1⟩ := at_br HG5.out i hli
      cases e
      have hmb : t.f5[i] ∈ t.f5 := List.getElem_mem _
      have hdr := List.drop_eq_getElem_cons hli
      obtain ⟨b, hbb⟩ : ∃ b, t.f5[i] = b := ⟨_, rfl⟩
      rw [hbb] at h0 h1 l0 g0 l1 g1 hmb hdr
      replace h0 := pw_cell_below HB0.out h0
      replace h1 := pw_cell_below HB0.out h1
      have hE := HE.out
      rw [hdr, kidsB, List.flatMap_cons, ← kidsB] at hE
      have HG1 := Aside0.mk g1
      have HMB := Aside0.mk hmb
      have hmk1 : b.f1.length ≤ 9223372036854775807 := Kd.C_max g1
      have hba : Below wr.heap.size wr (wr.alloc (.cells #[.slice A0b b.f0.length c0b, .slice A1b b.f1.length c1b] 90)) := below_alloc (Below.refl _ _) _
      have HSA := Aside0.mk (HSM.out _ _ _ HS.out hba)
      have HKA := Aside0.mk (HK.out.below hba)
      have HEE := Aside0.mk hE
      clear hE HE hdr hbb hmb g0 g1 l0 l1 hba HS HK HB0
      go_wp2
      obtain ⟨gp, rfl⟩ : ∃ gp, gp = gk := ⟨_, rfl⟩
      obtain ⟨wo, rfl⟩ : ∃ wo : World, wo = wr := ⟨_, rfl⟩
      go_loopg [49] (b.f1.length + 1) (fun kq v49 wx => ∃ (j : Nat) (s : σ), v49 = .int .i64 (j : Int) ∧ j ≤ b.f1.length ∧ kq + j = b.f1.length + 1 ∧ Aside0 (eachL f (kidsOf t) s0 = eachL f (kidsP t.f0 (b.f1.drop j) ++ kidsB t.f0 (t.f5.drop (i + 1))) s) ∧ Aside0 (St s wx) ∧ Aside0 (KeepT w wx))
      case atStart => exact ⟨0, s, rfl, Nat.zero_le _, rfl, HEE, HSA, HKA⟩
      case round =>
       clear HSA HKA HEE h0 h1
       obtain ⟨j, s, rfl, hj, hkj, HE, HS, HK⟩ := hrel
       by_cases hlt : j < b.f1.length
       ·have hd : decide ((j : Int) < (b.f1.length : Int)) = true := decide_eq_true (by omega)
        have HB0 := Aside0.mk (HSB.out _ _ HS.out)
        obtain ⟨ad, A3k, c3k, A4k, c4k, A5k, c5k, e, h0, h1, h2, h3, h4, h5, hKk⟩ := at_tm HG1.out j hlt
        cases e
        have hmem : b.f1[j] ∈ b.f1 := List.getElem_mem _
        have hdr := List.drop_eq_getElem_cons hlt
        obtain ⟨k, hkk⟩ : ∃ k, b.f1[j] = k := ⟨_, rfl⟩
        rw [hkk] at h0 h1 h2 h3 h4 h5 hKk hmem hdr
        replace h0 := pw_cell_below HB0.out h0
        replace h1 := pw_cell_below HB0.out h1
        replace h2 := pw_cell_below HB0.out h2
        replace h3 := pw_cell_below HB0.out h3
        replace h4 := pw_cell_below HB0.out h4
        replace h5 := pw_cell_below HB0.out h5
        have hE := HE.out
        rw [hdr, kidsP, List.map_cons, List.cons_append, ← kidsP] at hE
        have hba : Below wr.heap.size wr (wr.alloc (.cells #[.int .i64 k.f0, .int .i64 k.f1, .string k.f2, .slice A3k k.f3.length c3k, .slice A4k k.f4.length c4k, .slice A5k k.f5.length c5k] 49)) := below_alloc (Below.refl _ _) _
        have HKA := Aside0.mk (HK.out.below hba)
        have HSA := Aside0.mk (HSM.out _ _ _ HS.out hba)
        have HEE := Aside0.mk hE
        have hcf := HF.out k 0 (moreI t.f0) s _ (wr.alloc (.cells #[.int .i64 k.f0, .int .i64 k.f1, .string k.f2, .slice A3k k.f3.length c3k, .slice A4k k.f4.length c4k, .slice A5k k.f5.length c5k] 49)) (HP5.out _ HMB.out _ hmem) ⟨by omega, by omega, moreI_01 t.f0⟩ HSA.out hKk
        clear hba hdr hkk hmem hE HE HS HK HB0 hKk HSA
        cases hb : (f k 0 (moreI t.f0) s).1
        all_goals
         have HBV := Aside0.mk hb
         rw [hb] at hcf
         clear hb
         go_wp2_with (go_at_fn F; refine hcf.mono ?_; rintro e w5 ⟨rfl, hs5, hn5, hk5⟩; have HS5 := Aside0.mk hs5; have HN5 := Aside0.mk hn5; have HK5 := Aside0.mk (HKA.out.trans hk5); clear hcf hs5 hn5 hk5)
        ·go_ret
         exact ⟨by rw [HEE.out, eachL_no HBV.out]; rfl, by rw [HEE.out, eachL_no HBV.out]; exact fun h => absurd h Bool.false_ne_true, fun _ => HN5.out (by trivial), HK5.out⟩
        ·go_roundg (gk - 1)
         case measure => omega
         case rel => exact ⟨j + 1, _, rfl, by omega, by omega, ⟨by rw [HEE.out, eachL_yes HBV.out]⟩, ⟨HS5.out (by trivial)⟩, HK5⟩
       ·have hd : decide ((j : Int) < (b.f1.length : Int)) = false := decide_eq_false (by omega)
        have hE := HE.out
        rw [List.drop_eq_nil_of_le (by omega), kidsP, List.map_nil, List.nil_append] at hE
        have HE3 := Aside0.mk hE
        clear hE HE
        go_wp2
        go_roundg (gp - 1)
        case measure => omega
        case rel => exact ⟨i + 1, s, rfl, by omega, by omega, HE3, HS, HK⟩
     ·have hdi : decide ((i : Int) < (t.f5.length : Int)) = false := decide_eq_false (by omega)
      have hE := HE.out
      rw [List.drop_eq_nil_of_le (by omega), kidsB, List.flatMap_nil, eachL] at hE
      have HE3 := Aside0.mk hE
      clear hE HE
      go_wp2
      go_ret
      exact ⟨by rw [HE3.out]; rfl, by rw [HE3.out]; exact fun _ => HS.out, by rw [HE3.out]; exact fun h => absurd h.symm Bool.false_ne_true, HK.out⟩
theorem eachL_all (p : Tm → Bool) : ∀ l : List (Tm × Int × Int), (eachL (fun k _ _ (_ : Unit) => (p k, ())) l ()).1 = l.all (fun x => p x.1)
 | [] => by rw [eachL]; rfl
 | (k, v, d) :: r => by
  cases h : p k
  ·rw [eachL_no (by exact h), List.all_cons, h]
   rfl
  ·rw [eachL_yes (by exact h), List.all_cons, h, Bool.true_and]
   exact eachL_all p r
theorem kidsA_all (kind : Int) (p : Tm → Bool) : ∀ (l : List Tm) (i : Nat), (kidsA kind l i).all (fun x => p x.1) = l.all p
 | [], _ => by rw [kidsA]; rfl
 | k :: r, i => by rw [kidsA, List.all_cons, List.all_cons, kidsA_all kind p r]
theorem kidsB_all (kind : Int) (p : Tm → Bool) : ∀ (l : List Br), (kidsB kind l).all (fun x => p x.1) = l.all (fun b => b.f1.all p)
 | [] => rfl
 | b :: r => by
  rw [kidsB, List.flatMap_cons, List.all_append, List.all_cons, ← kidsB, kidsB_all kind p r]
  congr 1
  rw [kidsP, List.all_map]
  rfl
theorem depthL_all (n : Nat) : ∀ l : List Tm, l.all (fun k => decide (depthT k ≤ n)) = decide (depthL l ≤ n)
 | [] => by rw [depthL]; simp
 | k :: r => by
  rw [List.all_cons, depthL_all n r, depthL]
  rw [Bool.eq_iff_iff]
  simp only [Bool.and_eq_true, decide_eq_true_eq]
  omega
theorem depthB_all (n : Nat) : ∀ l : List Br, l.all (fun b => b.f1.all (fun k => decide (depthT k ≤ n))) = decide (depthB l ≤ n)
 | [] => by rw [depthB]; simp
 | b :: r => by
  rw [List.all_cons, depthB_all n r, depthB, depthL_all, depthR_eq]
  rw [Bool.eq_iff_iff]
  simp only [Bool.and_eq_true, decide_eq_true_eq]
  omega
theorem kids_depth (n : Nat) (t : Tm) : (eachL (fun k _ _ (_ : Unit) => (decide (depthT k ≤ n), ())) (kidsOf t) ()).1 = decide (depthT t ≤ n + 1) := by
 rw [eachL_all (fun k => decide (depthT k ≤ n)), kidsOf, List.all_append, kidsA_all _ (fun k => decide (depthT k ≤ n)), kidsB_all _ (fun k => decide (depthT k ≤ n)), depthL_all, depthB_all, depthT_eq]
 rw [Bool.eq_iff_iff]
 simp only [Bool.and_eq_true, decide_eq_true_eq]
 omega
theorem depthT_pos (t : Tm) : 0 < depthT t := by rw [depthT_eq]; omega
set_option maxHeartbeats 1000000 in
set_option maxRecDepth 100000 in
theorem shallow_fn (n : Nat) (hn : n ≤ 1000000) (HIH : Aside0 (∀ (k : Tm) (ks : List Value) (w : World), k49.K w k ks → Calls Tryz.prog 75 #[.agg ks.toArray, .int .i64 (n : Int)] w fun e w' => e = .returned (.bool (decide (depthT k ≤ n))) ∧ Below w.heap.size w w'))
  (k : Tm) (v d : Int) (ks : List Value) (bl : Nat) (w : World) (hK : k49.K w k ks) (hbl : w.heap[bl]? = some (.cells #[.int .i64 ((n + 1 : Nat) : Int)] 3 (0, 0))) :
  Calls Tryz.prog 92 #[.agg ks.toArray, .int .i64 v, .int .i64 d, .pointer (some ⟨bl, 0, none⟩)] w fun e w' => e = .returned (.bool (decide (depthT k ≤ n))) ∧ Below w.heap.size w w' := by
 obtain ⟨A3, c3, A4, c4, A5, c5, rfl, l3, g3, l4, g4, l5, g5⟩ := k49_open hK
 have HK := Aside0.mk hK
 have hba : Below w.heap.size w (w.alloc (.cells #[.int .i64 k.f0, .int .i64 k.f1, .string k.f2, .slice A3 k.f3.length c3, .slice A4 k.f4.length c4, .slice A5 k.f5.length c5] 49)) := below_alloc (Below.refl _ _) _
 have hz := (blk_cell (blk_below hbl hba) 0).trans (rfl : _ = some (Value.int .i64 ((n + 1 : Nat) : Int)))
 have hc := HIH.out k _ _ (k49.K_below hba hK)
 have HBA := Aside0.mk hba
 clear hba hbl g3 g4 g5 l3 l4 l5 hK
 go_enter Tryz.func92, Tryz.ntmps92
 go_wp2_with (go_at_call 75; refine hc.mono ?_; rintro e w1 ⟨rfl, hb1⟩; have HB1 := Aside0.mk hb1; clear hb1 hc)
 go_ret
 exact ⟨rfl, below_step HBA.out HB1.out⟩
set_option maxHeartbeats 1000000 in
set_option maxRecDepth 100000 in
theorem te_shallo (HBinds : Aside0 (∀ (a i : Int) (w : World), Calls Tryz.prog 97 #[.int .i64 a, .int .i64 i] w fun e w' => e = .returned (.tuple #[.int .i64 (bindsI a i).1, .int .i64 (bindsI a i).2]) ∧ Below w.heap.size w w'))
  (eg : ∀ args w, (callFunc 92 args).run Tryz.prog w = .ok (.enter 92 args) w) : ∀ (n : Nat) (hn : n ≤ 1000000) (k : Tm) (ks : List Value) (w : World), k49.K w k ks →
  Calls Tryz.prog 75 #[.agg ks.toArray, .int .i64 (n : Int)] w fun e w' => e = .returned (.bool (decide (depthT k ≤ n))) ∧ Below w.heap.size w w' := by
 intro n
 induction n with
 | zero =>
  intro hn k ks w hK
  obtain ⟨A3, c3, A4, c4, A5, c5, rfl, l3, g3, l4, g4, l5, g5⟩ := k49_open hK
  have hp := depthT_pos k
  clear l3 g3 l4 g4 l5 g5 hK
  go_enter Tryz.func75, Tryz.ntmps75
  go_wp2
  go_ret
  exact ⟨by rw [decide_eq_false (by omega)]; rfl, ((Below.refl _ _).alloc (Nat.le_refl _) _).alloc (by simp) _⟩
 | succ n ih =>
  intro hn k ks w hK
  have HIH := Aside0.mk (ih (by omega))
  obtain ⟨A3, c3, A4, c4, A5, c5, rfl, l3, g3, l4, g4, l5, g5⟩ := k49_open hK
  have HK := Aside0.mk hK
  clear l3 g3 l4 g4 l5 g5 hK ih
  have hb2 : Below w.heap.size w ((w.alloc (.cells #[.int .i64 k.f0, .int .i64 k.f1, .string k.f2, .slice A3 k.f3.length c3, .slice A4 k.f4.length c4, .slice A5 k.f5.length c5] 49)).alloc (.cells #[.int .i64 ((n + 1 : Nat) : Int)] 3)) := ((Below.refl _ _).alloc (Nat.le_refl _) _).alloc (by simp) _
  have hbl : ((w.alloc (.cells #[.int .i64 k.f0, .int .i64 k.f1, .string k.f2, .slice A3 k.f3.length c3, .slice A4 k.f4.length c4, .slice A5 k.f5.length c5] 49)).alloc (.cells #[.int .i64 ((n + 1 : Nat) : Int)] 3)).heap[w.heap.size + 1]? = some (.cells #[.int .i64 ((n + 1 : Nat) : Int)] 3 (0, 0)) := by
   have := blk_new (w.alloc (.cells #[.int .i64 k.f0, .int .i64 k.f1, .string k.f2, .slice A3 k.f3.length c3, .slice A4 k.f4.length c4, .slice A5 k.f5.length c5] 49)) (.cells #[.int .i64 ((n + 1 : Nat) : Int)] 3)
   rw [World.size_alloc] at this
   exact this
  have hc := te_each1 HBinds.out 92 (.pointer (some ⟨w.heap.size + 1, 0, none⟩)) (fun k _ _ (_ : Unit) => (decide (depthT k ≤ n), ())) (fun _ wx => Below w.heap.size w wx ∧ wx.heap[w.heap.size + 1]? = some (.cells #[.int .i64 ((n + 1 : Nat) : Int)] 3 (0, 0))) (fun wx => Below w.heap.size w wx) (fun _ => True) w k _ () _ eg HK.out
   (fun _ _ h => h.1) (fun _ _ _ h hb => ⟨below_step h.1 hb, blk_below h.2 hb⟩)
   (fun q v d s qs w1 _ _ hs hq => (shallow_fn n (by omega) HIH q v d qs _ w1 (k49.K_below hs.1 hq) hs.2).mono (fun e w' ⟨he, hb⟩ => ⟨he, fun _ => ⟨below_step hs.1 hb, blk_below hs.2 hb⟩, fun _ => below_step hs.1 hb, KeepT.of_below hb⟩))
   (fun _ _ => trivial) (fun _ _ _ _ => trivial) ⟨hb2, hbl⟩
  rw [kids_depth n k] at hc
  have hmf : ∀ (fn : Fn) (first cap : Array Value) (w : World), (Instr.makeFunc fn first cap).run Tryz.prog w = .ok (.func fn first cap) w := fun _ _ _ _ => rfl
  have hd : decide (0 < ((n + 1 : Nat) : Int)) = true := decide_eq_true (by omega)
  have hz := (blk_cell hbl 0).trans (rfl : _ = some (Value.int .i64 ((n + 1 : Nat) : Int)))
  clear hbl hb2
  go_enter Tryz.func75, Tryz.ntmps75
  go_wp2_with (go_at_call 78; refine hc.mono ?_; rintro e w1 ⟨rfl, hs1, hn1, _⟩; have HS1 := Aside0.mk hs1; have HN1 := Aside0.mk hn1; clear hs1 hn1 hc)
  go_ret
  refine ⟨rfl, ?_⟩
  cases hx : decide (depthT k ≤ n + 1)
  ·exact HN1.out hx
  ·exact (HS1.out hx).1
def szF (k : Tm) (_ _ : Int) (m : Nat) : Bool × Nat := (decide (sizeT k ≤ m), m - sizeT k)
def szS : List (Tm × Int × Int) → Nat
 | [] => 0
 | x :: r => sizeT x.1 + szS r
theorem eachL_size : ∀ (l : List (Tm × Int × Int)) (m : Nat), (eachL szF l m).1 = decide (szS l ≤ m) ∧ ((eachL szF l m).1 = true → (eachL szF l m).2 = m - szS l)
 | [], m => by simp [eachL, szS]
 | (k, v, d) :: r, m => by
  by_cases h : sizeT k ≤ m
  ·rw [eachL_yes (by simp [szF, h])]
   have ih := eachL_size r (m - sizeT k)
   have hs : szS ((k, v, d) :: r) = sizeT k + szS r := rfl
   simp only [szF]
   rw [hs]
   refine ⟨?_, fun hh => ?_⟩
   ·rw [ih.1, Bool.eq_iff_iff, decide_eq_true_eq, decide_eq_true_eq]
    omega
   ·rw [ih.2 hh]
    omega
  ·rw [eachL_no (by simp [szF, h])]
   have hs : szS ((k, v, d) :: r) = sizeT k + szS r := rfl
   rw [hs]
   refine ⟨?_, fun hh => absurd hh Bool.false_ne_true⟩
   rw [decide_eq_false (by omega)]
theorem szS_append : ∀ (l r : List (Tm × Int × Int)), szS (l ++ r) = szS l + szS r
 | [], r => by simp [szS]
 | x :: l, r => by
  rw [List.cons_append, szS, szS, szS_append l r]
  omega
theorem szS_kidsA (kind : Int) : ∀ (l : List Tm) (i : Nat), szS (kidsA kind l i) = sizeL l
 | [], _ => by rw [kidsA, szS, sizeL]
 | k :: r, i => by rw [kidsA, szS, sizeL, szS_kidsA kind r]
theorem szS_kidsP (kind : Int) : ∀ (l : List Tm), szS (kidsP kind l) = sizeL l
 | [] => by rw [kidsP, List.map_nil, szS, sizeL]
 | k :: r => by
  rw [kidsP, List.map_cons, szS, sizeL, ← kidsP, szS_kidsP kind r]
theorem szS_kidsB (kind : Int) : ∀ (l : List Br), szS (kidsB kind l) = sizeB l
 | [] => by rw [kidsB, List.flatMap_nil, szS, sizeB]
 | b :: r => by rw [kidsB, List.flatMap_cons, szS_append, ← kidsB, szS_kidsB kind r, szS_kidsP, sizeB, sizeR_eq]
theorem szS_kids (t : Tm) : szS (kidsOf t) + 1 = sizeT t := by rw [kidsOf, szS_append, szS_kidsA, szS_kidsB, sizeT_eq]
def CSt (w0 : World) (bm bc : Nat) (m : Nat) (w : World) : Prop :=
 Below w0.heap.size w0 w ∧ w.heap[bm]? = some (.cells #[.int .i64 (m : Int)] 3 (0, 0)) ∧ w.heap[bc]? = some (.cells #[.func (.func 93) #[] #[.pointer (some ⟨bm, 0, none⟩), .pointer (some ⟨bc, 0, none⟩)]] 140 (0, 0))
theorem CSt.below {w0 : World} {bm bc m : Nat} {w w1 : World} (h : CSt w0 bm bc m w) (hb : Below w.heap.size w w1) : CSt w0 bm bc m w1 := ⟨below_step h.1 hb, blk_below h.2.1 hb, blk_below h.2.2 hb⟩
theorem KeepT.set {w w1 : World} {g : Nat} {cs : Array Value} (h : KeepT w w1) (hg : w1.heap[g]? = some (.cells cs 3 (0, 0))) (i : Nat) (u : Value) : KeepT w (w1.setCell ⟨g, i, none⟩ u) :=
 h.trans ⟨by simp, fun q ds hq => blk_far hq (p := ⟨g, i, none⟩) (blk_ne hq hg (by decide)) u⟩
set_option maxHeartbeats 1000000 in
set_option maxRecDepth 100000 in
theorem small_fn (w0 : World) (bm bc : Nat) (eg3 : ∀ args w, (callFunc 93 args).run Tryz.prog w = .ok (.enter 93 args) w)
  (m : Nat) (k : Tm) (HIH : Aside0 (∀ (ks : List Value) (w : World), k49.K w0 k ks → CSt w0 bm bc m w → Calls Tryz.prog 93 #[.agg ks.toArray, .pointer (some ⟨bm, 0, none⟩), .pointer (some ⟨bc, 0, none⟩)] w fun e w' => e = .returned (.bool (decide (sizeT k ≤ m))) ∧ (sizeT k ≤ m → CSt w0 bm bc (m - sizeT k) w') ∧ Below w0.heap.size w0 w' ∧ KeepT w w'))
  (v d : Int) (ks : List Value) (w : World) (hK : k49.K w0 k ks) (hS : CSt w0 bm bc m w) :
  Calls Tryz.prog 94 #[.agg ks.toArray, .int .i64 v, .int .i64 d, .pointer (some ⟨bc, 0, none⟩)] w fun e w' => e = .returned (.bool (decide (sizeT k ≤ m))) ∧ (sizeT k ≤ m → CSt w0 bm bc (m - sizeT k) w') ∧ Below w0.heap.size w0 w' ∧ KeepT w w' := by
 obtain ⟨A3, c3, A4, c4, A5, c5, rfl, l3, g3, l4, g4, l5, g5⟩ := k49_open hK
 have hba : Below w.heap.size w (w.alloc (.cells #[.int .i64 k.f0, .int .i64 k.f1, .string k.f2, .slice A3 k.f3.length c3, .slice A4 k.f4.length c4, .slice A5 k.f5.length c5] 49)) := below_alloc (Below.refl _ _) _
 have hz := (blk_cell (blk_below hS.2.2 hba) 0).trans (rfl : _ = some (Value.func (.func 93) #[] #[.pointer (some ⟨bm, 0, none⟩), .pointer (some ⟨bc, 0, none⟩)]))
 have hc := HIH.out _ _ hK (hS.below hba)
 have HBA := Aside0.mk hba
 clear hba hS g3 g4 g5 l3 l4 l5 hK
 go_enter Tryz.func94, Tryz.ntmps94
 go_wp2_with (go_at_fn 93; refine hc.mono ?_; rintro e w1 ⟨rfl, hs1, hb1, hk1⟩; have HS1 := Aside0.mk hs1; have HB1 := Aside0.mk hb1; have HK1 := Aside0.mk hk1; clear hs1 hb1 hk1 hc)
 go_ret
 exact ⟨rfl, HS1.out, HB1.out, (KeepT.of_below HBA.out).trans HK1.out⟩
set_option maxHeartbeats 1000000 in
set_option maxRecDepth 100000 in
theorem small_count (HBinds : Aside0 (∀ (a i : Int) (w : World), Calls Tryz.prog 97 #[.int .i64 a, .int .i64 i] w fun e w' => e = .returned (.tuple #[.int .i64 (bindsI a i).1, .int .i64 (bindsI a i).2]) ∧ Below w.heap.size w w'))
  (eg3 : ∀ args w, (callFunc 93 args).run Tryz.prog w = .ok (.enter 93 args) w)
  (eg4 : ∀ args w, (callFunc 94 args).run Tryz.prog w = .ok (.enter 94 args) w)
  (w0 : World) (bm bc : Nat) (hbm : w0.heap.size ≤ bm) : ∀ (N : Nat) (k : Tm) (m : Nat) (ks : List Value) (w : World), sizeT k ≤ N → m ≤ 1000000 → k49.K w0 k ks → CSt w0 bm bc m w →
  Calls Tryz.prog 93 #[.agg ks.toArray, .pointer (some ⟨bm, 0, none⟩), .pointer (some ⟨bc, 0, none⟩)] w fun e w' => e = .returned (.bool (decide (sizeT k ≤ m))) ∧ (sizeT k ≤ m → CSt w0 bm bc (m - sizeT k) w') ∧ Below w0.heap.size w0 w' ∧ KeepT w w' := by
 intro N
 induction N with
 | zero => intro k m ks w h; have := sizeT_pos k; omega
 | succ N ih =>
 intro k m ks w hN hm hK hS
 have HIH := Aside0.mk ih
 have hpos := sizeT_pos k
 obtain ⟨A3, c3, A4, c4, A5, c5, rfl, l3, g3, l4, g4, l5, g5⟩ := k49_open hK
 have HBA : Aside0 (Below w.heap.size w (w.alloc (.cells #[.int .i64 k.f0, .int .i64 k.f1, .string k.f2, .slice A3 k.f3.length c3, .slice A4 k.f4.length c4, .slice A5 k.f5.length c5] 49))) := ⟨below_alloc (Below.refl _ _) _⟩
 have HSA := Aside0.mk (hS.below HBA.out)
 have HKA := Aside0.mk (KeepT.of_below HBA.out)
 have HNB := Aside0.mk (blk_new w (.cells #[.int .i64 k.f0, .int .i64 k.f1, .string k.f2, .slice A3 k.f3.length c3, .slice A4 k.f4.length c4, .slice A5 k.f5.length c5] 49))
 have hc1 := (blk_cell HSA.out.2.1 0).trans (rfl : _ = some (Value.int .i64 (m : Int)))
 have hf1 := blk_frozen HSA.out.2.1 0
 have HKK := Aside0.mk hK
 clear ih hS g3 g4 g5 l3 l4 l5 hK HBA
 by_cases h0 : m = 0
 ·have hd : decide ((0 : Int) ≤ (m : Int) - 1) = false := decide_eq_false (by omega)
  have hd1 : decide ((1 : Int) ≤ (m : Int)) = false := decide_eq_false (by omega)
  have HX := Aside0.mk (HSA.out.1.setCell hbm (.int .i64 (-1)) (p := ⟨bm, 0, none⟩))
  have HKX := Aside0.mk (HKA.out.set HSA.out.2.1 0 (.int .i64 (-1)))
  have HC2 := Aside0.mk (blk_set HSA.out.2.1 0 (.int .i64 (-1)))
  go_enter Tryz.func93, Tryz.ntmps93
  go_wp2
  go_ret
  exact ⟨by rw [decide_eq_false (by omega)]; rfl, fun h => by omega, HX.out, HKX.out⟩
 ·obtain ⟨n, rfl⟩ : ∃ n, m = n + 1 := ⟨m - 1, by omega⟩
  have hS1 : CSt w0 bm bc n ((w.alloc (.cells #[.int .i64 k.f0, .int .i64 k.f1, .string k.f2, .slice A3 k.f3.length c3, .slice A4 k.f4.length c4, .slice A5 k.f5.length c5] 49)).setCell ⟨bm, 0, none⟩ (.int .i64 (n : Int))) := by
   exact ⟨HSA.out.1.setCell hbm _, blk_set HSA.out.2.1 0 (.int .i64 (n : Int)), blk_far HSA.out.2.2 (p := ⟨bm, 0, none⟩) (blk_ne HSA.out.2.2 HSA.out.2.1 (by decide)) _⟩
  have HKX := Aside0.mk (HKA.out.set HSA.out.2.1 0 (.int .i64 (n : Int)))
  have HC2 := Aside0.mk ((KeepT.refl _).set HSA.out.2.1 0 (.int .i64 (n : Int)))
  have HNB2 := Aside0.mk (HC2.out.2 _ _ HNB.out)
  have hsz := szS_kids k
  have hes := eachL_size (kidsOf k) n
  have hc := te_each1 HBinds.out 94 (.pointer (some ⟨bc, 0, none⟩)) szF (fun m wx => m ≤ 1000000 ∧ CSt w0 bm bc m wx) (fun wx => Below w0.heap.size w0 wx) (fun q => sizeT q < sizeT k) w0 k _ n _ eg4 HKK.out
   (fun _ _ h => h.2.1) (fun _ _ _ h hb => ⟨h.1, h.2.below hb⟩)
   (fun q v d s qs w1 hq _ hs hK => (small_fn w0 bm bc eg3 s q ⟨fun ks w h1 h2 => HIH.out q s ks w (by omega) hs.1 h1 h2⟩ v d qs w1 hK hs.2).mono (fun e w' ⟨he, hs2, hb, hk⟩ => ⟨he, fun h => ⟨by have := hs.1; show s - sizeT q ≤ 1000000; omega, hs2 (of_decide_eq_true h)⟩, fun _ => hb, hk⟩))
   (fun _ hq => sizeT_kid hq) (fun _ hb _ hq => sizeT_part hb hq) ⟨by omega, hS1⟩
  rw [hes.1] at hc
  have HES := Aside0.mk hes
  have hmf : ∀ (fn : Fn) (first cap : Array Value) (w : World), (Instr.makeFunc fn first cap).run Tryz.prog w = .ok (.func fn first cap) w := fun _ _ _ _ => rfl
  have hd1 : decide ((0 : Int) ≤ ((n + 1 : Nat) : Int) - 1) = true := decide_eq_true (by omega)
  have hd : decide ((1 : Int) ≤ ((n + 1 : Nat) : Int)) = true := decide_eq_true (by omega)
  have hq0 := (blk_cell HNB2.out 0).trans (rfl : _ = some (Value.int .i64 k.f0))
  have hq1 := (blk_cell HNB2.out 1).trans (rfl : _ = some (Value.int .i64 k.f1))
  have hq2 := (blk_cell HNB2.out 2).trans (rfl : _ = some (Value.string k.f2))
  have hq3 := (blk_cell HNB2.out 3).trans (rfl : _ = some (Value.slice A3 k.f3.length c3))
  have hq4 := (blk_cell HNB2.out 4).trans (rfl : _ = some (Value.slice A4 k.f4.length c4))
  have hq5 := (blk_cell HNB2.out 5).trans (rfl : _ = some (Value.slice A5 k.f5.length c5))
  have hc2 := (blk_cell hS1.2.1 0).trans (rfl : _ = some (Value.int .i64 (n : Int)))
  clear hes h0 hS1
  go_enter Tryz.func93, Tryz.ntmps93
  go_wp2_with (go_at_call 78; refine hc.mono ?_; rintro e w1 ⟨rfl, hs1, hn1, hk1⟩; have HS1 := Aside0.mk hs1; have HN1 := Aside0.mk hn1; have HK1 := Aside0.mk hk1; clear hs1 hn1 hc hk1)
  go_ret
  have hq : decide (sizeT k ≤ n + 1) = decide (szS (kidsOf k) ≤ n) := by
   rw [Bool.eq_iff_iff, decide_eq_true_eq, decide_eq_true_eq]
   omega
  refine ⟨by rw [hq]; rfl, fun h => ?_, ?_, (HKX.out.trans HK1.out)⟩
  ·have h2 := HS1.out (decide_eq_true (by omega))
   have h3 := HES.out.2 (by rw [HES.out.1]; exact decide_eq_true (by omega))
   rw [h3, show n - szS (kidsOf k) = n + 1 - sizeT k by omega] at h2
   exact h2.2
  ·cases hx : decide (szS (kidsOf k) ≤ n)
   ·exact HN1.out hx
   ·exact (HS1.out hx).2.1
set_option maxHeartbeats 1000000 in
set_option maxRecDepth 100000 in
theorem te_small (HBinds : Aside0 (∀ (a i : Int) (w : World), Calls Tryz.prog 97 #[.int .i64 a, .int .i64 i] w fun e w' => e = .returned (.tuple #[.int .i64 (bindsI a i).1, .int .i64 (bindsI a i).2]) ∧ Below w.heap.size w w'))
  (eg3 : ∀ args w, (callFunc 93 args).run Tryz.prog w = .ok (.enter 93 args) w)
  (eg4 : ∀ args w, (callFunc 94 args).run Tryz.prog w = .ok (.enter 94 args) w)
  (m : Nat) (hm : m ≤ 1000000) (k : Tm) (ks : List Value) (w : World) (hK : k49.K w k ks) :
  Calls Tryz.prog 76 #[.agg ks.toArray, .int .i64 (m : Int)] w fun e w' => e = .returned (.bool (decide (sizeT k ≤ m))) ∧ Below w.heap.size w w' := by
 obtain ⟨A3, c3, A4, c4, A5, c5, rfl, l3, g3, l4, g4, l5, g5⟩ := k49_open hK
 have HK := Aside0.mk hK
 clear g3 g4 g5 l3 l4 l5 hK
 have hmf : ∀ (fn : Fn) (first cap : Array Value) (w : World), (Instr.makeFunc fn first cap).run Tryz.prog w = .ok (.func fn first cap) w := fun _ _ _ _ => rfl
 have hb3 : Below w.heap.size w (((w.alloc (.cells #[.int .i64 k.f0, .int .i64 k.f1, .string k.f2, .slice A3 k.f3.length c3, .slice A4 k.f4.length c4, .slice A5 k.f5.length c5] 49)).alloc (.cells #[.int .i64 (m : Int)] 3)).alloc (.cells #[.func (.func 93) #[] #[.pointer (some ⟨w.heap.size + 1, 0, none⟩), .pointer (some ⟨w.heap.size + 1 + 1, 0, none⟩)]] 140)) := (((Below.refl _ _).alloc (Nat.le_refl _) _).alloc (by simp) _).alloc (by simp; omega) _
 have hbm : (((w.alloc (.cells #[.int .i64 k.f0, .int .i64 k.f1, .string k.f2, .slice A3 k.f3.length c3, .slice A4 k.f4.length c4, .slice A5 k.f5.length c5] 49)).alloc (.cells #[.int .i64 (m : Int)] 3)).alloc (.cells #[.func (.func 93) #[] #[.pointer (some ⟨w.heap.size + 1, 0, none⟩), .pointer (some ⟨w.heap.size + 1 + 1, 0, none⟩)]] 140)).heap[w.heap.size + 1]? = some (.cells #[.int .i64 (m : Int)] 3 (0, 0)) := by
  have := blk_new (w.alloc (.cells #[.int .i64 k.f0, .int .i64 k.f1, .string k.f2, .slice A3 k.f3.length c3, .slice A4 k.f4.length c4, .slice A5 k.f5.length c5] 49)) (.cells #[.int .i64 (m : Int)] 3)
  rw [World.size_alloc] at this
  exact blk_alloc this _
 have hbc : (((w.alloc (.cells #[.int .i64 k.f0, .int .i64 k.f1, .string k.f2, .slice A3 k.f3.length c3, .slice A4 k.f4.length c4, .slice A5 k.f5.length c5] 49)).alloc (.cells #[.int .i64 (m : Int)] 3)).alloc (.cells #[.func (.func 93) #[] #[.pointer (some ⟨w.heap.size + 1, 0, none⟩), .pointer (some ⟨w.heap.size + 1 + 1, 0, none⟩)]] 140)).heap[w.heap.size + 1 + 1]? = some (.cells #[.func (.func 93) #[] #[.pointer (some ⟨w.heap.size + 1, 0, none⟩), .pointer (some ⟨w.heap.size + 1 + 1, 0, none⟩)]] 140 (0, 0)) := by
  have := blk_new ((w.alloc (.cells #[.int .i64 k.f0, .int .i64 k.f1, .string k.f2, .slice A3 k.f3.length c3, .slice A4 k.f4.length c4, .slice A5 k.f5.length c5] 49)).alloc (.cells #[.int .i64 (m : Int)] 3)) (.cells #[.func (.func 93) #[] #[.pointer (some ⟨w.heap.size + 1, 0, none⟩), .pointer (some ⟨w.heap.size + 1 + 1, 0, none⟩)]] 140)
  rw [World.size_alloc, World.size_alloc] at this
  exact this
 have hc := small_count HBinds eg3 eg4 w (w.heap.size + 1) (w.heap.size + 1 + 1) (by omega) (sizeT k) k m _ _ (Nat.le_refl _) hm HK.out ⟨hb3, hbm, hbc⟩
 clear hb3 hbm hbc
 go_enter Tryz.func76, Tryz.ntmps76
 go_wp2_with (go_at_fn 93; refine hc.mono ?_; rintro e w1 ⟨rfl, _, hb1, _⟩; have HB1 := Aside0.mk hb1; clear hb1 hc)
 go_ret
 exact ⟨rfl, HB1.out⟩
end Go.Proofs.YtahdjajdaggmjaaGreatDoor.XPa
end
