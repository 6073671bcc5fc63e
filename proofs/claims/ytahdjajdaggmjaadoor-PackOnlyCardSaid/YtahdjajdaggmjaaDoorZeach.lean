/-
Walk: term.each.
-/
import Derived.Shelf.Abstract
import Derived.Test.YtahdjajdaggmjaaDoorZterm
set_option linter.unusedVariables false
set_option linter.unusedSimpArgs false
namespace Go.Proofs.YtahdjajdaggmjaaDoor.XPo
open Go.RowKit Go.Proofs.YtahdjajdaggmjaaDoorW.PrintWords Go.Proofs.YtahdjajdaggmjaaDoorW.PrintLast Go.Proofs.YtahdjajdaggmjaaDoorW.PrintMore

/-- What a kid binds. -/
def bindsI (k i : Int) : Int × Int :=
  if i = 1 ∧ (k = 4 ∨ k = 7) then (1, 0) else if i = 0 ∧ (k = 5 ∨ k = 22 ∨ k = 27) then (1, 0) else if i = 0 ∧ (k = 11 ∨ k = 12 ∨ k = 14) then (0, 1) else (0, 0)
/-- How many dimensions a branch's kid binds. -/
def moreI (k : Int) : Int := if k = 15 then 1 else 0
theorem bindsI_01 (k i : Int) : 0 ≤ (bindsI k i).1 ∧ (bindsI k i).1 ≤ 1 ∧ 0 ≤ (bindsI k i).2 ∧ (bindsI k i).2 ≤ 1 := by
  unfold bindsI
  repeat' split
  all_goals simp
theorem moreI_01 (k : Int) : 0 ≤ moreI k ∧ moreI k ≤ 1 := by
  unfold moreI
  split <;> omega
def kidsA (kind : Int) : List Tm → Nat → List (Tm × Int × Int)
  | [], _ => []
  | k :: r, i => (k, (bindsI kind (i : Int)).1, (bindsI kind (i : Int)).2) :: kidsA kind r (i + 1)
def kidsP (kind : Int) (ks : List Tm) : List (Tm × Int × Int) := ks.map fun k => (k, 0, moreI kind)
def kidsB (kind : Int) (bs : List Br) : List (Tm × Int × Int) := bs.flatMap fun b => kidsP kind b.f1
/-- A node's kids, with what they bind. -/
def kidsOf (t : Tm) : List (Tm × Int × Int) := kidsA t.f0 t.f4 0 ++ kidsB t.f0 t.f5
def eachL {σ : Type} (f : Tm → Int → Int → σ → Bool × σ) : List (Tm × Int × Int) → σ → Bool × σ
  | [], s => (true, s)
  | x :: r, s => if (f x.1 x.2.1 x.2.2 s).1 = true then eachL f r (f x.1 x.2.1 x.2.2 s).2 else (false, (f x.1 x.2.1 x.2.2 s).2)
theorem eachL_yes {σ : Type} {f : Tm → Int → Int → σ → Bool × σ} {k : Tm} {v d : Int} {r : List (Tm × Int × Int)} {s : σ} (h : (f k v d s).1 = true) : eachL f ((k, v, d) :: r) s = eachL f r (f k v d s).2 := by
  rw [eachL, if_pos h]
theorem eachL_no {σ : Type} {f : Tm → Int → Int → σ → Bool × σ} {k : Tm} {v d : Int} {r : List (Tm × Int × Int)} {s : σ} (h : (f k v d s).1 = false) : eachL f ((k, v, d) :: r) s = (false, (f k v d s).2) := by
  rw [eachL, if_neg (by rw [h]; exact Bool.false_ne_true)]
/-- The blocks of nodes stay. -/
def KeepT (w w' : World) : Prop := w.heap.size ≤ w'.heap.size ∧ ∀ (g : Nat) (cs : Array Value), w.heap[g]? = some (Obj.cells cs 45 (0, 0)) → w'.heap[g]? = some (Obj.cells cs 45 (0, 0))
theorem KeepT.refl (w : World) : KeepT w w := ⟨Nat.le_refl _, fun _ _ h => h⟩
theorem KeepT.trans {w w1 w2 : World} (h : KeepT w w1) (h2 : KeepT w1 w2) : KeepT w w2 := ⟨Nat.le_trans h.1 h2.1, fun g cs hg => h2.2 g cs (h.2 g cs hg)⟩
theorem KeepT.of_below {w w1 : World} (hb : Below w.heap.size w w1) : KeepT w w1 := ⟨hb.size, fun g cs hg => blk_below hg hb⟩
theorem KeepT.below {w w1 w2 : World} (h : KeepT w w1) (hb : Below w1.heap.size w1 w2) : KeepT w w2 := h.trans (KeepT.of_below hb)
set_option maxHeartbeats 4000000 in
set_option maxRecDepth 100000 in
theorem term_each1 {σ : Type} (HBinds : ∀ (a i : Int) (w : World), Calls Tryd.prog 58 #[.int .i64 a, .int .i64 i] w fun e w' => e = .returned (.tuple #[.int .i64 (bindsI a i).1, .int .i64 (bindsI a i).2]) ∧ Below w.heap.size w w')
    (F : FuncId) (p0 : Value) (f : Tm → Int → Int → σ → Bool × σ) (St : σ → World → Prop) (En : World → Prop) (Pk : Tm → Prop) (w0 : World) (t : Tm) (cs : List Value) (s0 : σ) (w : World)
    (eg : ∀ args w, (callFunc F args).run Tryd.prog w = .ok (.enter F args) w) (hK : k45.K w0 t cs)
    (hSb : ∀ s w1, St s w1 → Below w0.heap.size w0 w1) (hSm : ∀ s w1 w2, St s w1 → Below w1.heap.size w1 w2 → St s w2)
    (hF : ∀ (k : Tm) (v d : Int) (s : σ) (ks : List Value) (w1 : World), Pk k → 0 ≤ v ∧ v ≤ 1 ∧ 0 ≤ d ∧ d ≤ 1 → St s w1 → k45.K w0 k ks →
      Calls Tryd.prog F #[.agg ks.toArray, .int .i64 v, .int .i64 d, p0] w1 fun e w' => e = .returned (.bool (f k v d s).1) ∧ ((f k v d s).1 = true → St (f k v d s).2 w') ∧ ((f k v d s).1 = false → En w') ∧ KeepT w1 w')
    (hP4 : ∀ k ∈ t.f4, Pk k) (hP5 : ∀ b ∈ t.f5, ∀ k ∈ b.f1, Pk k) (hS : St s0 w) :
    Calls Tryd.prog 44 #[.agg cs.toArray, .func (.func F) #[] #[p0]] w fun e w' => e = .returned (.bool (eachL f (kidsOf t) s0).1) ∧ ((eachL f (kidsOf t) s0).1 = true → St (eachL f (kidsOf t) s0).2 w') ∧ ((eachL f (kidsOf t) s0).1 = false → En w') ∧ KeepT w w' := by
  obtain ⟨A3, c3, A4, c4, A5, c5, rfl, l3, g3, l4, g4, l5, g5⟩ := k45_open hK
  have HB := Aside0.mk HBinds
  have HSB := Aside0.mk hSb
  have HSM := Aside0.mk hSm
  have HF := Aside0.mk hF
  have HG4 := Aside0.mk g4
  have HG5 := Aside0.mk g5
  have hm4 : t.f4.length ≤ 9223372036854775807 := Kd.C_max g4
  have hm5 : t.f5.length ≤ 9223372036854775807 := Kd.C_max g5
  have HS0 := Aside0.mk (hSm _ _ _ hS (below_alloc (Below.refl _ _) (.cells #[.int .i64 t.f0, .int .i64 t.f1, .string t.f2, .slice A3 t.f3.length c3, .slice A4 t.f4.length c4, .slice A5 t.f5.length c5] 45)))
  have HT0 := Aside0.mk (blk_new w (.cells #[.int .i64 t.f0, .int .i64 t.f1, .string t.f2, .slice A3 t.f3.length c3, .slice A4 t.f4.length c4, .slice A5 t.f5.length c5] 45))
  have HK0 := Aside0.mk ((KeepT.refl w).below (below_alloc (Below.refl _ _) (.cells #[.int .i64 t.f0, .int .i64 t.f1, .string t.f2, .slice A3 t.f3.length c3, .slice A4 t.f4.length c4, .slice A5 t.f5.length c5] 45)))
  have HP4 := Aside0.mk hP4
  have HP5 := Aside0.mk hP5
  clear hP4 hP5
  clear HBinds hSb hSm hF hS g3 g4 g5 l3 l4 l5 hK
  go_enter Tryd.func44, Tryd.ntmps44
  go_wp2
  generalize hbt : w.heap.size = bt at *
  generalize hW0 : w.alloc (.cells #[.int .i64 t.f0, .int .i64 t.f1, .string t.f2, .slice A3 t.f3.length c3, .slice A4 t.f4.length c4, .slice A5 t.f5.length c5] 45) = W0 at *
  clear hW0 hbt
  go_loopg [17] (t.f4.length + 1) (fun kq v17 wx => ∃ (j : Nat) (s : σ), v17 = .int .i64 (j : Int) ∧ j ≤ t.f4.length ∧ kq + j = t.f4.length + 1 ∧ Aside0 (eachL f (kidsOf t) s0 = eachL f (kidsA t.f0 (t.f4.drop j) j ++ kidsB t.f0 t.f5) s) ∧ Aside0 (St s wx) ∧ Aside0 (KeepT w wx) ∧ Aside0 (wx.heap[bt]? = some (.cells #[.int .i64 t.f0, .int .i64 t.f1, .string t.f2, .slice A3 t.f3.length c3, .slice A4 t.f4.length c4, .slice A5 t.f5.length c5] 45 (0, 0))))
  case atStart => exact ⟨0, s0, rfl, Nat.zero_le _, rfl, ⟨rfl⟩, HS0, HK0, HT0⟩
  case round =>
    clear HS0 HK0 HT0
    obtain ⟨j, s, rfl, hj, hk, HE, HS, HK, HT⟩ := hrel
    have hz0 := (blk_cell HT.out 0).trans (rfl : _ = some (Value.int .i64 t.f0))
    by_cases hlt : j < t.f4.length
    · have hd : decide ((j : Int) < (t.f4.length : Int)) = true := decide_eq_true (by omega)
      have HB0 := Aside0.mk (HSB.out _ _ HS.out)
      obtain ⟨ad, A3k, c3k, A4k, c4k, A5k, c5k, e, h0, h1, h2, h3, h4, h5, hKk⟩ := at_tm HG4.out j hlt
      cases e
      have hmem : t.f4[j] ∈ t.f4 := List.getElem_mem _
      have hdr := List.drop_eq_getElem_cons hlt
      obtain ⟨k, hkk⟩ : ∃ k, t.f4[j] = k := ⟨_, rfl⟩
      rw [hkk] at h0 h1 h2 h3 h4 h5 hKk hmem hdr
      replace h0 := pw_cell_below HB0.out h0
      replace h1 := pw_cell_below HB0.out h1
      replace h2 := pw_cell_below HB0.out h2
      replace h3 := pw_cell_below HB0.out h3
      replace h4 := pw_cell_below HB0.out h4
      replace h5 := pw_cell_below HB0.out h5
      have hE := HE.out
      rw [hdr, kidsA, List.cons_append] at hE
      obtain ⟨v, hv⟩ : ∃ v, (bindsI t.f0 (j : Int)).1 = v := ⟨_, rfl⟩
      obtain ⟨d, hd2⟩ : ∃ d, (bindsI t.f0 (j : Int)).2 = d := ⟨_, rfl⟩
      rw [hv, hd2] at hE
      have hba : Below wr.heap.size wr (wr.alloc (.cells #[.int .i64 k.f0, .int .i64 k.f1, .string k.f2, .slice A3k k.f3.length c3k, .slice A4k k.f4.length c4k, .slice A5k k.f5.length c5k] 45)) := below_alloc (Below.refl _ _) _
      have HNB := Aside0.mk (blk_new wr (.cells #[.int .i64 k.f0, .int .i64 k.f1, .string k.f2, .slice A3k k.f3.length c3k, .slice A4k k.f4.length c4k, .slice A5k k.f5.length c5k] 45))
      have HKA := Aside0.mk (HK.out.below hba)
      have HTA := Aside0.mk (blk_below HT.out hba)
      have HSA := Aside0.mk (HSM.out _ _ _ HS.out hba)
      have hcb := HB.out t.f0 (j : Int) (wr.alloc (.cells #[.int .i64 k.f0, .int .i64 k.f1, .string k.f2, .slice A3k k.f3.length c3k, .slice A4k k.f4.length c4k, .slice A5k k.f5.length c5k] 45))
      rw [hv, hd2] at hcb
      have HKk := Aside0.mk hKk
      have hz0a := (blk_cell HTA.out 0).trans (rfl : _ = some (Value.int .i64 t.f0))
      have HMEM := Aside0.mk (HP4.out _ hmem)
      have HVD := Aside0.mk (bindsI_01 t.f0 (j : Int))
      rw [hv, hd2] at HVD
      have HEE := Aside0.mk hE
      clear hba hdr hkk hmem hE HE HS HK HB0 hKk HT hv hd2
      cases hb : (f k v d s).1
      all_goals
        have HBV := Aside0.mk hb
        clear hb
        go_wp2_with (first
          | (go_at_call 58; refine hcb.mono ?_; rintro e w4 ⟨rfl, hb4⟩; have HK4 := Aside0.mk (HKA.out.below hb4); have HT4 := Aside0.mk (blk_below HTA.out hb4); have HS4 := Aside0.mk (HSM.out _ _ _ HSA.out hb4); have HN4 := Aside0.mk (blk_below HNB.out hb4); have hq0 := (blk_cell HN4.out 0).trans (rfl : _ = some (Value.int .i64 k.f0)); have hq1 := (blk_cell HN4.out 1).trans (rfl : _ = some (Value.int .i64 k.f1)); have hq2 := (blk_cell HN4.out 2).trans (rfl : _ = some (Value.string k.f2)); have hq3 := (blk_cell HN4.out 3).trans (rfl : _ = some (Value.slice A3k k.f3.length c3k)); have hq4 := (blk_cell HN4.out 4).trans (rfl : _ = some (Value.slice A4k k.f4.length c4k)); have hq5 := (blk_cell HN4.out 5).trans (rfl : _ = some (Value.slice A5k k.f5.length c5k)); have hcf := HF.out k v d s _ w4 HMEM.out HVD.out HS4.out HKk.out; rw [HBV.out] at hcf; clear hcb hb4)
          | (go_at_fn F; refine hcf.mono ?_; rintro e w5 ⟨rfl, hs5, hn5, hk5⟩; have HS5 := Aside0.mk hs5; have HN5 := Aside0.mk hn5; have HK5 := Aside0.mk (HK4.out.trans hk5); have HT5 := Aside0.mk (hk5.2 _ _ HT4.out); clear hcf hs5 hn5 hk5))
      · go_ret
        exact ⟨by rw [HEE.out, eachL_no HBV.out]; rfl, by rw [HEE.out, eachL_no HBV.out]; exact fun h => absurd h Bool.false_ne_true, fun _ => HN5.out (by trivial), HK5.out⟩
      · go_roundg (gk - 1)
        case measure => omega
        case rel => exact ⟨j + 1, _, rfl, by omega, by omega, ⟨by rw [HEE.out, eachL_yes HBV.out]⟩, ⟨HS5.out (by trivial)⟩, HK5, HT5⟩
    · have hd : decide ((j : Int) < (t.f4.length : Int)) = false := decide_eq_false (by omega)
      have hE := HE.out
      rw [List.drop_eq_nil_of_le (by omega), kidsA, List.nil_append] at hE
      have HE2 := Aside0.mk hE
      clear hE HE
      have hz5 := (blk_cell HT.out 5).trans (rfl : _ = some (Value.slice A5 t.f5.length c5))
      have hz0 := (blk_cell HT.out 0).trans (rfl : _ = some (Value.int .i64 t.f0))
      go_upto_if 38 with fail
      go_cut [9] from 36 to 38 (fun v9 wx => v9 = .int .i64 (moreI t.f0) ∧ Aside0 (St s wx) ∧ Aside0 (KeepT w wx) ∧ Aside0 (wx.heap[bt]? = some (.cells #[.int .i64 t.f0, .int .i64 t.f1, .string t.f2, .slice A3 t.f3.length c3, .slice A4 t.f4.length c4, .slice A5 t.f5.length c5] 45 (0, 0))))
      case first =>
        by_cases k15 : t.f0 = 15
        · have b15 : (t.f0 == 15) = true := by simp [k15]
          have hmo : moreI t.f0 = 1 := by rw [moreI, if_pos k15]
          clear k15
          go_wp2
          go_meet
          exact ⟨by rw [hmo], HS, HK, HT⟩
        · have b15 : (t.f0 == 15) = false := by simp [k15]
          have hmo : moreI t.f0 = 0 := by rw [moreI, if_neg k15]
          clear k15
          go_wp2
          go_meet
          exact ⟨by rw [hmo], HS, HK, HT⟩
      case rest =>
        clear hz0 hz5 HS HK HT
        obtain ⟨rfl, HS, HK, HT⟩ := hcut
        have hz5 := (blk_cell HT.out 5).trans (rfl : _ = some (Value.slice A5 t.f5.length c5))
        go_wp2
        obtain ⟨go, rfl⟩ : ∃ go, go = gk := ⟨_, rfl⟩
        go_loopg [42] (t.f5.length + 1) (fun kq v42 wx => ∃ (i : Nat) (s : σ), v42 = .int .i64 (i : Int) ∧ i ≤ t.f5.length ∧ kq + i = t.f5.length + 1 ∧ Aside0 (eachL f (kidsOf t) s0 = eachL f (kidsB t.f0 (t.f5.drop i)) s) ∧ Aside0 (St s wx) ∧ Aside0 (KeepT w wx))
        case atStart => exact ⟨0, s, rfl, Nat.zero_le _, rfl, HE2, HS, HK⟩
        case round =>
          clear HS HK HT HE2 hz5
          obtain ⟨i, s, rfl, hi, hki, HE, HS, HK⟩ := hrel
          by_cases hli : i < t.f5.length
          · have hdi : decide ((i : Int) < (t.f5.length : Int)) = true := decide_eq_true (by omega)
            have HB0 := Aside0.mk (HSB.out _ _ HS.out)
            obtain ⟨ad, A0b, c0b, A1b, c1b, e, h0, h1, l0, g0, l1, g1⟩ := at_br HG5.out i hli
            cases e
            have hmb : t.f5[i] ∈ t.f5 := List.getElem_mem _
            have hdr := List.drop_eq_getElem_cons hli
            obtain ⟨b, hbb⟩ : ∃ b, t.f5[i] = b := ⟨_, rfl⟩
            rw [hbb] at h0 h1 l0 g0 l1 g1 hmb hdr
            replace h0 := pw_cell_below HB0.out h0
            replace h1 := pw_cell_below HB0.out h1
            have hE := HE.out
            rw [hdr, kidsB, List.flatMap_cons, ← kidsB] at hE
            have HG1 := Aside0.mk g1
            have HMB := Aside0.mk hmb
            have hmk1 : b.f1.length ≤ 9223372036854775807 := Kd.C_max g1
            have hba : Below wr.heap.size wr (wr.alloc (.cells #[.slice A0b b.f0.length c0b, .slice A1b b.f1.length c1b] 73)) := below_alloc (Below.refl _ _) _
            have HSA := Aside0.mk (HSM.out _ _ _ HS.out hba)
            have HKA := Aside0.mk (HK.out.below hba)
            have HEE := Aside0.mk hE
            clear hE HE hdr hbb hmb g0 g1 l0 l1 hba HS HK HB0
            go_wp2
            obtain ⟨gp, rfl⟩ : ∃ gp, gp = gk := ⟨_, rfl⟩
            obtain ⟨wo, rfl⟩ : ∃ wo : World, wo = wr := ⟨_, rfl⟩
            go_loopg [49] (b.f1.length + 1) (fun kq v49 wx => ∃ (j : Nat) (s : σ), v49 = .int .i64 (j : Int) ∧ j ≤ b.f1.length ∧ kq + j = b.f1.length + 1 ∧ Aside0 (eachL f (kidsOf t) s0 = eachL f (kidsP t.f0 (b.f1.drop j) ++ kidsB t.f0 (t.f5.drop (i + 1))) s) ∧ Aside0 (St s wx) ∧ Aside0 (KeepT w wx))
            case atStart => exact ⟨0, s, rfl, Nat.zero_le _, rfl, HEE, HSA, HKA⟩
            case round =>
              clear HSA HKA HEE h0 h1
              obtain ⟨j, s, rfl, hj, hkj, HE, HS, HK⟩ := hrel
              by_cases hlt : j < b.f1.length
              · have hd : decide ((j : Int) < (b.f1.length : Int)) = true := decide_eq_true (by omega)
                have HB0 := Aside0.mk (HSB.out _ _ HS.out)
                obtain ⟨ad, A3k, c3k, A4k, c4k, A5k, c5k, e, h0, h1, h2, h3, h4, h5, hKk⟩ := at_tm HG1.out j hlt
                cases e
                have hmem : b.f1[j] ∈ b.f1 := List.getElem_mem _
                have hdr := List.drop_eq_getElem_cons hlt
                obtain ⟨k, hkk⟩ : ∃ k, b.f1[j] = k := ⟨_, rfl⟩
                rw [hkk] at h0 h1 h2 h3 h4 h5 hKk hmem hdr
                replace h0 := pw_cell_below HB0.out h0
                replace h1 := pw_cell_below HB0.out h1
                replace h2 := pw_cell_below HB0.out h2
                replace h3 := pw_cell_below HB0.out h3
                replace h4 := pw_cell_below HB0.out h4
                replace h5 := pw_cell_below HB0.out h5
                have hE := HE.out
                rw [hdr, kidsP, List.map_cons, List.cons_append, ← kidsP] at hE
                have hba : Below wr.heap.size wr (wr.alloc (.cells #[.int .i64 k.f0, .int .i64 k.f1, .string k.f2, .slice A3k k.f3.length c3k, .slice A4k k.f4.length c4k, .slice A5k k.f5.length c5k] 45)) := below_alloc (Below.refl _ _) _
                have HKA := Aside0.mk (HK.out.below hba)
                have HSA := Aside0.mk (HSM.out _ _ _ HS.out hba)
                have HEE := Aside0.mk hE
                have hcf := HF.out k 0 (moreI t.f0) s _ (wr.alloc (.cells #[.int .i64 k.f0, .int .i64 k.f1, .string k.f2, .slice A3k k.f3.length c3k, .slice A4k k.f4.length c4k, .slice A5k k.f5.length c5k] 45)) (HP5.out _ HMB.out _ hmem) ⟨by omega, by omega, moreI_01 t.f0⟩ HSA.out hKk
                clear hba hdr hkk hmem hE HE HS HK HB0 hKk HSA
                cases hb : (f k 0 (moreI t.f0) s).1
                all_goals
                  have HBV := Aside0.mk hb
                  rw [hb] at hcf
                  clear hb
                  go_wp2_with (go_at_fn F; refine hcf.mono ?_; rintro e w5 ⟨rfl, hs5, hn5, hk5⟩; have HS5 := Aside0.mk hs5; have HN5 := Aside0.mk hn5; have HK5 := Aside0.mk (HKA.out.trans hk5); clear hcf hs5 hn5 hk5)
                · go_ret
                  exact ⟨by rw [HEE.out, eachL_no HBV.out]; rfl, by rw [HEE.out, eachL_no HBV.out]; exact fun h => absurd h Bool.false_ne_true, fun _ => HN5.out (by trivial), HK5.out⟩
                · go_roundg (gk - 1)
                  case measure => omega
                  case rel => exact ⟨j + 1, _, rfl, by omega, by omega, ⟨by rw [HEE.out, eachL_yes HBV.out]⟩, ⟨HS5.out (by trivial)⟩, HK5⟩
              · have hd : decide ((j : Int) < (b.f1.length : Int)) = false := decide_eq_false (by omega)
                have hE := HE.out
                rw [List.drop_eq_nil_of_le (by omega), kidsP, List.map_nil, List.nil_append] at hE
                have HE3 := Aside0.mk hE
                clear hE HE
                go_wp2
                go_roundg (gp - 1)
                case measure => omega
                case rel => exact ⟨i + 1, s, rfl, by omega, by omega, HE3, HS, HK⟩
          · have hdi : decide ((i : Int) < (t.f5.length : Int)) = false := decide_eq_false (by omega)
            have hE := HE.out
            rw [List.drop_eq_nil_of_le (by omega), kidsB, List.flatMap_nil, eachL] at hE
            have HE3 := Aside0.mk hE
            clear hE HE
            go_wp2
            go_ret
            exact ⟨by rw [HE3.out]; rfl, by rw [HE3.out]; exact fun _ => HS.out, by rw [HE3.out]; exact fun h => absurd h.symm Bool.false_ne_true, HK.out⟩
set_option maxHeartbeats 4000000 in
set_option maxRecDepth 100000 in
theorem term_each3 {σ : Type} (HBinds : ∀ (a i : Int) (w : World), Calls Tryd.prog 58 #[.int .i64 a, .int .i64 i] w fun e w' => e = .returned (.tuple #[.int .i64 (bindsI a i).1, .int .i64 (bindsI a i).2]) ∧ Below w.heap.size w w')
    (F : FuncId) (p0 p1 p2 : Value) (f : Tm → Int → Int → σ → Bool × σ) (St : σ → World → Prop) (En : World → Prop) (Pk : Tm → Prop) (w0 : World) (t : Tm) (cs : List Value) (s0 : σ) (w : World)
    (eg : ∀ args w, (callFunc F args).run Tryd.prog w = .ok (.enter F args) w) (hK : k45.K w0 t cs)
    (hSb : ∀ s w1, St s w1 → Below w0.heap.size w0 w1) (hSm : ∀ s w1 w2, St s w1 → Below w1.heap.size w1 w2 → St s w2)
    (hF : ∀ (k : Tm) (v d : Int) (s : σ) (ks : List Value) (w1 : World), Pk k → 0 ≤ v ∧ v ≤ 1 ∧ 0 ≤ d ∧ d ≤ 1 → St s w1 → k45.K w0 k ks →
      Calls Tryd.prog F #[.agg ks.toArray, .int .i64 v, .int .i64 d, p0, p1, p2] w1 fun e w' => e = .returned (.bool (f k v d s).1) ∧ ((f k v d s).1 = true → St (f k v d s).2 w') ∧ ((f k v d s).1 = false → En w') ∧ KeepT w1 w')
    (hP4 : ∀ k ∈ t.f4, Pk k) (hP5 : ∀ b ∈ t.f5, ∀ k ∈ b.f1, Pk k) (hS : St s0 w) :
    Calls Tryd.prog 44 #[.agg cs.toArray, .func (.func F) #[] #[p0, p1, p2]] w fun e w' => e = .returned (.bool (eachL f (kidsOf t) s0).1) ∧ ((eachL f (kidsOf t) s0).1 = true → St (eachL f (kidsOf t) s0).2 w') ∧ ((eachL f (kidsOf t) s0).1 = false → En w') ∧ KeepT w w' := by
  obtain ⟨A3, c3, A4, c4, A5, c5, rfl, l3, g3, l4, g4, l5, g5⟩ := k45_open hK
  have HB := Aside0.mk HBinds
  have HSB := Aside0.mk hSb
  have HSM := Aside0.mk hSm
  have HF := Aside0.mk hF
  have HG4 := Aside0.mk g4
  have HG5 := Aside0.mk g5
  have hm4 : t.f4.length ≤ 9223372036854775807 := Kd.C_max g4
  have hm5 : t.f5.length ≤ 9223372036854775807 := Kd.C_max g5
  have HS0 := Aside0.mk (hSm _ _ _ hS (below_alloc (Below.refl _ _) (.cells #[.int .i64 t.f0, .int .i64 t.f1, .string t.f2, .slice A3 t.f3.length c3, .slice A4 t.f4.length c4, .slice A5 t.f5.length c5] 45)))
  have HT0 := Aside0.mk (blk_new w (.cells #[.int .i64 t.f0, .int .i64 t.f1, .string t.f2, .slice A3 t.f3.length c3, .slice A4 t.f4.length c4, .slice A5 t.f5.length c5] 45))
  have HK0 := Aside0.mk ((KeepT.refl w).below (below_alloc (Below.refl _ _) (.cells #[.int .i64 t.f0, .int .i64 t.f1, .string t.f2, .slice A3 t.f3.length c3, .slice A4 t.f4.length c4, .slice A5 t.f5.length c5] 45)))
  have HP4 := Aside0.mk hP4
  have HP5 := Aside0.mk hP5
  clear hP4 hP5
  clear HBinds hSb hSm hF hS g3 g4 g5 l3 l4 l5 hK
  go_enter Tryd.func44, Tryd.ntmps44
  go_wp2
  generalize hbt : w.heap.size = bt at *
  generalize hW0 : w.alloc (.cells #[.int .i64 t.f0, .int .i64 t.f1, .string t.f2, .slice A3 t.f3.length c3, .slice A4 t.f4.length c4, .slice A5 t.f5.length c5] 45) = W0 at *
  clear hW0 hbt
  go_loopg [17] (t.f4.length + 1) (fun kq v17 wx => ∃ (j : Nat) (s : σ), v17 = .int .i64 (j : Int) ∧ j ≤ t.f4.length ∧ kq + j = t.f4.length + 1 ∧ Aside0 (eachL f (kidsOf t) s0 = eachL f (kidsA t.f0 (t.f4.drop j) j ++ kidsB t.f0 t.f5) s) ∧ Aside0 (St s wx) ∧ Aside0 (KeepT w wx) ∧ Aside0 (wx.heap[bt]? = some (.cells #[.int .i64 t.f0, .int .i64 t.f1, .string t.f2, .slice A3 t.f3.length c3, .slice A4 t.f4.length c4, .slice A5 t.f5.length c5] 45 (0, 0))))
  case atStart => exact ⟨0, s0, rfl, Nat.zero_le _, rfl, ⟨rfl⟩, HS0, HK0, HT0⟩
  case round =>
    clear HS0 HK0 HT0
    obtain ⟨j, s, rfl, hj, hk, HE, HS, HK, HT⟩ := hrel
    have hz0 := (blk_cell HT.out 0).trans (rfl : _ = some (Value.int .i64 t.f0))
    by_cases hlt : j < t.f4.length
    · have hd : decide ((j : Int) < (t.f4.length : Int)) = true := decide_eq_true (by omega)
      have HB0 := Aside0.mk (HSB.out _ _ HS.out)
      obtain ⟨ad, A3k, c3k, A4k, c4k, A5k, c5k, e, h0, h1, h2, h3, h4, h5, hKk⟩ := at_tm HG4.out j hlt
      cases e
      have hmem : t.f4[j] ∈ t.f4 := List.getElem_mem _
      have hdr := List.drop_eq_getElem_cons hlt
      obtain ⟨k, hkk⟩ : ∃ k, t.f4[j] = k := ⟨_, rfl⟩
      rw [hkk] at h0 h1 h2 h3 h4 h5 hKk hmem hdr
      replace h0 := pw_cell_below HB0.out h0
      replace h1 := pw_cell_below HB0.out h1
      replace h2 := pw_cell_below HB0.out h2
      replace h3 := pw_cell_below HB0.out h3
      replace h4 := pw_cell_below HB0.out h4
      replace h5 := pw_cell_below HB0.out h5
      have hE := HE.out
      rw [hdr, kidsA, List.cons_append] at hE
      obtain ⟨v, hv⟩ : ∃ v, (bindsI t.f0 (j : Int)).1 = v := ⟨_, rfl⟩
      obtain ⟨d, hd2⟩ : ∃ d, (bindsI t.f0 (j : Int)).2 = d := ⟨_, rfl⟩
      rw [hv, hd2] at hE
      have hba : Below wr.heap.size wr (wr.alloc (.cells #[.int .i64 k.f0, .int .i64 k.f1, .string k.f2, .slice A3k k.f3.length c3k, .slice A4k k.f4.length c4k, .slice A5k k.f5.length c5k] 45)) := below_alloc (Below.refl _ _) _
      have HNB := Aside0.mk (blk_new wr (.cells #[.int .i64 k.f0, .int .i64 k.f1, .string k.f2, .slice A3k k.f3.length c3k, .slice A4k k.f4.length c4k, .slice A5k k.f5.length c5k] 45))
      have HKA := Aside0.mk (HK.out.below hba)
      have HTA := Aside0.mk (blk_below HT.out hba)
      have HSA := Aside0.mk (HSM.out _ _ _ HS.out hba)
      have hcb := HB.out t.f0 (j : Int) (wr.alloc (.cells #[.int .i64 k.f0, .int .i64 k.f1, .string k.f2, .slice A3k k.f3.length c3k, .slice A4k k.f4.length c4k, .slice A5k k.f5.length c5k] 45))
      rw [hv, hd2] at hcb
      have HKk := Aside0.mk hKk
      have hz0a := (blk_cell HTA.out 0).trans (rfl : _ = some (Value.int .i64 t.f0))
      have HMEM := Aside0.mk (HP4.out _ hmem)
      have HVD := Aside0.mk (bindsI_01 t.f0 (j : Int))
      rw [hv, hd2] at HVD
      have HEE := Aside0.mk hE
      clear hba hdr hkk hmem hE HE HS HK HB0 hKk HT hv hd2
      cases hb : (f k v d s).1
      all_goals
        have HBV := Aside0.mk hb
        clear hb
        go_wp2_with (first
          | (go_at_call 58; refine hcb.mono ?_; rintro e w4 ⟨rfl, hb4⟩; have HK4 := Aside0.mk (HKA.out.below hb4); have HT4 := Aside0.mk (blk_below HTA.out hb4); have HS4 := Aside0.mk (HSM.out _ _ _ HSA.out hb4); have HN4 := Aside0.mk (blk_below HNB.out hb4); have hq0 := (blk_cell HN4.out 0).trans (rfl : _ = some (Value.int .i64 k.f0)); have hq1 := (blk_cell HN4.out 1).trans (rfl : _ = some (Value.int .i64 k.f1)); have hq2 := (blk_cell HN4.out 2).trans (rfl : _ = some (Value.string k.f2)); have hq3 := (blk_cell HN4.out 3).trans (rfl : _ = some (Value.slice A3k k.f3.length c3k)); have hq4 := (blk_cell HN4.out 4).trans (rfl : _ = some (Value.slice A4k k.f4.length c4k)); have hq5 := (blk_cell HN4.out 5).trans (rfl : _ = some (Value.slice A5k k.f5.length c5k)); have hcf := HF.out k v d s _ w4 HMEM.out HVD.out HS4.out HKk.out; rw [HBV.out] at hcf; clear hcb hb4)
          | (go_at_fn F; refine hcf.mono ?_; rintro e w5 ⟨rfl, hs5, hn5, hk5⟩; have HS5 := Aside0.mk hs5; have HN5 := Aside0.mk hn5; have HK5 := Aside0.mk (HK4.out.trans hk5); have HT5 := Aside0.mk (hk5.2 _ _ HT4.out); clear hcf hs5 hn5 hk5))
      · go_ret
        exact ⟨by rw [HEE.out, eachL_no HBV.out]; rfl, by rw [HEE.out, eachL_no HBV.out]; exact fun h => absurd h Bool.false_ne_true, fun _ => HN5.out (by trivial), HK5.out⟩
      · go_roundg (gk - 1)
        case measure => omega
        case rel => exact ⟨j + 1, _, rfl, by omega, by omega, ⟨by rw [HEE.out, eachL_yes HBV.out]⟩, ⟨HS5.out (by trivial)⟩, HK5, HT5⟩
    · have hd : decide ((j : Int) < (t.f4.length : Int)) = false := decide_eq_false (by omega)
      have hE := HE.out
      rw [List.drop_eq_nil_of_le (by omega), kidsA, List.nil_append] at hE
      have HE2 := Aside0.mk hE
      clear hE HE
      have hz5 := (blk_cell HT.out 5).trans (rfl : _ = some (Value.slice A5 t.f5.length c5))
      have hz0 := (blk_cell HT.out 0).trans (rfl : _ = some (Value.int .i64 t.f0))
      go_upto_if 38 with fail
      go_cut [9] from 36 to 38 (fun v9 wx => v9 = .int .i64 (moreI t.f0) ∧ Aside0 (St s wx) ∧ Aside0 (KeepT w wx) ∧ Aside0 (wx.heap[bt]? = some (.cells #[.int .i64 t.f0, .int .i64 t.f1, .string t.f2, .slice A3 t.f3.length c3, .slice A4 t.f4.length c4, .slice A5 t.f5.length c5] 45 (0, 0))))
      case first =>
        by_cases k15 : t.f0 = 15
        · have b15 : (t.f0 == 15) = true := by simp [k15]
          have hmo : moreI t.f0 = 1 := by rw [moreI, if_pos k15]
          clear k15
          go_wp2
          go_meet
          exact ⟨by rw [hmo], HS, HK, HT⟩
        · have b15 : (t.f0 == 15) = false := by simp [k15]
          have hmo : moreI t.f0 = 0 := by rw [moreI, if_neg k15]
          clear k15
          go_wp2
          go_meet
          exact ⟨by rw [hmo], HS, HK, HT⟩
      case rest =>
        clear hz0 hz5 HS HK HT
        obtain ⟨rfl, HS, HK, HT⟩ := hcut
        have hz5 := (blk_cell HT.out 5).trans (rfl : _ = some (Value.slice A5 t.f5.length c5))
        go_wp2
        obtain ⟨go, rfl⟩ : ∃ go, go = gk := ⟨_, rfl⟩
        go_loopg [42] (t.f5.length + 1) (fun kq v42 wx => ∃ (i : Nat) (s : σ), v42 = .int .i64 (i : Int) ∧ i ≤ t.f5.length ∧ kq + i = t.f5.length + 1 ∧ Aside0 (eachL f (kidsOf t) s0 = eachL f (kidsB t.f0 (t.f5.drop i)) s) ∧ Aside0 (St s wx) ∧ Aside0 (KeepT w wx))
        case atStart => exact ⟨0, s, rfl, Nat.zero_le _, rfl, HE2, HS, HK⟩
        case round =>
          clear HS HK HT HE2 hz5
          obtain ⟨i, s, rfl, hi, hki, HE, HS, HK⟩ := hrel
          by_cases hli : i < t.f5.length
          · have hdi : decide ((i : Int) < (t.f5.length : Int)) = true := decide_eq_true (by omega)
            have HB0 := Aside0.mk (HSB.out _ _ HS.out)
            obtain ⟨ad, A0b, c0b, A1b, c1b, e, h0, h1, l0, g0, l1, g1⟩ := at_br HG5.out i hli
            cases e
            have hmb : t.f5[i] ∈ t.f5 := List.getElem_mem _
            have hdr := List.drop_eq_getElem_cons hli
            obtain ⟨b, hbb⟩ : ∃ b, t.f5[i] = b := ⟨_, rfl⟩
            rw [hbb] at h0 h1 l0 g0 l1 g1 hmb hdr
            replace h0 := pw_cell_below HB0.out h0
            replace h1 := pw_cell_below HB0.out h1
            have hE := HE.out
            rw [hdr, kidsB, List.flatMap_cons, ← kidsB] at hE
            have HG1 := Aside0.mk g1
            have HMB := Aside0.mk hmb
            have hmk1 : b.f1.length ≤ 9223372036854775807 := Kd.C_max g1
            have hba : Below wr.heap.size wr (wr.alloc (.cells #[.slice A0b b.f0.length c0b, .slice A1b b.f1.length c1b] 73)) := below_alloc (Below.refl _ _) _
            have HSA := Aside0.mk (HSM.out _ _ _ HS.out hba)
            have HKA := Aside0.mk (HK.out.below hba)
            have HEE := Aside0.mk hE
            clear hE HE hdr hbb hmb g0 g1 l0 l1 hba HS HK HB0
            go_wp2
            obtain ⟨gp, rfl⟩ : ∃ gp, gp = gk := ⟨_, rfl⟩
            obtain ⟨wo, rfl⟩ : ∃ wo : World, wo = wr := ⟨_, rfl⟩
            go_loopg [49] (b.f1.length + 1) (fun kq v49 wx => ∃ (j : Nat) (s : σ), v49 = .int .i64 (j : Int) ∧ j ≤ b.f1.length ∧ kq + j = b.f1.length + 1 ∧ Aside0 (eachL f (kidsOf t) s0 = eachL f (kidsP t.f0 (b.f1.drop j) ++ kidsB t.f0 (t.f5.drop (i + 1))) s) ∧ Aside0 (St s wx) ∧ Aside0 (KeepT w wx))
            case atStart => exact ⟨0, s, rfl, Nat.zero_le _, rfl, HEE, HSA, HKA⟩
            case round =>
              clear HSA HKA HEE h0 h1
              obtain ⟨j, s, rfl, hj, hkj, HE, HS, HK⟩ := hrel
              by_cases hlt : j < b.f1.length
              · have hd : decide ((j : Int) < (b.f1.length : Int)) = true := decide_eq_true (by omega)
                have HB0 := Aside0.mk (HSB.out _ _ HS.out)
                obtain ⟨ad, A3k, c3k, A4k, c4k, A5k, c5k, e, h0, h1, h2, h3, h4, h5, hKk⟩ := at_tm HG1.out j hlt
                cases e
                have hmem : b.f1[j] ∈ b.f1 := List.getElem_mem _
                have hdr := List.drop_eq_getElem_cons hlt
                obtain ⟨k, hkk⟩ : ∃ k, b.f1[j] = k := ⟨_, rfl⟩
                rw [hkk] at h0 h1 h2 h3 h4 h5 hKk hmem hdr
                replace h0 := pw_cell_below HB0.out h0
                replace h1 := pw_cell_below HB0.out h1
                replace h2 := pw_cell_below HB0.out h2
                replace h3 := pw_cell_below HB0.out h3
                replace h4 := pw_cell_below HB0.out h4
                replace h5 := pw_cell_below HB0.out h5
                have hE := HE.out
                rw [hdr, kidsP, List.map_cons, List.cons_append, ← kidsP] at hE
                have hba : Below wr.heap.size wr (wr.alloc (.cells #[.int .i64 k.f0, .int .i64 k.f1, .string k.f2, .slice A3k k.f3.length c3k, .slice A4k k.f4.length c4k, .slice A5k k.f5.length c5k] 45)) := below_alloc (Below.refl _ _) _
                have HKA := Aside0.mk (HK.out.below hba)
                have HSA := Aside0.mk (HSM.out _ _ _ HS.out hba)
                have HEE := Aside0.mk hE
                have hcf := HF.out k 0 (moreI t.f0) s _ (wr.alloc (.cells #[.int .i64 k.f0, .int .i64 k.f1, .string k.f2, .slice A3k k.f3.length c3k, .slice A4k k.f4.length c4k, .slice A5k k.f5.length c5k] 45)) (HP5.out _ HMB.out _ hmem) ⟨by omega, by omega, moreI_01 t.f0⟩ HSA.out hKk
                clear hba hdr hkk hmem hE HE HS HK HB0 hKk HSA
                cases hb : (f k 0 (moreI t.f0) s).1
                all_goals
                  have HBV := Aside0.mk hb
                  rw [hb] at hcf
                  clear hb
                  go_wp2_with (go_at_fn F; refine hcf.mono ?_; rintro e w5 ⟨rfl, hs5, hn5, hk5⟩; have HS5 := Aside0.mk hs5; have HN5 := Aside0.mk hn5; have HK5 := Aside0.mk (HKA.out.trans hk5); clear hcf hs5 hn5 hk5)
                · go_ret
                  exact ⟨by rw [HEE.out, eachL_no HBV.out]; rfl, by rw [HEE.out, eachL_no HBV.out]; exact fun h => absurd h Bool.false_ne_true, fun _ => HN5.out (by trivial), HK5.out⟩
                · go_roundg (gk - 1)
                  case measure => omega
                  case rel => exact ⟨j + 1, _, rfl, by omega, by omega, ⟨by rw [HEE.out, eachL_yes HBV.out]⟩, ⟨HS5.out (by trivial)⟩, HK5⟩
              · have hd : decide ((j : Int) < (b.f1.length : Int)) = false := decide_eq_false (by omega)
                have hE := HE.out
                rw [List.drop_eq_nil_of_le (by omega), kidsP, List.map_nil, List.nil_append] at hE
                have HE3 := Aside0.mk hE
                clear hE HE
                go_wp2
                go_roundg (gp - 1)
                case measure => omega
                case rel => exact ⟨i + 1, s, rfl, by omega, by omega, HE3, HS, HK⟩
          · have hdi : decide ((i : Int) < (t.f5.length : Int)) = false := decide_eq_false (by omega)
            have hE := HE.out
            rw [List.drop_eq_nil_of_le (by omega), kidsB, List.flatMap_nil, eachL] at hE
            have HE3 := Aside0.mk hE
            clear hE HE
            go_wp2
            go_ret
            exact ⟨by rw [HE3.out]; rfl, by rw [HE3.out]; exact fun _ => HS.out, by rw [HE3.out]; exact fun h => absurd h.symm Bool.false_ne_true, HK.out⟩
end Go.Proofs.YtahdjajdaggmjaaDoor.XPo
