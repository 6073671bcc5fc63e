/-
Walk: pack.Encode.
-/
import Derived.Test.YtahdjajdaggmjaaDoorZwrong
set_option linter.unusedVariables false
set_option linter.unusedSimpArgs false
namespace Go.Proofs.YtahdjajdaggmjaaDoor.XPo
open Go.RowKit Go.Proofs.YtahdjajdaggmjaaDoorW.PrintWords Go.Proofs.YtahdjajdaggmjaaDoorW.PrintLast Go.Proofs.YtahdjajdaggmjaaDoorW.PrintMore

/-- An entry, put; all. -/
def encE (x : En) : List Int := textL x.f0 ++ encT x.f1 ++ encT x.f2
def encS (l : List En) : List Int := [72, 67, 1] ++ numL l.length ++ l.flatMap encE
structure EncP (PN : ByteArray → Prop) (PT : Tm → Prop) (PS : List Int → Prop) (nb : ByteArray → Bool) (rt : Tm → Int) (sl : List Int → List Int) : Prop extends WrongP PN PT nb rt where
  parts : ∀ (a : Int) (w : World), Calls Tryd.prog 29 #[.int .i64 a] w fun e w' => e = .returned (.int .i64 (partsI a)) ∧ Below w.heap.size w w'
  sealed_ : ∀ (u : Value) (l : List Int) (w0 w : World), Below w0.heap.size w0 w → Kd.R (Kd.int .u8) 5 w w0.heap.size (fun _ => True) u l → PS l →
    Calls Tryd.prog 19 #[u] w fun e w' => ∃ v, e = .returned v ∧ Kd.R (Kd.int .u8) 5 w' w0.heap.size (fun _ => True) v (sl l) ∧ Below w0.heap.size w0 w'
/-- What is put, and what is wrong. -/
def encodeI (nb : ByteArray → Bool) (rt : Tm → Int) (sl : List Int → List Int) (l : List En) : List Int × Int := if wrongI nb rt l = 0 then (if 1048572 < (encS l).length then ([], 3) else (sl (encS l), 0)) else ([], wrongI nb rt l)
set_option maxHeartbeats 4000000 in
set_option maxRecDepth 100000 in
theorem pack_Encode {PN : ByteArray → Prop} {PT : Tm → Prop} {PS : List Int → Prop} {nb : ByteArray → Bool} {rt : Tm → Int} {sl : List Int → List Int} (EP : EncP PN PT PS nb rt sl) (A : Option Addr) (cap : Nat) (l : List En) (w : World) (hT : Tab w) (hC : Kd.C k54 w A l.length l) (hl : l.length ≤ 1000) (ho : ∀ x ∈ l, okE PN PT x)
    (hok : wrongI nb rt l = 0 → (encS l).length ≤ 10000000 ∧ ((encS l).length ≤ 1048572 → PS (encS l)) ∧ ∀ x ∈ l, okT x.f1 ∧ okT x.f2) :
    Calls Tryd.prog 8 #[.slice A l.length cap] w fun e w' => ∃ v : Value, e = .returned (.tuple #[v, .int .i64 (encodeI nb rt sl l).2]) ∧ Kd.R (Kd.int .u8) 5 w' w.heap.size (fun _ => True) v (encodeI nb rt sl l).1 ∧ Below w.heap.size w w' := by
  have hcw := pack_wrong EP.toWrongP A cap l w hT hC hl ho
  by_cases q0 : wrongI nb rt l = 0
  · obtain ⟨hlen, hps, hoT⟩ := hok q0
    have HPS := Aside0.mk hps
    clear hps
    rw [q0] at hcw
    have HR : Aside0 (encodeI nb rt sl l = if 1048572 < (encS l).length then ([], 3) else (sl (encS l), 0)) := ⟨by rw [encodeI, if_pos q0]⟩
    have HE := Aside0.mk EP
    have HC := Aside0.mk hC
    have HO := Aside0.mk ho
    have HOT := Aside0.mk hoT
    have HLEN := Aside0.mk hlen
    have hpre : ([72, 67, 1] ++ numL l.length : List Int).length + (l.flatMap encE).length ≤ 10000000 := by rw [encS, List.length_append] at hlen; exact hlen
    have HPRE := Aside0.mk hpre
    clear EP hC ho hok hT hlen hpre q0 hoT
    go_enter Tryd.func8, Tryd.ntmps8
    have hcn : Aside0 (∀ w1, Below w.heap.size w w1 → WSt w.heap.size ((w1.alloc (.cells #[.int .u8 72, .int .u8 67, .int .u8 1] 5)).alloc (.cells #[.slice (some ⟨w1.heap.size, 0, none⟩) 3 3] 52)) (w1.heap.size + 1) [72, 67, 1] ∧ Below w.heap.size w ((w1.alloc (.cells #[.int .u8 72, .int .u8 67, .int .u8 1] 5)).alloc (.cells #[.slice (some ⟨w1.heap.size, 0, none⟩) 3 3] 52))) := ⟨fun w1 hb => by
      have h0 := own_lit w1 w.heap.size 5 .u8 [72, 67, 1] hb.size (by decide)
      have h1 : Kd.R (Kd.int .u8) 5 (w1.alloc (.cells #[.int .u8 72, .int .u8 67, .int .u8 1] 5)) w.heap.size (fun _ => True) (.slice (some ⟨w1.heap.size, 0, none⟩) 3 3) [72, 67, 1] := Kd.R_of_own h0 (fun _ _ => trivial)
      have h2 := blk_new (w1.alloc (.cells #[.int .u8 72, .int .u8 67, .int .u8 1] 5)) (.cells #[.slice (some ⟨w1.heap.size, 0, none⟩) 3 3] 52)
      rw [World.size_alloc] at h2
      have hs := hb.size
      exact ⟨⟨by omega, _, h2, Kd.R_alloc h1 _⟩, (hb.alloc hb.size _).alloc (by simp; omega) _⟩⟩
    go_wp2_with (first
      | (go_at_call 15; refine hcw.mono ?_; rintro e w1 ⟨rfl, hb1⟩; have h9 := hcn.out w1 hb1; have hcm := writer_number w _ l.length [72, 67, 1] _ (by omega) h9.2 h9.1 (by decide); clear hb1 hcw h9)
      | (go_at_call 16; refine hcm.mono ?_; rintro e w2 ⟨rfl, hb2, hs2, _⟩; have HB2 := Aside0.mk hb2; have HS2 := Aside0.mk hs2; clear hb2 hs2 hcm))
    clear hcn
    generalize hp : w1.heap.size + 1 = p at *
    clear hp
    have hpre := HPRE.out
    generalize hpr : [72, 67, 1] ++ numL l.length = pre at *
    have HPR := Aside0.mk hpr
    have HFL : Aside0 (∀ j, ((l.take j).flatMap encE).length ≤ (l.flatMap encE).length) := ⟨fun j => flat_take_le _ _ _⟩
    clear hpr HPRE
    go_loopg [23] (l.length + 1) (fun kq v23 wx => ∃ j : Nat, v23 = .int .i64 (j : Int) ∧ j ≤ l.length ∧ kq + j = l.length + 1 ∧ Aside0 (Below w.heap.size w wx) ∧ Aside0 (WSt w.heap.size wx p (pre ++ (l.take j).flatMap encE)))
    case atStart => exact ⟨0, rfl, Nat.zero_le _, rfl, HB2, ⟨by simpa using HS2.out⟩⟩
    case round =>
      clear HB2 HS2
      obtain ⟨j, rfl, hj, hk, HB, HS⟩ := hrel
      by_cases hlt : j < l.length
      · have hd : decide ((j : Int) < (l.length : Int)) = true := decide_eq_true (by omega)
        obtain ⟨ad, A3, c3, A4, c4, A5, c5, B3, d3, B4, d4, B5, d5, e, h0, h1, h2, h3, h4, h5, h6, h7, h8, h9, h10, h11, h12, hk1, hk2⟩ := at_en HC.out j hlt
        cases e
        have hmem : l[j] ∈ l := List.getElem_mem _
        have hst := take_succ_flat encE l j hlt
        obtain ⟨x, hx⟩ : ∃ x, l[j] = x := ⟨_, rfl⟩
        rw [hx] at h0 h1 h2 h3 h4 h5 h6 h7 h8 h9 h10 h11 h12 hmem hst hk1 hk2
        have hlen := HFL.out (j + 1)
        rw [hst, List.length_append] at hlen
        have hle : (encE x).length = (textL x.f0).length + (encT x.f1).length + (encT x.f2).length := by rw [encE, List.length_append, List.length_append]
        replace h0 := pw_cell_below HB.out h0
        replace h1 := pw_cell_below HB.out h1
        replace h2 := pw_cell_below HB.out h2
        replace h3 := pw_cell_below HB.out h3
        replace h4 := pw_cell_below HB.out h4
        replace h5 := pw_cell_below HB.out h5
        replace h6 := pw_cell_below HB.out h6
        replace h7 := pw_cell_below HB.out h7
        replace h8 := pw_cell_below HB.out h8
        replace h9 := pw_cell_below HB.out h9
        replace h10 := pw_cell_below HB.out h10
        replace h11 := pw_cell_below HB.out h11
        replace h12 := pw_cell_below HB.out h12
        have HOX := Aside0.mk (HO.out x hmem)
        have HOTX := Aside0.mk (HOT.out x hmem)
        have HBA := Aside0.mk (HB.out.alloc HB.out.size (.cells #[.string x.f0, .int .i64 x.f1.f0, .int .i64 x.f1.f1, .string x.f1.f2, .slice A3 x.f1.f3.length c3, .slice A4 x.f1.f4.length c4, .slice A5 x.f1.f5.length c5, .int .i64 x.f2.f0, .int .i64 x.f2.f1, .string x.f2.f2, .slice B3 x.f2.f3.length d3, .slice B4 x.f2.f4.length d4, .slice B5 x.f2.f5.length d5] 54))
        have HSA := Aside0.mk (HS.out.below (below_alloc (Below.refl _ _) (.cells #[.string x.f0, .int .i64 x.f1.f0, .int .i64 x.f1.f1, .string x.f1.f2, .slice A3 x.f1.f3.length c3, .slice A4 x.f1.f4.length c4, .slice A5 x.f1.f5.length c5, .int .i64 x.f2.f0, .int .i64 x.f2.f1, .string x.f2.f2, .slice B3 x.f2.f3.length d3, .slice B4 x.f2.f4.length d4, .slice B5 x.f2.f5.length d5] 54)))
        have HNA := Aside0.mk (blk_new wr (.cells #[.string x.f0, .int .i64 x.f1.f0, .int .i64 x.f1.f1, .string x.f1.f2, .slice A3 x.f1.f3.length c3, .slice A4 x.f1.f4.length c4, .slice A5 x.f1.f5.length c5, .int .i64 x.f2.f0, .int .i64 x.f2.f1, .string x.f2.f2, .slice B3 x.f2.f3.length d3, .slice B4 x.f2.f4.length d4, .slice B5 x.f2.f5.length d5] 54))
        have HNE := Aside0.mk (HSA.out.ne HNA.out (by decide))
        have HK1 := Aside0.mk hk1
        have HK2 := Aside0.mk hk2
        have HST : Aside0 (pre ++ (l.take (j + 1)).flatMap encE = pre ++ (l.take j).flatMap encE ++ textL x.f0 ++ encT x.f1 ++ encT x.f2) := ⟨by rw [hst, encE]; simp [List.append_assoc]⟩
        have HGE : Aside0 ((pre ++ (l.take (j + 1)).flatMap encE).length ≤ (encS l).length) := ⟨by have h9 := HFL.out (j + 1); rw [encS, HPR.out, List.length_append, List.length_append]; omega⟩
        have hx0 : (pre ++ (l.take j).flatMap encE).length ≤ 10000000 := by rw [List.length_append]; omega
        have hx1 : (pre ++ (l.take j).flatMap encE ++ textL x.f0 ++ encT x.f1).length ≤ 10000000 := by rw [List.length_append, List.length_append, List.length_append]; omega
        have hx2 : (pre ++ (l.take j).flatMap encE ++ textL x.f0 ++ encT x.f1 ++ encT x.f2).length ≤ 10000000 := by rw [List.length_append, List.length_append, List.length_append, List.length_append]; omega
        have hc1 := writer_text w p x.f0 _ _ (Nat.le_trans HOX.out.1 (by decide)) HBA.out HSA.out (by omega)
        generalize hY : pre ++ (l.take j).flatMap encE = ys at *
        clear hst hx hmem hk1 hk2 HB HS hlen hle hY
        by_cases hbig : 1048576 < (ys ++ textL x.f0 ++ encT x.f1 ++ encT x.f2).length
        · go_wp2_with (first
            | (go_at_call 17; refine hc1.mono ?_; rintro e w2 ⟨rfl, hb2, hs2, hkw2⟩; have HKW2 := Aside0.mk hkw2; have HN2 := Aside0.mk (hkw2.blk HNA.out HNE.out (by decide)); have hy1 := (blk_cell HN2.out 1).trans (rfl : _ = some (Value.int .i64 x.f1.f0)); have hy2 := (blk_cell HN2.out 2).trans (rfl : _ = some (Value.int .i64 x.f1.f1)); have hy3 := (blk_cell HN2.out 3).trans (rfl : _ = some (Value.string x.f1.f2)); have hy4 := (blk_cell HN2.out 4).trans (rfl : _ = some (Value.slice A3 x.f1.f3.length c3)); have hy5 := (blk_cell HN2.out 5).trans (rfl : _ = some (Value.slice A4 x.f1.f4.length c4)); have hy6 := (blk_cell HN2.out 6).trans (rfl : _ = some (Value.slice A5 x.f1.f5.length c5)); have hc2 := writer_term HE.out.parts w p (sizeT x.f1) x.f1 _ _ w2 (Nat.le_refl _) HK1.out HOTX.out.1 hb2 hs2 (by omega); clear hc1 hb2 hs2 hkw2)
            | (go_at_call 18; refine hc2.mono ?_; rintro e w3 ⟨rfl, hb3, hs3, hkw3⟩; have HN3 := Aside0.mk (hkw3.blk HN2.out HNE.out (by decide)); have hz7 := (blk_cell HN3.out 7).trans (rfl : _ = some (Value.int .i64 x.f2.f0)); have hz8 := (blk_cell HN3.out 8).trans (rfl : _ = some (Value.int .i64 x.f2.f1)); have hz9 := (blk_cell HN3.out 9).trans (rfl : _ = some (Value.string x.f2.f2)); have hz10 := (blk_cell HN3.out 10).trans (rfl : _ = some (Value.slice B3 x.f2.f3.length d3)); have hz11 := (blk_cell HN3.out 11).trans (rfl : _ = some (Value.slice B4 x.f2.f4.length d4)); have hz12 := (blk_cell HN3.out 12).trans (rfl : _ = some (Value.slice B5 x.f2.f5.length d5)); have hc3 := writer_term HE.out.parts w p (sizeT x.f2) x.f2 _ _ w3 (Nat.le_refl _) HK2.out HOTX.out.2 hb3 hs3 (by omega); clear hc2 hb3 hs3 hkw3)
            | (go_at_call 18; refine hc3.mono ?_; rintro e w4 ⟨rfl, hb4, hs4, _⟩; have HB4 := Aside0.mk hb4; have HS4 := Aside0.mk hs4; obtain ⟨_, A4w, n4w, c4w, hv4, hr4⟩ := hs4.open_; have hn4 : n4w ≤ 10000000 := (by have := (Kd.R_reads' hr4).1; omega); have hcc4 := cell_of_one hv4; have hb5 : decide ((1048576 : Int) < (n4w : Int)) = true := decide_eq_true (by have := (Kd.R_reads' hr4).1; omega); clear hc3 hb4 hs4 hv4 hr4))
          go_ret2
          have hz : encodeI nb rt sl l = ([], 3) := by rw [HR.out, if_pos (by have h8 := HGE.out; rw [HST.out] at h8; omega)]
          exact ⟨.slice none 0 0, by rw [hz]; rfl, by rw [hz]; exact Kd.R_nil _ _ _ _ _, HB4.out⟩
        · go_wp2_with (first
            | (go_at_call 17; refine hc1.mono ?_; rintro e w2 ⟨rfl, hb2, hs2, hkw2⟩; have HKW2 := Aside0.mk hkw2; have HN2 := Aside0.mk (hkw2.blk HNA.out HNE.out (by decide)); have hy1 := (blk_cell HN2.out 1).trans (rfl : _ = some (Value.int .i64 x.f1.f0)); have hy2 := (blk_cell HN2.out 2).trans (rfl : _ = some (Value.int .i64 x.f1.f1)); have hy3 := (blk_cell HN2.out 3).trans (rfl : _ = some (Value.string x.f1.f2)); have hy4 := (blk_cell HN2.out 4).trans (rfl : _ = some (Value.slice A3 x.f1.f3.length c3)); have hy5 := (blk_cell HN2.out 5).trans (rfl : _ = some (Value.slice A4 x.f1.f4.length c4)); have hy6 := (blk_cell HN2.out 6).trans (rfl : _ = some (Value.slice A5 x.f1.f5.length c5)); have hc2 := writer_term HE.out.parts w p (sizeT x.f1) x.f1 _ _ w2 (Nat.le_refl _) HK1.out HOTX.out.1 hb2 hs2 (by omega); clear hc1 hb2 hs2 hkw2)
            | (go_at_call 18; refine hc2.mono ?_; rintro e w3 ⟨rfl, hb3, hs3, hkw3⟩; have HN3 := Aside0.mk (hkw3.blk HN2.out HNE.out (by decide)); have hz7 := (blk_cell HN3.out 7).trans (rfl : _ = some (Value.int .i64 x.f2.f0)); have hz8 := (blk_cell HN3.out 8).trans (rfl : _ = some (Value.int .i64 x.f2.f1)); have hz9 := (blk_cell HN3.out 9).trans (rfl : _ = some (Value.string x.f2.f2)); have hz10 := (blk_cell HN3.out 10).trans (rfl : _ = some (Value.slice B3 x.f2.f3.length d3)); have hz11 := (blk_cell HN3.out 11).trans (rfl : _ = some (Value.slice B4 x.f2.f4.length d4)); have hz12 := (blk_cell HN3.out 12).trans (rfl : _ = some (Value.slice B5 x.f2.f5.length d5)); have hc3 := writer_term HE.out.parts w p (sizeT x.f2) x.f2 _ _ w3 (Nat.le_refl _) HK2.out HOTX.out.2 hb3 hs3 (by omega); clear hc2 hb3 hs3 hkw3)
            | (go_at_call 18; refine hc3.mono ?_; rintro e w4 ⟨rfl, hb4, hs4, _⟩; have HB4 := Aside0.mk hb4; have HS4 := Aside0.mk hs4; obtain ⟨_, A4w, n4w, c4w, hv4, hr4⟩ := hs4.open_; have hn4 : n4w ≤ 10000000 := (by have := (Kd.R_reads' hr4).1; omega); have hcc4 := cell_of_one hv4; have hb5 : decide ((1048576 : Int) < (n4w : Int)) = false := decide_eq_false (by have := (Kd.R_reads' hr4).1; omega); clear hc3 hb4 hs4 hv4 hr4))
          go_roundg (gk - 1)
          case measure => omega
          case rel => exact ⟨j + 1, rfl, by omega, by omega, HB4, ⟨by rw [HST.out]; exact HS4.out⟩⟩
      · have hd : decide ((j : Int) < (l.length : Int)) = false := decide_eq_false (by omega)
        have hS := HS.out
        rw [List.take_of_length_le (by omega), ← HPR.out] at hS
        obtain ⟨_, A4w, n4w, c4w, hv4, hr4⟩ := hS.open_
        have hlen := HLEN.out
        rw [encS] at hlen
        have hn4 : n4w ≤ 10000000 := by have := (Kd.R_reads' hr4).1; omega
        have hcc4 := cell_of_one hv4
        by_cases hbig : 1048572 < (encS l).length
        · have hb5 : decide ((1048572 : Int) < (n4w : Int)) = true := decide_eq_true (by have := (Kd.R_reads' hr4).1; rw [encS] at hbig; omega)
          have hz : encodeI nb rt sl l = ([], 3) := by rw [HR.out, if_pos hbig]
          have HZ := Aside0.mk hz
          clear hS hv4 hr4 hlen HS hz hbig
          go_wp2
          go_ret2
          exact ⟨.slice none 0 0, by rw [HZ.out]; rfl, by rw [HZ.out]; exact Kd.R_nil _ _ _ _ _, HB.out⟩
        · have hb5 : decide ((1048572 : Int) < (n4w : Int)) = false := decide_eq_false (by have := (Kd.R_reads' hr4).1; rw [encS] at hbig; omega)
          have hz : encodeI nb rt sl l = (sl (encS l), 0) := by rw [HR.out, if_neg hbig]
          have HZ := Aside0.mk hz
          have hcs := HE.out.sealed_ _ _ w wr HB.out (Kd.R_mono hr4 (fun _ _ => trivial)) (HPS.out (by omega))
          clear hS hv4 hr4 hlen HS hz hbig
          go_wp2_with (go_at_call 19; refine hcs.mono ?_; rintro e w5 ⟨v5, rfl, hr5, hb5⟩; have HR5 := Aside0.mk hr5; have HB5 := Aside0.mk hb5; clear hr5 hb5 hcs)
          go_ret2
          exact ⟨v5, by rw [HZ.out]; rfl, by rw [HZ.out]; exact HR5.out, HB5.out⟩
  · have HR : Aside0 (encodeI nb rt sl l = ([], wrongI nb rt l)) := ⟨by rw [encodeI, if_neg q0]⟩
    have hq : (wrongI nb rt l != 0) = true := by simp [q0]
    clear hok ho hC hT EP q0
    go_enter Tryd.func8, Tryd.ntmps8
    go_wp2_with (go_at_call 15; refine hcw.mono ?_; rintro e w1 ⟨rfl, hb1⟩; have HB1 := Aside0.mk hb1; clear hb1 hcw)
    go_ret2
    exact ⟨.slice none 0 0, by rw [HR.out]; rfl, by rw [HR.out]; exact Kd.R_nil _ _ _ _ _, HB1.out⟩
end Go.Proofs.YtahdjajdaggmjaaDoor.XPo
