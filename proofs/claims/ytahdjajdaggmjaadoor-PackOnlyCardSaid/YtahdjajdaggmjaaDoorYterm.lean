/-
Walk: the reader's term.
-/
import Derived.Test.YtahdjajdaggmjaaDoorYtm0
set_option linter.unusedVariables false
set_option linter.unusedSimpArgs false
namespace Go.Proofs.YtahdjajdaggmjaaDoor.XPo
open Go.RowKit Go.Proofs.YtahdjajdaggmjaaDoorW.PrintWords Go.Proofs.YtahdjajdaggmjaaDoorW.PrintLast Go.Proofs.YtahdjajdaggmjaaDoorW.PrintMore

theorem depw (n : Nat) (h : n ≤ 1000) : wrap64 ((n : Int) + 1) = (n : Int) + 1 := w64r (by omega) (by omega)
theorem depw2 (n : Nat) (h : n ≤ 1000) : IntKind.i64.wrap ((n : Int) + 1) = (n : Int) + 1 := wI64 (by omega) (by omega)
theorem partsI_rng (k : Int) : 0 ≤ partsI k ∧ partsI k ≤ 2 := by
  unfold partsI
  repeat (split <;> try omega)
theorem kidsI_le (k : Int) : kidsI k ≤ 5 := by
  unfold kidsI
  split
  · omega
  · rename_i h
    obtain ⟨n, rfl⟩ := Int.eq_ofNat_of_zero_le (show 0 ≤ k by omega)
    have hn : n < 29 := by omega
    have key : ∀ j : Fin 29, kidsI ((j.val : Nat) : Int) ≤ 5 := by decide
    have := key ⟨n, hn⟩
    unfold kidsI at this
    rw [if_neg (by omega)] at this
    exact this
set_option maxHeartbeats 4000000 in
set_option maxRecDepth 100000 in
theorem reader_term0 {PN : ByteArray → Prop} {PF : List Cl → Prop} {nb : ByteArray → Bool} {fr fa : List Cl → Bool} (RP : ReadP PN PF nb fr fa) (w0 : World) (p m : Nat) (bs : List Int) (hT : Tab w0) (d depth : Nat) (hd : depth + d = 201)
    (ih : ∀ (d' : Nat), d = d' + 1 → ∀ (s : Nat) (w : World), Below w0.heap.size w0 w → RSt w0 w p bs s m → Calls Tryd.prog 37 #[.pointer (some ⟨p, 0, none⟩), .int .i64 ((depth : Int) + 1)] w (RPost w0 w p m bs (tmV w.heap.size) (termS nb fr fa bs d' s)))
    (s : Nat) (w : World) (hb : Below w0.heap.size w0 w) (hr : RSt w0 w p bs s m) :
    Calls Tryd.prog 37 #[.pointer (some ⟨p, 0, none⟩), .int .i64 (depth : Int)] w (RPost w0 w p m bs (tmV w.heap.size) (termS nb fr fa bs d s)) := by
  obtain ⟨A, c, hv, hc, hC0⟩ := hr.row
  have hv0 := blk_alloc hv (.cells zeroTm 45)
  obtain ⟨c0, c1, c2, f0, f1, f2⟩ := cells3 hv0
  have hpw : Aside0 (p < w.heap.size) := ⟨hr.lt⟩
  have hw0p : Aside0 (w0.heap.size ≤ w.heap.size) := ⟨hb.size⟩
  have hr0 := hr.below (below_alloc (Below.refl _ _) (.cells zeroTm 45))
  have hb0 := below_alloc hb (.cells zeroTm 45)
  have HK0 := Aside0.mk ((Kept.refl w (fun k => k = p)).alloc (.cells zeroTm 45))
  have HN0 := Aside0.mk (blk_new w (.cells zeroTm 45))
  by_cases hs : s < bs.length
  · have hcb := source_byte w0 p bs s m (s : Int) _ hb0 hr0 hs
    have ho := rd_oct hr.oct (s : Int)
    obtain ⟨k, hk⟩ : ∃ k, k = rd bs (s : Int) := ⟨_, rfl⟩
    rw [← hk] at hcb ho
    have HKI := Aside0.mk hk
    have hkc := RP.kids k
    clear hr hb hv hv0 hc hC0 hr0 hb0 hk
    have hwk := wI64 (a := k) (by omega) (by omega)
    by_cases hneg : kidsI k < 0
    · have HE : Aside0 (termS nb fr fa bs d s = .error ((s : Int), 61)) := ⟨by cases d <;> rw [termS, if_pos hs, if_pos (by rw [← HKI.out]; exact hneg)]⟩
      have hneg' : decide (kidsI k < 0) = true := decide_eq_true hneg
      clear hneg ih
      go_enter Tryd.func37, Tryd.ntmps37
      go_wp2_with (first | (go_at_call 21; refine hcb.mono ?_; rintro e w1 ⟨rfl, hr1, hb1, hk1⟩; have HB1 := Aside0.mk (below_alloc hb1 (.cells #[.int .i64 k, .int .i64 0, .string ⟨#[]⟩, .slice none 0 0, .slice none 0 0, .slice none 0 0] 45)); have HK1 := Aside0.mk ((HK0.out.then_ hk1 (fun _ h => .inl h)).alloc (.cells #[.int .i64 k, .int .i64 0, .string ⟨#[]⟩, .slice none 0 0, .slice none 0 0, .slice none 0 0] 45)); clear hr1 hb1 hk1 hcb) | (go_at_call 46; refine (hkc _).mono ?_; rintro e w2 ⟨rfl, hb2⟩; have HB2 := Aside0.mk (below_step HB1.out hb2); have HK2 := Aside0.mk (HK1.out.below hb2); clear hb2 hkc) | ((with_reducible refine (source_fail _ _ _ _).mono ?_); rintro e w2 ⟨rfl, rfl⟩))
      rename_i hq9
      cases hq9
      simp only [bodyPost]
      exact ⟨trivial, RPost.no HE.out HB2.out HK2.out⟩
    · have hneg' : decide (kidsI k < 0) = false := decide_eq_false hneg
      cases d with
      | zero =>
        have HE : Aside0 (termS nb fr fa bs 0 s = .error ((s : Int), 62)) := ⟨by rw [termS, if_pos hs, if_neg (by rw [← HKI.out]; exact hneg)]⟩
        have hdd : (200 : Int) < (depth : Int) := by omega
        clear hneg ih
        go_enter Tryd.func37, Tryd.ntmps37
        go_wp2_with (first | (go_at_call 21; refine hcb.mono ?_; rintro e w1 ⟨rfl, hr1, hb1, hk1⟩; have HB1 := Aside0.mk (below_alloc hb1 (.cells #[.int .i64 k, .int .i64 0, .string ⟨#[]⟩, .slice none 0 0, .slice none 0 0, .slice none 0 0] 45)); have HK1 := Aside0.mk ((HK0.out.then_ hk1 (fun _ h => .inl h)).alloc (.cells #[.int .i64 k, .int .i64 0, .string ⟨#[]⟩, .slice none 0 0, .slice none 0 0, .slice none 0 0] 45)); clear hr1 hb1 hk1 hcb) | (go_at_call 46; refine (hkc _).mono ?_; rintro e w2 ⟨rfl, hb2⟩; have HB2 := Aside0.mk (below_step HB1.out hb2); have HK2 := Aside0.mk (HK1.out.below hb2); clear hb2 hkc) | ((with_reducible refine (source_fail _ _ _ _).mono ?_); rintro e w2 ⟨rfl, rfl⟩))
        rename_i hq9
        cases hq9
        simp only [bodyPost]
        exact ⟨trivial, RPost.no HE.out HB2.out HK2.out⟩
      | succ d' =>
        have HE : Aside0 (termS nb fr fa bs (d' + 1) s = tailS fa bs (termS nb fr fa bs d') k (headS nb fr fa bs k (s + 1))) := ⟨by rw [termS, if_pos hs, if_neg (by rw [← HKI.out]; exact hneg), ← HKI.out]⟩
        have hdd : ¬ (200 : Int) < (depth : Int) := by omega
        have hdep : depth ≤ 1000 := by omega
        have hkl : kidsI k ≤ 5 := kidsI_le k
        have IH := Aside0.mk (ih d' rfl)
        clear ih
        go_enter Tryd.func37, Tryd.ntmps37
        go_upto_block 0 with (first | (go_at_call 21; refine hcb.mono ?_; rintro e w1 ⟨rfl, hr1, hb1, hk1⟩; have HNB := Aside0.mk (blk_new w1 (.cells #[.int .i64 k, .int .i64 0, .string ⟨#[]⟩, .slice none 0 0, .slice none 0 0, .slice none 0 0] 45)); have HT1 : Aside0 (Tst w0 w (w1.alloc (.cells #[.int .i64 k, .int .i64 0, .string ⟨#[]⟩, .slice none 0 0, .slice none 0 0, .slice none 0 0] 45)) p m bs (s + 1) w.heap.size w1.heap.size (w1.heap.size + 1) ⟨k, 0, ⟨#[]⟩, [], [], []⟩ (.slice none 0 0) (.slice none 0 0) (.slice none 0 0) (.slice none 0 0) (.slice none 0 0) (.slice none 0 0)) := ⟨⟨hr1.below (below_alloc (Below.refl _ _) _), below_alloc hb1 _, (HK0.out.then_ hk1 (fun _ h => .inl h)).alloc _, blk_alloc (blk_kept HN0.out hk1 (by have := hpw.out; omega)) _, HNB.out, Kd.R_nil _ _ _ _ _, Kd.R_nil _ _ _ _ _, Kd.R_nil _ _ _ _ _, Nat.le_refl _, by have := hk1.1; simp at this; omega, hpw.out, Nat.lt_succ_self _, by simp⟩⟩; have hcc := (blk_cell HNB.out 0).trans (rfl : _ = some (Value.int .i64 k)); clear hr1 hb1 hk1 hcb) | (go_at_call 46; refine (hkc _).mono ?_; rintro e w2 ⟨rfl, hb2⟩; have HT2 := Aside0.mk (HT1.out.below hb2); have hcc2 := (blk_cell HT2.out.c6 0).trans (rfl : _ = some (Value.int .i64 k)); clear hb2 hkc hcc HT1))
        clear c0 c1 c2 f0 f1 f2 HNB hwk
        generalize w1.heap.size = b6 at *
        go_cut [] from 38 to 61 (fun wx => ∃ (n : Int) (x : ByteArray) (r : List Cl) (v3 : Value) (s1 N : Nat), Aside0 (headS nb fr fa bs k (s + 1) = .ok ((n, x, r), s1)) ∧ Aside0 (Tst w0 w wx p m bs s1 w.heap.size b6 N ⟨k, n, x, r, [], []⟩ v3 (.slice none 0 0) (.slice none 0 0) v3 (.slice none 0 0) (.slice none 0 0)))
        case first =>
          have hpn : ∀ s : ByteArray, s.size ≤ bs.length → PN s := fun s hs => RP.pn s (Nat.le_trans hs HT2.out.rs.len)
          have hks : k = 1 ∨ k = 2 ∨ k = 13 ∨ k = 21 ∨ k = 26 ∨ k = 14 ∨ (k ≠ 1 ∧ k ≠ 2 ∧ k ≠ 13 ∧ k ≠ 21 ∧ k ≠ 26 ∧ k ≠ 14) := by omega
          rcases hks with h1 | h2 | h13 | h21 | h26 | h14 | hrest
          · obtain rfl := h1
            rcases hq : numS bs (s + 1) with x | ⟨n, s1⟩
            · have hcE := number_er hq HT2.out.be HT2.out.rs
              have HE2 : Aside0 (termS nb fr fa bs (d' + 1) s = .error x) := ⟨by rw [HE.out, headS, if_pos rfl, hq]; rfl⟩
              clear hq
              go_wp2_with (go_at_call 23; refine hcE.mono ?_; rintro e w3 ⟨rfl, hb3, hk3⟩)
              rename_i hq9
              cases hq9
              simp only [bodyPost]
              exact ⟨trivial, RPost.err HE2.out hb3 (HT2.out.ke.then_ hk3 (fun _ h => .inl h))⟩
            · have hcE := number_ok hq HT2.out.be HT2.out.rs
              have HH : Aside0 (headS nb fr fa bs 1 (s + 1) = .ok (((n : Int), ⟨#[]⟩, []), s1)) := ⟨by rw [headS, if_pos rfl, hq]⟩
              clear hq
              go_wp2_with (go_at_call 23; refine hcE.mono ?_; rintro e w3 ⟨rfl, hb3, hk3, hr3⟩; have HT3 := Aside0.mk (HT2.out.call hb3 hk3 hr3); obtain ⟨d0, d1, d2, d3, d4, d5, g0, g1, g2, g3, g4, g5⟩ := cells6 HT3.out.c6; clear hb3 hr3 hcE)
              go_meet
              exact ⟨_, _, _, _, s1, _, HH, ⟨HT3.out.put 1 (.int .i64 (n : Int)) rfl (Kd.R_nil _ _ _ _ _) (Kd.R_nil _ _ _ _ _) (Kd.R_nil _ _ _ _ _) (Nat.le_refl _) HT3.out.o5⟩⟩
          · obtain rfl := h2
            rcases hq : textS nb bs (s + 1) with x | ⟨y, s1⟩
            · have hcE := RPost.er_ hq (reader_text RP.named w0 p bs (s + 1) m w2 hT hpn HT2.out.be HT2.out.rs)
              have HE2 : Aside0 (termS nb fr fa bs (d' + 1) s = .error x) := ⟨by rw [HE.out, headS, if_neg (by decide), if_pos rfl, hq]; rfl⟩
              clear hq
              go_wp2_with (go_at_call 30; refine hcE.mono ?_; rintro e w3 ⟨rfl, hb3, hk3⟩)
              rename_i hq9
              cases hq9
              simp only [bodyPost]
              exact ⟨trivial, RPost.err HE2.out hb3 (HT2.out.ke.then_ hk3 (fun _ h => .inl h))⟩
            · have hcE := RPost.ok_ hq (reader_text RP.named w0 p bs (s + 1) m w2 hT hpn HT2.out.be HT2.out.rs)
              have HH : Aside0 (headS nb fr fa bs 2 (s + 1) = .ok ((0, y, []), s1)) := ⟨by rw [headS, if_neg (by decide), if_pos rfl, hq]⟩
              clear hq
              go_wp2_with (go_at_call 30; refine hcE.mono ?_; rintro e w3 ⟨hb3, hk3, hr3, v, rfl, rfl⟩; have HT3 := Aside0.mk (HT2.out.call hb3 hk3 hr3); obtain ⟨d0, d1, d2, d3, d4, d5, g0, g1, g2, g3, g4, g5⟩ := cells6 HT3.out.c6; clear hb3 hr3 hcE)
              go_meet
              exact ⟨_, _, _, _, s1, _, HH, ⟨HT3.out.put 2 (.string y) rfl (Kd.R_nil _ _ _ _ _) (Kd.R_nil _ _ _ _ _) (Kd.R_nil _ _ _ _ _) (Nat.le_refl _) HT3.out.o5⟩⟩
          · obtain rfl := h13
            rcases hq : rowS fr bs (s + 1) with x | ⟨y, s1⟩
            · have hcE := RPost.er_ hq (reader_row 48 fr PF RP.fright (enters_ Tryd.func48 (by kernel_rfl) rfl) w0 p bs (s + 1) m w2 RP.pf HT2.out.be HT2.out.rs)
              have HE2 : Aside0 (termS nb fr fa bs (d' + 1) s = .error x) := ⟨by rw [HE.out, headS, if_neg (by decide), if_neg (by decide), if_pos (by decide), hq]; rfl⟩
              clear hq
              go_wp2_with (go_at_call 47; refine hcE.mono ?_; rintro e w3 ⟨rfl, hb3, hk3⟩)
              rename_i hq9
              cases hq9
              simp only [bodyPost]
              exact ⟨trivial, RPost.err HE2.out hb3 (HT2.out.ke.then_ hk3 (fun _ h => .inl h))⟩
            · have hcE := RPost.ok_ hq (reader_row 48 fr PF RP.fright (enters_ Tryd.func48 (by kernel_rfl) rfl) w0 p bs (s + 1) m w2 RP.pf HT2.out.be HT2.out.rs)
              have HH : Aside0 (headS nb fr fa bs 13 (s + 1) = .ok ((0, ⟨#[]⟩, y), s1)) := ⟨by rw [headS, if_neg (by decide), if_neg (by decide), if_pos (by decide), hq]⟩
              clear hq
              go_wp2_with (go_at_call 47; refine hcE.mono ?_; rintro e w3 ⟨hb3, hk3, hr3, v, rfl, hv3⟩; obtain ⟨A9, c9, rfl⟩ := Kd.R_slice hv3; have HV3 : Aside0 (Kd.R k91 91 w3 (b6 + 1) (fun k => k < w3.heap.size) (.slice A9 y.length c9) y) := ⟨R_done hv3 (Nat.le_trans HT2.out.o4 HT2.out.o5) (Nat.le_refl _)⟩; clear hv3; have HT3 := Aside0.mk (HT2.out.call hb3 hk3 hr3); obtain ⟨d0, d1, d2, d3, d4, d5, g0, g1, g2, g3, g4, g5⟩ := cells6 HT3.out.c6; clear hb3 hr3 hcE)
              go_meet
              exact ⟨_, _, _, _, s1, _, HH, ⟨HT3.out.put 3 _ rfl (R_set6 HV3.out 3 _) (Kd.R_nil _ _ _ _ _) (Kd.R_nil _ _ _ _ _) HT3.out.o5 (Nat.le_refl _)⟩⟩
          · obtain rfl := h21
            rcases hq : rowS fr bs (s + 1) with x | ⟨y, s1⟩
            · have hcE := RPost.er_ hq (reader_row 48 fr PF RP.fright (enters_ Tryd.func48 (by kernel_rfl) rfl) w0 p bs (s + 1) m w2 RP.pf HT2.out.be HT2.out.rs)
              have HE2 : Aside0 (termS nb fr fa bs (d' + 1) s = .error x) := ⟨by rw [HE.out, headS, if_neg (by decide), if_neg (by decide), if_pos (by decide), hq]; rfl⟩
              clear hq
              go_wp2_with (go_at_call 47; refine hcE.mono ?_; rintro e w3 ⟨rfl, hb3, hk3⟩)
              rename_i hq9
              cases hq9
              simp only [bodyPost]
              exact ⟨trivial, RPost.err HE2.out hb3 (HT2.out.ke.then_ hk3 (fun _ h => .inl h))⟩
            · have hcE := RPost.ok_ hq (reader_row 48 fr PF RP.fright (enters_ Tryd.func48 (by kernel_rfl) rfl) w0 p bs (s + 1) m w2 RP.pf HT2.out.be HT2.out.rs)
              have HH : Aside0 (headS nb fr fa bs 21 (s + 1) = .ok ((0, ⟨#[]⟩, y), s1)) := ⟨by rw [headS, if_neg (by decide), if_neg (by decide), if_pos (by decide), hq]⟩
              clear hq
              go_wp2_with (go_at_call 47; refine hcE.mono ?_; rintro e w3 ⟨hb3, hk3, hr3, v, rfl, hv3⟩; obtain ⟨A9, c9, rfl⟩ := Kd.R_slice hv3; have HV3 : Aside0 (Kd.R k91 91 w3 (b6 + 1) (fun k => k < w3.heap.size) (.slice A9 y.length c9) y) := ⟨R_done hv3 (Nat.le_trans HT2.out.o4 HT2.out.o5) (Nat.le_refl _)⟩; clear hv3; have HT3 := Aside0.mk (HT2.out.call hb3 hk3 hr3); obtain ⟨d0, d1, d2, d3, d4, d5, g0, g1, g2, g3, g4, g5⟩ := cells6 HT3.out.c6; clear hb3 hr3 hcE)
              go_meet
              exact ⟨_, _, _, _, s1, _, HH, ⟨HT3.out.put 3 _ rfl (R_set6 HV3.out 3 _) (Kd.R_nil _ _ _ _ _) (Kd.R_nil _ _ _ _ _) HT3.out.o5 (Nat.le_refl _)⟩⟩
          · obtain rfl := h26
            rcases hq : rowS fr bs (s + 1) with x | ⟨y, s1⟩
            · have hcE := RPost.er_ hq (reader_row 48 fr PF RP.fright (enters_ Tryd.func48 (by kernel_rfl) rfl) w0 p bs (s + 1) m w2 RP.pf HT2.out.be HT2.out.rs)
              have HE2 : Aside0 (termS nb fr fa bs (d' + 1) s = .error x) := ⟨by rw [HE.out, headS, if_neg (by decide), if_neg (by decide), if_pos (by decide), hq]; rfl⟩
              clear hq
              go_wp2_with (go_at_call 47; refine hcE.mono ?_; rintro e w3 ⟨rfl, hb3, hk3⟩)
              rename_i hq9
              cases hq9
              simp only [bodyPost]
              exact ⟨trivial, RPost.err HE2.out hb3 (HT2.out.ke.then_ hk3 (fun _ h => .inl h))⟩
            · have hcE := RPost.ok_ hq (reader_row 48 fr PF RP.fright (enters_ Tryd.func48 (by kernel_rfl) rfl) w0 p bs (s + 1) m w2 RP.pf HT2.out.be HT2.out.rs)
              have HH : Aside0 (headS nb fr fa bs 26 (s + 1) = .ok ((0, ⟨#[]⟩, y), s1)) := ⟨by rw [headS, if_neg (by decide), if_neg (by decide), if_pos (by decide), hq]⟩
              clear hq
              go_wp2_with (go_at_call 47; refine hcE.mono ?_; rintro e w3 ⟨hb3, hk3, hr3, v, rfl, hv3⟩; obtain ⟨A9, c9, rfl⟩ := Kd.R_slice hv3; have HV3 : Aside0 (Kd.R k91 91 w3 (b6 + 1) (fun k => k < w3.heap.size) (.slice A9 y.length c9) y) := ⟨R_done hv3 (Nat.le_trans HT2.out.o4 HT2.out.o5) (Nat.le_refl _)⟩; clear hv3; have HT3 := Aside0.mk (HT2.out.call hb3 hk3 hr3); obtain ⟨d0, d1, d2, d3, d4, d5, g0, g1, g2, g3, g4, g5⟩ := cells6 HT3.out.c6; clear hb3 hr3 hcE)
              go_meet
              exact ⟨_, _, _, _, s1, _, HH, ⟨HT3.out.put 3 _ rfl (R_set6 HV3.out 3 _) (Kd.R_nil _ _ _ _ _) (Kd.R_nil _ _ _ _ _) HT3.out.o5 (Nat.le_refl _)⟩⟩
          · obtain rfl := h14
            rcases hq : rowS fa bs (s + 1) with x | ⟨y, s1⟩
            · have hcE := RPost.er_ hq (reader_row 49 fa PF RP.faright (enters_ Tryd.func49 (by kernel_rfl) rfl) w0 p bs (s + 1) m w2 RP.pf HT2.out.be HT2.out.rs)
              have HE2 : Aside0 (termS nb fr fa bs (d' + 1) s = .error x) := ⟨by rw [HE.out, headS, if_neg (by decide), if_neg (by decide), if_neg (by decide), if_pos rfl, hq]; rfl⟩
              clear hq
              go_wp2_with (go_at_call 47; refine hcE.mono ?_; rintro e w3 ⟨rfl, hb3, hk3⟩)
              rename_i hq9
              cases hq9
              simp only [bodyPost]
              exact ⟨trivial, RPost.err HE2.out hb3 (HT2.out.ke.then_ hk3 (fun _ h => .inl h))⟩
            · have hcE := RPost.ok_ hq (reader_row 49 fa PF RP.faright (enters_ Tryd.func49 (by kernel_rfl) rfl) w0 p bs (s + 1) m w2 RP.pf HT2.out.be HT2.out.rs)
              have HH : Aside0 (headS nb fr fa bs 14 (s + 1) = .ok ((0, ⟨#[]⟩, y), s1)) := ⟨by rw [headS, if_neg (by decide), if_neg (by decide), if_neg (by decide), if_pos rfl, hq]⟩
              clear hq
              go_wp2_with (go_at_call 47; refine hcE.mono ?_; rintro e w3 ⟨hb3, hk3, hr3, v, rfl, hv3⟩; obtain ⟨A9, c9, rfl⟩ := Kd.R_slice hv3; have HV3 : Aside0 (Kd.R k91 91 w3 (b6 + 1) (fun k => k < w3.heap.size) (.slice A9 y.length c9) y) := ⟨R_done hv3 (Nat.le_trans HT2.out.o4 HT2.out.o5) (Nat.le_refl _)⟩; clear hv3; have HT3 := Aside0.mk (HT2.out.call hb3 hk3 hr3); obtain ⟨d0, d1, d2, d3, d4, d5, g0, g1, g2, g3, g4, g5⟩ := cells6 HT3.out.c6; clear hb3 hr3 hcE)
              go_meet
              exact ⟨_, _, _, _, s1, _, HH, ⟨HT3.out.put 3 _ rfl (R_set6 HV3.out 3 _) (Kd.R_nil _ _ _ _ _) (Kd.R_nil _ _ _ _ _) HT3.out.o5 (Nat.le_refl _)⟩⟩
          · obtain ⟨h1, h2, h13, h21, h26, h14⟩ := hrest
            have HH : Aside0 (headS nb fr fa bs k (s + 1) = .ok ((0, ⟨#[]⟩, []), s + 1)) := ⟨by rw [headS, if_neg h1, if_neg h2, if_neg (by omega), if_neg h14]⟩
            have e1 : (k == 1) = false := by simp [h1]
            have e2 : (k == 2) = false := by simp [h2]
            have e13 : (k == 13) = false := by simp [h13]
            have e21 : (k == 21) = false := by simp [h21]
            have e26 : (k == 26) = false := by simp [h26]
            have e14 : (k == 14) = false := by simp [h14]
            clear h1 h2 h13 h21 h26 h14
            go_wp2
            go_meet
            exact ⟨_, _, _, _, s + 1, _, HH, HT2⟩
        case rest =>
          obtain ⟨n, x, r, v3, s1, N, HH, HT⟩ := hcut
          obtain ⟨A33, c33, rfl⟩ := Kd.R_slice HT.out.r3
          obtain ⟨kn, hkn⟩ : ∃ kn : Nat, kidsI k = (kn : Int) := ⟨(kidsI k).toNat, by omega⟩
          have HE3 : Aside0 (termS nb fr fa bs (d' + 1) s = tailK fa bs (termS nb fr fa bs d') k n x r (manyS (termS nb fr fa bs d') kn [] s1)) := ⟨by rw [HE.out, HH.out, tailS, hkn]; rfl⟩
          have hkc2 := RP.kids k
          rw [hkn] at hkc2
          have hcc := (blk_cell HT.out.c6 0).trans (rfl : _ = some (Value.int .i64 k))
          have hk5 : kn ≤ 5 := by omega
          clear hneg' hkn hkl
          go_wp2_with (go_at_call 46; refine (hkc2 _).mono ?_; rintro e w3 ⟨rfl, hb3⟩; have HT3 := Aside0.mk ((HT.out.below hb3).wide (N2 := w3.heap.size) (Nat.le_trans HT.out.o5 hb3.size) (Nat.le_refl _)); clear hb3 hcc hkc2)
          obtain ⟨N3, hN3⟩ : ∃ N3, N3 = w3.heap.size := ⟨_, rfl⟩
          rw [← hN3] at HT3
          have hpb : Aside0 (p < N3) := ⟨by have := HT3.out.o1; have := HT3.out.o2; have := HT3.out.o4; have := hpw.out; omega⟩
          have hw0b : Aside0 (w0.heap.size ≤ N3) := ⟨by have := hpb.out; have := HT3.out.rs.old; omega⟩
          clear hN3 HT
          go_loopg [65] (kn + 1) (fun kq v65 wy => ∃ (i : Nat) (ks : List Tm) (s2 : Nat) (vk : Value), v65 = .int .i64 (i : Int) ∧ i ≤ kn ∧ kq + i = kn + 1 ∧ Aside0 (ks.length = i) ∧ Aside0 (manyS (termS nb fr fa bs d') (kn - i) ks s2 = manyS (termS nb fr fa bs d') kn [] s1) ∧ Aside0 (Tst w0 w wy p m bs s2 w.heap.size b6 N3 ⟨k, n, x, r, [], []⟩ (.slice A33 r.length c33) (.slice none 0 0) (.slice none 0 0) (.slice A33 r.length c33) vk (.slice none 0 0)) ∧ Aside0 (Kd.R k45 45 wy N3 (fun _ => True) vk ks))
          case atStart => exact ⟨0, [], s1, .slice none 0 0, rfl, Nat.zero_le _, rfl, ⟨rfl⟩, ⟨rfl⟩, HT3, ⟨Kd.R_nil _ _ _ _ _⟩⟩
          case round =>
            clear HT3
            obtain ⟨i, ks, s2, vk, rfl, hi, hk9, HKL, HM, HT, HG⟩ := hrel
            have hkl3 : ks.length ≤ 5 := by have := HKL.out; omega
            by_cases hlt : i < kn
            · have hlt' : decide ((i : Int) < (kn : Int)) = true := decide_eq_true (by omega)
              obtain ⟨dd, hdd2⟩ : ∃ dd, kn - i = dd + 1 := ⟨kn - i - 1, by omega⟩
              have hdd3 : dd = kn - (i + 1) := by omega
              have hM := HM.out
              rw [hdd2, manyS] at hM
              have HTd := Aside0.mk (HT.out.below (wy := wr.drew) (below_drew (Below.refl _ _)))
              have HGd := Aside0.mk (Kd.R_drew HG.out)
              have hvk : wr.drew.cell? ⟨b6, 4, none⟩ = some vk := (blk_cell HTd.out.c6 4).trans rfl
              have hcI := IH.out s2 wr.drew HTd.out.be HTd.out.rs
              have hwd := depw depth hdep
              have hwd2 := depw2 depth hdep
              have HBS : Aside0 (N3 ≤ wr.drew.heap.size) := ⟨HTd.out.o5⟩
              clear HT HG HM
              rcases hq : termS nb fr fa bs d' s2 with y | ⟨t1, s3⟩
              · have hcE := RPost.er_ hq hcI
                have hM2 : (Except.error y : Except (Int × Int) (List Tm × Nat)) = manyS (termS nb fr fa bs d') kn [] s1 := by simpa [hq] using hM
                have HE4 : Aside0 (termS nb fr fa bs (d' + 1) s = .error y) := ⟨by rw [HE3.out, ← hM2]; rfl⟩
                clear hq hM hM2 hcI hdd2 hdd3
                go_wp2
                refine start_ (n := 10) (S := fun w' => w'.cell? ⟨b6, 4, none⟩ = some vk) (ds := [9]) #[false, false, false, false, false, false, false, false, false, false] (by kernel_rfl) rfl rfl (show wr.drew.cell? ⟨b6, 4, none⟩ = some vk from hvk) (fun hHeld => ?_)
                clear hvk
                generalize wr.drew = wd at *
                refine pure_ (i := 0) (N := some 67) (v := ?_) (a' := ?_) #[true, false, false, false, false, false, false, false, false, false] rfl rfl (by kernel_rfl) (fun _ _ _ h => h) (Or.inl ⟨by rfl, ?_⟩) ?_ ?_
                rotate_left
                · intro w'
                  go_simp
                  with_reducible rfl
                rotate_left
                · simp only [Act.put, List.setIfInBounds_toArray, List.set_cons_zero, List.set_cons_succ]
                  rfl
                refine take_ (i := 1) (N := some 68) (v := ?_) (a' := ?_) #[true, true, false, false, false, false, false, false, false, false] rfl rfl (by kernel_rfl) (fun _ _ _ h => h) (Or.inl ⟨by rfl, ?_⟩) hHeld ?_ ?_
                rotate_left
                · rintro w' s0
                  go_simp
                  with_reducible rfl
                rotate_left
                · simp only [Act.put, List.setIfInBounds_toArray, List.set_cons_zero, List.set_cons_succ]
                  rfl
                refine pure_ (i := 2) (N := some 69) (v := ?_) (a' := ?_) #[true, true, true, false, false, false, false, false, false, false] rfl rfl (by kernel_rfl) (fun _ _ _ h => h) (Or.inl ⟨by rfl, ?_⟩) ?_ ?_
                rotate_left
                · intro w'
                  go_simp
                  with_reducible rfl
                rotate_left
                · simp only [Act.put, List.setIfInBounds_toArray, List.set_cons_zero, List.set_cons_succ]
                  rfl
                refine pure_ (i := 3) (N := some 70) (v := ?_) (a' := ?_) #[true, true, true, true, false, false, false, false, false, false] rfl rfl (by kernel_rfl) (fun _ _ _ h => h) (Or.inl ⟨by rfl, ?_⟩) ?_ ?_
                rotate_left
                · intro w'
                  go_simp
                  with_reducible rfl
                rotate_left
                · simp only [Act.put, List.setIfInBounds_toArray, List.set_cons_zero, List.set_cons_succ]
                  rfl
                refine pure_ (i := 4) (N := some 71) (v := ?_) (a' := ?_) #[true, true, true, true, true, false, false, false, false, false] rfl rfl (by kernel_rfl) (fun _ _ _ h => h) (Or.inl ⟨by rfl, ?_⟩) ?_ ?_
                rotate_left
                · intro w'
                  go_simp
                  with_reducible rfl
                rotate_left
                · simp only [Act.put, List.setIfInBounds_toArray, List.set_cons_zero, List.set_cons_succ]
                  rfl
                refine one_ (i := 5) (N := some 72) #[true, true, true, true, true, true, false, false, false, false] rfl rfl (by kernel_rfl) (by decide) (fun K hK => ?_)
                refine callP_ Tryd.func37 (by kernel_rfl) rfl #[.pointer (some ⟨p, 0, none⟩), .int .i64 ((depth : Int) + 1)] (by rfl) rfl rfl (by (try simp only [List.map_toArray, List.map_cons, List.map_nil]); first | done | rfl) ?_
                refine hcE.mono ?_
                rintro e w5 ⟨rfl, hb5, hk5⟩
                refine .inr ⟨_, rfl, ?_⟩
                exact ⟨rfl, RPost.err HE4.out hb5 (HTd.out.ke.then_ hk5 (fun _ h => .inl h))⟩
              · have hcE := RPost.ok_ hq hcI
                have hM2 : manyS (termS nb fr fa bs d') dd (ks ++ [t1]) s3 = manyS (termS nb fr fa bs d') kn [] s1 := by simpa [hq] using hM
                have HM2 : Aside0 (manyS (termS nb fr fa bs d') (kn - (i + 1)) (ks ++ [t1]) s3 = manyS (termS nb fr fa bs d') kn [] s1) := ⟨by rw [← hdd3]; exact hM2⟩
                clear hq hM hM2 hcI hdd2 hdd3
                go_wp2
                refine start_ (n := 10) (S := fun w' => w'.cell? ⟨b6, 4, none⟩ = some vk) (ds := [9]) #[false, false, false, false, false, false, false, false, false, false] (by kernel_rfl) rfl rfl (show wr.drew.cell? ⟨b6, 4, none⟩ = some vk from hvk) (fun hHeld => ?_)
                clear hvk
                generalize wr.drew = wd at *
                refine pure_ (i := 0) (N := some 67) (v := ?_) (a' := ?_) #[true, false, false, false, false, false, false, false, false, false] rfl rfl (by kernel_rfl) (fun _ _ _ h => h) (Or.inl ⟨by rfl, ?_⟩) ?_ ?_
                rotate_left
                · intro w'
                  go_simp
                  with_reducible rfl
                rotate_left
                · simp only [Act.put, List.setIfInBounds_toArray, List.set_cons_zero, List.set_cons_succ]
                  rfl
                refine take_ (i := 1) (N := some 68) (v := ?_) (a' := ?_) #[true, true, false, false, false, false, false, false, false, false] rfl rfl (by kernel_rfl) (fun _ _ _ h => h) (Or.inl ⟨by rfl, ?_⟩) hHeld ?_ ?_
                rotate_left
                · rintro w' s0
                  go_simp
                  with_reducible rfl
                rotate_left
                · simp only [Act.put, List.setIfInBounds_toArray, List.set_cons_zero, List.set_cons_succ]
                  rfl
                refine pure_ (i := 2) (N := some 69) (v := ?_) (a' := ?_) #[true, true, true, false, false, false, false, false, false, false] rfl rfl (by kernel_rfl) (fun _ _ _ h => h) (Or.inl ⟨by rfl, ?_⟩) ?_ ?_
                rotate_left
                · intro w'
                  go_simp
                  with_reducible rfl
                rotate_left
                · simp only [Act.put, List.setIfInBounds_toArray, List.set_cons_zero, List.set_cons_succ]
                  rfl
                refine pure_ (i := 3) (N := some 70) (v := ?_) (a' := ?_) #[true, true, true, true, false, false, false, false, false, false] rfl rfl (by kernel_rfl) (fun _ _ _ h => h) (Or.inl ⟨by rfl, ?_⟩) ?_ ?_
                rotate_left
                · intro w'
                  go_simp
                  with_reducible rfl
                rotate_left
                · simp only [Act.put, List.setIfInBounds_toArray, List.set_cons_zero, List.set_cons_succ]
                  rfl
                refine pure_ (i := 4) (N := some 71) (v := ?_) (a' := ?_) #[true, true, true, true, true, false, false, false, false, false] rfl rfl (by kernel_rfl) (fun _ _ _ h => h) (Or.inl ⟨by rfl, ?_⟩) ?_ ?_
                rotate_left
                · intro w'
                  go_simp
                  with_reducible rfl
                rotate_left
                · simp only [Act.put, List.setIfInBounds_toArray, List.set_cons_zero, List.set_cons_succ]
                  rfl
                refine one_ (i := 5) (N := some 72) #[true, true, true, true, true, true, false, false, false, false] rfl rfl (by kernel_rfl) (by decide) (fun K hK => ?_)
                refine callP_ Tryd.func37 (by kernel_rfl) rfl #[.pointer (some ⟨p, 0, none⟩), .int .i64 ((depth : Int) + 1)] (by rfl) rfl rfl (by (try simp only [List.map_toArray, List.map_cons, List.map_nil]); first | done | rfl) ?_
                refine hcE.mono ?_
                rintro e w5 ⟨hb5, hk5, hr5, v, rfl, cs, rfl, hM5⟩
                refine .inl ⟨_, rfl, ?_⟩
                obtain ⟨B3, k3, B4, k4, B5, k5, rfl⟩ := tm_cells hM5
                have HT5 := Aside0.mk (HTd.out.call hb5 hk5 hr5)
                have HG5 := Aside0.mk (R_stay HGd.out hk5 (fun k hk => by rw [hk]; exact hpb.out))
                have HM5 := Aside0.mk hM5
                have HS5 : Aside0 (wd.heap.size ≤ w5.heap.size) := ⟨hk5.1⟩
                clear hb5 hr5 hM5 hk5
                have hHeld_ := hHeld
                refine hK.out _ _ ((blk_cell HT5.out.c6 4).trans rfl) (fun hHeld => ?_)
                clear hK K hHeld_
                refine norm_ (a' := ?_) ?_ ?_
                rotate_left
                · show Act.put _ (some 72) _ = _
                  simp only [Act.put, List.setIfInBounds_toArray, List.set_cons_zero, List.set_cons_succ]
                  rfl
                refine one_ (i := 6) (N := some 73) #[true, true, true, true, true, true, true, false, false, false] rfl rfl (by kernel_rfl) (by decide) (fun K hK => ?_)
                refine event_step (v := .slice (some ⟨w5.heap.size, 0, none⟩) 1 1) (w1 := w5.alloc (.cells #[.int .i64 t1.f0, .int .i64 t1.f1, .string t1.f2, .slice B3 t1.f3.length k3, .slice B4 t1.f4.length k4, .slice B5 t1.f5.length k5] 45)) (by rfl) (by first | (go_simp; done) | (go_simp; rfl)) ?_
                have hHeld_ := hHeld
                refine hK.out _ _ (World.cell?_alloc_old_ hHeld) (fun hHeld => ?_)
                clear hK K hHeld_
                refine norm_ (a' := ?_) ?_ ?_
                rotate_left
                · show Act.put _ (some 73) _ = _
                  simp only [Act.put, List.setIfInBounds_toArray, List.set_cons_zero, List.set_cons_succ]
                  rfl
                refine one_ (i := 7) (N := some 74) #[true, true, true, true, true, true, true, true, false, false] rfl rfl (by kernel_rfl) (by decide) (fun K hK => ?_)
                refine Kd.R_append_step k45 (w0 := w5) N3 (by rfl) (.tmp 68) (.tmp 73) 42 45 (.agg #[.int .i64 0, .int .i64 0, .string ⟨#[]⟩, .slice none 0 0, .slice none 0 0, .slice none 0 0]) 104 rfl Tryd.underlying42 tm_info rfl (by decide) (by omega) vk ks t1 [.int .i64 t1.f0, .int .i64 t1.f1, .string t1.f2, .slice B3 t1.f3.length k3, .slice B4 t1.f4.length k4, .slice B5 t1.f5.length k5] (fun _ => True) (fun k => wd.heap.size ≤ k) rfl rfl (M_from HM5.out HBS.out) (fun k hk => ⟨trivial, fun h9 => by have := Kd.R_lt HGd.out k h9.symm; omega⟩) (fun _ _ => trivial) HG5.out (Below.refl _ _) (Nat.le_trans HBS.out HS5.out) (by omega) ?_
                intro v1 w6 ho hb6 hg hat
                have hak := app_keep hg (Kd.R_base HG5.out)
                have hb6' := below_up HT5.out.be hb6 hw0b.out
                have hr6 := HT5.out.rs.kept hak (by have := hpb.out; omega)
                have HT6 := Aside0.mk (HT5.out.move (hak.mono (fun k h => .inr h)) hb6' hr6)
                obtain ⟨A6, n6, c6, rfl⟩ := slice3 ho
                have HO6 := Aside0.mk ho
                clear ho hb6 hg hat hb6' hr6
                have hHeld_ := hHeld
                refine hK.out _ _ ((blk_cell HT6.out.c6 4).trans rfl) (fun hHeld => ?_)
                clear hK K hHeld_
                refine norm_ (a' := ?_) ?_ ?_
                rotate_left
                · show Act.put _ (some 74) _ = _
                  simp only [Act.put, List.setIfInBounds_toArray, List.set_cons_zero, List.set_cons_succ]
                  rfl
                refine pure_ (i := 8) (N := some 75) (v := ?_) (a' := ?_) #[true, true, true, true, true, true, true, true, true, false] rfl rfl (by kernel_rfl) (fun _ _ _ h => h) (Or.inl ⟨by rfl, ?_⟩) ?_ ?_
                rotate_left
                · intro w'
                  go_simp
                  with_reducible rfl
                rotate_left
                · simp only [Act.put, List.setIfInBounds_toArray, List.set_cons_zero, List.set_cons_succ]
                  rfl
                refine last_ (i := 9) (N := none) #[true, true, true, true, true, true, true, true, true, true] rfl rfl (by kernel_rfl) (by decide) (fun K hK => ?_)
                obtain ⟨d0, d1, d2, d3, d4, d5, g0, g1, g2, g3, g4, g5⟩ := cells6 HT6.out.c6
                refine skip_ (w1 := w6.setCell ⟨b6, 4, none⟩ (.slice A6 n6 c6)) (by rfl) rfl (by go_simp) ?_
                refine hK.out _ _ ?_
                clear hK K
                refine done_ (by kernel_rfl) ?_
                have HK7 := Aside0.mk ((Kept.refl w6 (fun k => k = b6)).setCell (p := ⟨b6, 4, none⟩) (.inl rfl) (.slice A6 n6 c6))
                have HT7 : Aside0 (Tst w0 w (w6.setCell ⟨b6, 4, none⟩ (.slice A6 n6 c6)) p m bs s3 w.heap.size b6 N3 ⟨k, n, x, r, [], []⟩ (.slice A33 r.length c33) (.slice none 0 0) (.slice none 0 0) (.slice A33 r.length c33) (.slice A6 n6 c6) (.slice none 0 0)) := ⟨HT6.out.put 4 _ rfl (R_set6 HT6.out.r3 4 _) (Kd.R_nil _ _ _ _ _) (Kd.R_nil _ _ _ _ _) (Nat.le_refl _) HT6.out.o5⟩
                have HG7 := Aside0.mk (R_stay HO6.out HK7.out (fun k hk => by have := HT6.out.o4; omega))
                clear d0 d1 d2 d3 d4 d5 g0 g1 g2 g3 g4 g5 HT6 HO6 HT5 HG5 HM5 HS5 hHeld hwd2
                go_wp2
                go_roundg (gk - 1)
                case measure => omega
                case rel => exact ⟨i + 1, ks ++ [t1], s3, _, rfl, by omega, by omega, ⟨by rw [List.length_append, HKL.out]; rfl⟩, HM2, HT7, HG7⟩
            · have hlt' : decide ((i : Int) < (kn : Int)) = false := decide_eq_false (by omega)
              obtain ⟨A44, c44, rfl⟩ := Kd.R_slice HG.out
              have hM := HM.out
              rw [show kn - i = 0 by omega, manyS] at hM
              have HE4 : Aside0 (termS nb fr fa bs (d' + 1) s = if partsI k = 0 then .ok (⟨k, n, x, r, ks, []⟩, s2) else tailN fa bs (termS nb fr fa bs d') k n x r ks (numS bs s2)) := ⟨by rw [HE3.out, ← hM]; rfl⟩
              have hcc := (blk_cell HT.out.c6 0).trans (rfl : _ = some (Value.int .i64 k))
              have hkp := RP.parts k
              obtain ⟨N5, hN5⟩ : ∃ N5, N5 = wr.heap.size := ⟨_, rfl⟩
              clear hM HM
              by_cases hp0 : partsI k = 0
              · have HE5 : Aside0 (termS nb fr fa bs (d' + 1) s = .ok (⟨k, n, x, r, ks, []⟩, s2)) := ⟨by rw [HE4.out, if_pos hp0]⟩
                rw [hp0] at hkp
                clear hp0 HE4
                go_wp2_with (go_at_call 29; refine (hkp _).mono ?_; rintro e w4 ⟨rfl, hb4⟩; have HT4 := Aside0.mk (HT.out.below hb4); have HG4 := Aside0.mk (Kd.R_below HG.out hb4); obtain ⟨d0, d1, d2, d3, d4, d5, g0, g1, g2, g3, g4, g5⟩ := cells6 HT4.out.c6; obtain ⟨b0, b1, b2, b3, b4, b5, f0, f1, f2, f3, f4, f5⟩ := cells6 HT4.out.c4; clear hb4 hkp hcc)
                have HTF := Aside0.mk HT4.out
                clear HT HG
                have F := HTF.out.fin (.int .i64 k) (.int .i64 n) (.string x) (.slice A33 r.length c33) (.slice A44 ks.length c44) (.slice none 0 0)
                clear d0 d1 d2 d3 d4 d5 g0 g1 g2 g3 g4 g5 b0 b1 b2 b3 b4 b5 f0 f1 f2 f3 f4 f5 HT4
                revert F
                generalize (World.setCell _ ⟨w.heap.size, 5, none⟩ _) = Wf
                rintro ⟨F1, F2, F3⟩
                refine bodyPost_ret (v := .agg #[.int .i64 k, .int .i64 n, .string x, .slice A33 r.length c33, .slice A44 ks.length c44, .slice none 0 0]) (tm_out F1 ⟨rfl, rfl, rfl, rfl, rfl, rfl⟩) rfl ?_
                exact RPost.yes HE5.out F3 (HTF.out.ke.then_ F2 (fun j hj => .inr (by omega))) (HTF.out.rs.kept F2 (by have := HTF.out.o1; have := HTF.out.o3; omega)) ⟨_, rfl, k45_mkM Wf w.heap.size _ ⟨k, n, x, r, ks, []⟩ (fin_row HTF.out.r3 F2 (by have := HTF.out.o2; omega) (by have := HTF.out.o2; omega)) (fin_row HG4.out F2 (by have := HTF.out.o2; have := HTF.out.o4; omega) (by have := HTF.out.o2; have := HTF.out.o4; omega)) (Kd.R_nil _ _ _ _ _)⟩
              · have HE5 : Aside0 (termS nb fr fa bs (d' + 1) s = tailN fa bs (termS nb fr fa bs d') k n x r ks (numS bs s2)) := ⟨by rw [HE4.out, if_neg hp0]⟩
                have hpr := partsI_rng k
                obtain ⟨q, hq0⟩ : ∃ q : Nat, partsI k = (q : Int) := ⟨(partsI k).toNat, by omega⟩
                have hq2 : q ≤ 2 := by omega
                have hqz : ((q : Int) == 0) = false := by
                  rw [beq_eq_false_iff_ne]
                  rw [hq0] at hp0
                  exact hp0
                have HPQ := Aside0.mk hq0
                rw [hq0] at hkp
                clear hp0 HE4 hpr hq0 hN5
                rcases hn : numS bs s2 with y | ⟨c, s3⟩
                · have HE6 : Aside0 (termS nb fr fa bs (d' + 1) s = .error y) := ⟨by rw [HE5.out, hn]; rfl⟩
                  have HNE := Aside0.mk hn
                  clear hn
                  go_wp2_with (first | (go_at_call 29; refine (hkp _).mono ?_; rintro e w4 ⟨rfl, hb4⟩; have HT4 := Aside0.mk (HT.out.below hb4); have hcE := number_er HNE.out HT4.out.be HT4.out.rs; clear hb4 hkp hcc) | (go_at_call 23; refine hcE.mono ?_; rintro e w5 ⟨rfl, hb5, hk5⟩))
                  rename_i hq9
                  cases hq9
                  simp only [bodyPost]
                  exact ⟨trivial, RPost.err HE6.out hb5 (HT4.out.ke.then_ hk5 (fun _ h => .inl h))⟩
                · have HE6 : Aside0 (termS nb fr fa bs (d' + 1) s = tailL k n x r ks (brS fa bs (termS nb fr fa bs d') q c [] s3)) := ⟨by rw [HE5.out, hn, tailN, HPQ.out]; rfl⟩
                  have HNO := Aside0.mk hn
                  have hc31 := numS_le hn
                  clear hn HE5
                  obtain ⟨go, rfl⟩ : ∃ go, go = gk := ⟨_, rfl⟩
                  obtain ⟨wo, rfl⟩ : ∃ wo : World, wo = wr := ⟨_, rfl⟩
                  go_wp2_with (first | (go_at_call 29; refine (hkp _).mono ?_; rintro e w4 ⟨rfl, hb4⟩; have HT4 := Aside0.mk (HT.out.below hb4); have HG4 := Aside0.mk (Kd.R_below HG.out hb4); have hcE := number_ok HNO.out HT4.out.be HT4.out.rs; clear hb4 hkp hcc) | (go_at_call 23; refine hcE.mono ?_; rintro e w5 ⟨rfl, hb5, hk5, hr5⟩; have HT5 := Aside0.mk (HT4.out.call hb5 hk5 hr5); have HG5 := Aside0.mk (R_stay HG4.out hk5 (fun k hk => by rw [hk]; exact hpb.out)); clear hb5 hk5 hr5 hcE))
                  obtain ⟨N5, hN5⟩ : ∃ N5, N5 = w5.heap.size := ⟨_, rfl⟩
                  have HT6 := Aside0.mk (HT5.out.kids HG5.out HT5.out.o4 hN5)
                  have HBN5 : Aside0 (b6 < N5) := ⟨HT6.out.o4⟩
                  have hpb5 : Aside0 (p < N5) := ⟨by have := hpb.out; have := HT5.out.o5; omega⟩
                  have hw0b5 : Aside0 (w0.heap.size ≤ N5) := ⟨by have := hw0b.out; have := HT5.out.o5; omega⟩
                  clear HT5 HG5 HT4 HG4 HT HG hN5
                  go_loopg [86] (c + 1) (fun kq v86 wy => ∃ (i2 : Nat) (brs : List Br) (s4 : Nat) (v5 : Value), v86 = .int .i64 (i2 : Int) ∧ i2 ≤ c ∧ kq + i2 = c + 1 ∧ Aside0 (brs.length = i2) ∧ Aside0 (brS fa bs (termS nb fr fa bs d') q (c - i2) brs s4 = brS fa bs (termS nb fr fa bs d') q c [] s3) ∧ Aside0 (Tst w0 w wy p m bs s4 w.heap.size b6 N5 ⟨k, n, x, r, ks, []⟩ (.slice A33 r.length c33) (.slice A44 ks.length c44) (.slice none 0 0) (.slice A33 r.length c33) (.slice A44 ks.length c44) v5) ∧ Aside0 (Kd.R k73 73 wy N5 (fun _ => True) v5 brs))
                  case atStart => exact ⟨0, [], s3, .slice none 0 0, rfl, Nat.zero_le _, rfl, ⟨rfl⟩, ⟨rfl⟩, HT6, ⟨Kd.R_nil _ _ _ _ _⟩⟩
                  case round =>
                    clear HT6
                    obtain ⟨i2, brs, s4, v5, rfl, hi2, hk92, HBL, HBS2, HT, HG⟩ := hrel
                    obtain ⟨n55, A55, c55, rfl⟩ : ∃ n5 A5 c5, v5 = .slice A5 n5 c5 := by obtain ⟨A, n, c, e⟩ := slice3 HG.out; exact ⟨n, A, c, e⟩
                    by_cases hlt2 : i2 < c
                    · have hlt2' : decide ((i2 : Int) < (c : Int)) = true := decide_eq_true (by omega)
                      obtain ⟨de, hde⟩ : ∃ de, c - i2 = de + 1 := ⟨c - i2 - 1, by omega⟩
                      have hde3 : de = c - (i2 + 1) := by omega
                      have hB := HBS2.out
                      rw [hde] at hB
                      have hrow := reader_row 49 fa PF RP.faright (enters_ Tryd.func49 (by kernel_rfl) rfl) w0 p bs s4 m wr RP.pf HT.out.be HT.out.rs
                      rcases hq : rowS fa bs s4 with y | ⟨f, s5⟩
                      · have hcE := RPost.er_ hq hrow
                        have hB2 : (Except.error y : Except (Int × Int) (List Br × Nat)) = brS fa bs (termS nb fr fa bs d') q c [] s3 := (brS_er fa bs hq).symm.trans hB
                        have HE7 : Aside0 (termS nb fr fa bs (d' + 1) s = .error y) := ⟨by rw [HE6.out, ← hB2]; rfl⟩
                        clear hq hB hB2 hrow hde hde3
                        go_wp2_with (go_at_call 47; refine hcE.mono ?_; rintro e w6 ⟨rfl, hb6, hk6⟩)
                        rename_i hq9
                        cases hq9
                        simp only [bodyPost]
                        exact ⟨trivial, RPost.err HE7.out hb6 (HT.out.ke.then_ hk6 (fun _ h => .inl h))⟩
                      · have hcE := RPost.ok_ hq hrow
                        have hB2 := (brS_ok fa bs hq).symm.trans hB
                        have HB2 : Aside0 (brK fa bs (termS nb fr fa bs d') q (c - (i2 + 1)) brs f (manyS (termS nb fr fa bs d') q [] s5) = brS fa bs (termS nb fr fa bs d') q c [] s3) := ⟨by rw [← hde3]; exact hB2⟩
                        have hkp := RP.parts k
                        rw [HPQ.out] at hkp
                        clear hq hB hB2 hrow hde hde3 HBS2
                        go_wp2_with (first | (go_at_call 47; refine hcE.mono ?_; rintro e w6 ⟨hb6, hk6, hr6, v, rfl, hv6⟩; obtain ⟨A7, c7, rfl⟩ := Kd.R_slice hv6; have HT7 := Aside0.mk ((HT.out.call hb6 hk6 hr6).below (below_alloc (Below.refl _ _) (.cells #[.slice A7 f.length c7, .slice none 0 0] 73))); have HB7 := Aside0.mk (blk_new w6 (.cells #[.slice A7 f.length c7, .slice none 0 0] 73)); have HVF := Aside0.mk (Kd.R_alloc (R_done hv6 (Nat.le_refl _) (Nat.le_refl w6.heap.size)) (.cells #[.slice A7 f.length c7, .slice none 0 0] 73)); have HGS := Aside0.mk (Kd.R_alloc (R_stayN (R_done HG.out (Nat.le_refl N5) (Nat.le_refl wr.heap.size)) hk6 (fun k hk => .inl (by rw [hk]; exact hpb5.out))) (.cells #[.slice A7 f.length c7, .slice none 0 0] 73)); have HSZ : Aside0 (wr.heap.size ≤ w6.heap.size) := ⟨hk6.1⟩; have hcc := (blk_cell HT7.out.c6 0).trans (rfl : _ = some (Value.int .i64 k)); clear hb6 hk6 hr6 hv6 hcE) | (go_at_call 29; refine (hkp _).mono ?_; rintro e w8 ⟨rfl, hb8⟩; have HT8 := Aside0.mk (HT7.out.below hb8); have HB8 := Aside0.mk (blk_below HB7.out hb8); have HVF8 := Aside0.mk (Kd.R_below HVF.out hb8); have HGS8 := Aside0.mk (Kd.R_below HGS.out hb8); have HS8 : Aside0 (w6.heap.size < w8.heap.size) := ⟨blk_lt HB8.out⟩; clear hb8 hkp hcc))
                        obtain ⟨b7, hb7⟩ : ∃ b7, b7 = w6.heap.size := ⟨_, rfl⟩
                        obtain ⟨B1, hB1⟩ : ∃ B1, B1 = wr.heap.size := ⟨_, rfl⟩
                        obtain ⟨N7, hN7⟩ : ∃ N7, N7 = w8.heap.size := ⟨_, rfl⟩
                        have HLE : Aside0 (N5 ≤ B1 ∧ B1 ≤ b7 ∧ b7 < N7) := ⟨by have := HT.out.o5; have := HSZ.out; have := HS8.out; omega⟩
                        rw [← hb7] at HB8 HVF8
                        rw [← hB1] at HVF8 HGS8
                        have hpb7 : Aside0 (p < N7) := ⟨by have := hpb5.out; have := HLE.out; omega⟩
                        have hw0b7 : Aside0 (w0.heap.size ≤ N7) := ⟨by have := hw0b5.out; have := HLE.out; omega⟩
                        have HN78 : Aside0 (N7 ≤ w8.heap.size) := ⟨by omega⟩
                        clear HT HG HT7 HB7 HVF HGS HSZ HS8 hN7 hB1
                        generalize w6.heap.size = b7_ at *
                        subst hb7
                        obtain ⟨gp, rfl⟩ : ∃ gp, gp = gk := ⟨_, rfl⟩
                        obtain ⟨wo2, rfl⟩ : ∃ wo : World, wo = wr := ⟨_, rfl⟩
                        go_loopg [94] (q + 1) (fun kq v94 wz => ∃ (j : Nat) (ks2 : List Tm) (s6 : Nat) (vk : Value), v94 = .int .i64 (j : Int) ∧ j ≤ q ∧ kq + j = q + 1 ∧ Aside0 (ks2.length = j) ∧ Aside0 (manyS (termS nb fr fa bs d') (q - j) ks2 s6 = manyS (termS nb fr fa bs d') q [] s5) ∧ Aside0 (Tst w0 w wz p m bs s6 w.heap.size b6 N5 ⟨k, n, x, r, ks, []⟩ (.slice A33 r.length c33) (.slice A44 ks.length c44) (.slice none 0 0) (.slice A33 r.length c33) (.slice A44 ks.length c44) (.slice A55 n55 c55)) ∧ Aside0 (N7 ≤ wz.heap.size) ∧ Aside0 (wz.heap[b7]? = some (.cells #[.slice A7 f.length c7, vk] 73 (0, 0))) ∧ Aside0 (Kd.R k91 91 wz B1 (fun k => k < b7) (.slice A7 f.length c7) f) ∧ Aside0 (Kd.R k73 73 wz N5 (fun k => k < B1) (.slice A55 n55 c55) brs) ∧ Aside0 (Kd.R k45 45 wz N7 (fun _ => True) vk ks2))
                        case atStart => exact ⟨0, [], s5, .slice none 0 0, rfl, Nat.zero_le _, rfl, ⟨rfl⟩, ⟨rfl⟩, HT8, HN78, HB8, HVF8, HGS8, ⟨Kd.R_nil _ _ _ _ _⟩⟩
                        case round =>
                          clear HT8 HB8 HVF8 HGS8 HN78
                          obtain ⟨j, ks2, s6, vk, rfl, hj, hk94, HKL, HM, HT, HNZ, HB7, HVF, HGS, HG⟩ := hrel
                          have hkl3 : ks2.length ≤ 5 := by have := HKL.out; omega
                          by_cases hlt3 : j < q
                          · have hlt3' : decide ((j : Int) < (q : Int)) = true := decide_eq_true (by omega)
                            obtain ⟨dd, hdd2⟩ : ∃ dd, q - j = dd + 1 := ⟨q - j - 1, by omega⟩
                            have hdd3 : dd = q - (j + 1) := by omega
                            have hM := HM.out
                            rw [hdd2, manyS] at hM
                            have HTd := Aside0.mk (HT.out.below (wy := wr.drew) (below_drew (Below.refl _ _)))
                            have HB7d : Aside0 (wr.drew.heap[b7]? = some (.cells #[.slice A7 f.length c7, vk] 73 (0, 0))) := HB7
                            have HVFd := Aside0.mk (Kd.R_drew HVF.out)
                            have HGSd := Aside0.mk (Kd.R_drew HGS.out)
                            have HGd := Aside0.mk (Kd.R_drew HG.out)
                            have hvk : wr.drew.cell? ⟨b7, 1, none⟩ = some vk := (blk_cell HB7d.out 1).trans rfl
                            have hcI := IH.out s6 wr.drew HTd.out.be HTd.out.rs
                            have hwd := depw depth hdep
                            have hwd2 := depw2 depth hdep
                            have HBS : Aside0 (N7 ≤ wr.drew.heap.size) := HNZ
                            clear HT HG HM HB7 HVF HGS HNZ
                            rcases hq : termS nb fr fa bs d' s6 with y | ⟨t1, s7⟩
                            · have hcE := RPost.er_ hq hcI
                              have hM2 : (Except.error y : Except (Int × Int) (List Tm × Nat)) = manyS (termS nb fr fa bs d') q [] s5 := by simpa [hq] using hM
                              have HE7 : Aside0 (termS nb fr fa bs (d' + 1) s = .error y) := ⟨by rw [HE6.out, ← HB2.out, ← hM2]; rfl⟩
                              clear hq hM hM2 hcI hdd2 hdd3
                              go_wp2
                              refine start_ (n := 10) (S := fun w' => w'.cell? ⟨b7, 1, none⟩ = some vk) (ds := [9]) #[false, false, false, false, false, false, false, false, false, false] (by kernel_rfl) rfl rfl (show wr.drew.cell? ⟨b7, 1, none⟩ = some vk from hvk) (fun hHeld => ?_)
                              clear hvk
                              generalize wr.drew = wd at *
                              refine pure_ (i := 0) (N := some 96) (v := ?_) (a' := ?_) #[true, false, false, false, false, false, false, false, false, false] rfl rfl (by kernel_rfl) (fun _ _ _ h => h) (Or.inl ⟨by rfl, ?_⟩) ?_ ?_
                              rotate_left
                              · intro w'
                                go_simp
                                with_reducible rfl
                              rotate_left
                              · simp only [Act.put, List.setIfInBounds_toArray, List.set_cons_zero, List.set_cons_succ]
                                rfl
                              refine take_ (i := 1) (N := some 97) (v := ?_) (a' := ?_) #[true, true, false, false, false, false, false, false, false, false] rfl rfl (by kernel_rfl) (fun _ _ _ h => h) (Or.inl ⟨by rfl, ?_⟩) hHeld ?_ ?_
                              rotate_left
                              · rintro w' s0
                                go_simp
                                with_reducible rfl
                              rotate_left
                              · simp only [Act.put, List.setIfInBounds_toArray, List.set_cons_zero, List.set_cons_succ]
                                rfl
                              refine pure_ (i := 2) (N := some 98) (v := ?_) (a' := ?_) #[true, true, true, false, false, false, false, false, false, false] rfl rfl (by kernel_rfl) (fun _ _ _ h => h) (Or.inl ⟨by rfl, ?_⟩) ?_ ?_
                              rotate_left
                              · intro w'
                                go_simp
                                with_reducible rfl
                              rotate_left
                              · simp only [Act.put, List.setIfInBounds_toArray, List.set_cons_zero, List.set_cons_succ]
                                rfl
                              refine pure_ (i := 3) (N := some 99) (v := ?_) (a' := ?_) #[true, true, true, true, false, false, false, false, false, false] rfl rfl (by kernel_rfl) (fun _ _ _ h => h) (Or.inl ⟨by rfl, ?_⟩) ?_ ?_
                              rotate_left
                              · intro w'
                                go_simp
                                with_reducible rfl
                              rotate_left
                              · simp only [Act.put, List.setIfInBounds_toArray, List.set_cons_zero, List.set_cons_succ]
                                rfl
                              refine pure_ (i := 4) (N := some 100) (v := ?_) (a' := ?_) #[true, true, true, true, true, false, false, false, false, false] rfl rfl (by kernel_rfl) (fun _ _ _ h => h) (Or.inl ⟨by rfl, ?_⟩) ?_ ?_
                              rotate_left
                              · intro w'
                                go_simp
                                with_reducible rfl
                              rotate_left
                              · simp only [Act.put, List.setIfInBounds_toArray, List.set_cons_zero, List.set_cons_succ]
                                rfl
                              refine one_ (i := 5) (N := some 101) #[true, true, true, true, true, true, false, false, false, false] rfl rfl (by kernel_rfl) (by decide) (fun K hK => ?_)
                              refine callP_ Tryd.func37 (by kernel_rfl) rfl #[.pointer (some ⟨p, 0, none⟩), .int .i64 ((depth : Int) + 1)] (by rfl) rfl rfl (by (try simp only [List.map_toArray, List.map_cons, List.map_nil]); first | done | rfl) ?_
                              refine hcE.mono ?_
                              rintro e w5 ⟨rfl, hb5, hk5⟩
                              refine .inr ⟨_, rfl, ?_⟩
                              exact ⟨rfl, RPost.err HE7.out hb5 (HTd.out.ke.then_ hk5 (fun _ h => .inl h))⟩
                            · have hcE := RPost.ok_ hq hcI
                              have hM2 : manyS (termS nb fr fa bs d') dd (ks2 ++ [t1]) s7 = manyS (termS nb fr fa bs d') q [] s5 := by simpa [hq] using hM
                              have HM2 : Aside0 (manyS (termS nb fr fa bs d') (q - (j + 1)) (ks2 ++ [t1]) s7 = manyS (termS nb fr fa bs d') q [] s5) := ⟨by rw [← hdd3]; exact hM2⟩
                              clear hq hM hM2 hcI hdd2 hdd3
                              go_wp2
                              refine start_ (n := 10) (S := fun w' => w'.cell? ⟨b7, 1, none⟩ = some vk) (ds := [9]) #[false, false, false, false, false, false, false, false, false, false] (by kernel_rfl) rfl rfl (show wr.drew.cell? ⟨b7, 1, none⟩ = some vk from hvk) (fun hHeld => ?_)
                              clear hvk
                              generalize wr.drew = wd at *
                              refine pure_ (i := 0) (N := some 96) (v := ?_) (a' := ?_) #[true, false, false, false, false, false, false, false, false, false] rfl rfl (by kernel_rfl) (fun _ _ _ h => h) (Or.inl ⟨by rfl, ?_⟩) ?_ ?_
                              rotate_left
                              · intro w'
                                go_simp
                                with_reducible rfl
                              rotate_left
                              · simp only [Act.put, List.setIfInBounds_toArray, List.set_cons_zero, List.set_cons_succ]
                                rfl
                              refine take_ (i := 1) (N := some 97) (v := ?_) (a' := ?_) #[true, true, false, false, false, false, false, false, false, false] rfl rfl (by kernel_rfl) (fun _ _ _ h => h) (Or.inl ⟨by rfl, ?_⟩) hHeld ?_ ?_
                              rotate_left
                              · rintro w' s0
                                go_simp
                                with_reducible rfl
                              rotate_left
                              · simp only [Act.put, List.setIfInBounds_toArray, List.set_cons_zero, List.set_cons_succ]
                                rfl
                              refine pure_ (i := 2) (N := some 98) (v := ?_) (a' := ?_) #[true, true, true, false, false, false, false, false, false, false] rfl rfl (by kernel_rfl) (fun _ _ _ h => h) (Or.inl ⟨by rfl, ?_⟩) ?_ ?_
                              rotate_left
                              · intro w'
                                go_simp
                                with_reducible rfl
                              rotate_left
                              · simp only [Act.put, List.setIfInBounds_toArray, List.set_cons_zero, List.set_cons_succ]
                                rfl
                              refine pure_ (i := 3) (N := some 99) (v := ?_) (a' := ?_) #[true, true, true, true, false, false, false, false, false, false] rfl rfl (by kernel_rfl) (fun _ _ _ h => h) (Or.inl ⟨by rfl, ?_⟩) ?_ ?_
                              rotate_left
                              · intro w'
                                go_simp
                                with_reducible rfl
                              rotate_left
                              · simp only [Act.put, List.setIfInBounds_toArray, List.set_cons_zero, List.set_cons_succ]
                                rfl
                              refine pure_ (i := 4) (N := some 100) (v := ?_) (a' := ?_) #[true, true, true, true, true, false, false, false, false, false] rfl rfl (by kernel_rfl) (fun _ _ _ h => h) (Or.inl ⟨by rfl, ?_⟩) ?_ ?_
                              rotate_left
                              · intro w'
                                go_simp
                                with_reducible rfl
                              rotate_left
                              · simp only [Act.put, List.setIfInBounds_toArray, List.set_cons_zero, List.set_cons_succ]
                                rfl
                              refine one_ (i := 5) (N := some 101) #[true, true, true, true, true, true, false, false, false, false] rfl rfl (by kernel_rfl) (by decide) (fun K hK => ?_)
                              refine callP_ Tryd.func37 (by kernel_rfl) rfl #[.pointer (some ⟨p, 0, none⟩), .int .i64 ((depth : Int) + 1)] (by rfl) rfl rfl (by (try simp only [List.map_toArray, List.map_cons, List.map_nil]); first | done | rfl) ?_
                              refine hcE.mono ?_
                              rintro e w5 ⟨hb5, hk5, hr5, v, rfl, cs, rfl, hM5⟩
                              refine .inl ⟨_, rfl, ?_⟩
                              obtain ⟨B3, k3, B4, k4, B5, k5, rfl⟩ := tm_cells hM5
                              have HT5 := Aside0.mk (HTd.out.call hb5 hk5 hr5)
                              have HG5 := Aside0.mk (R_stay HGd.out hk5 (fun k hk => by rw [hk]; exact hpb7.out))
                              have HM5 := Aside0.mk hM5
                              have HS5 : Aside0 (wd.heap.size ≤ w5.heap.size) := ⟨hk5.1⟩
                              have HB75 := Aside0.mk (blk_kept HB7d.out hk5 (by have := HLE.out; have := hpb5.out; omega))
                              have HVF5 := Aside0.mk (R_stayN HVFd.out hk5 (fun k hk => .inl (by have := HLE.out; have := hpb5.out; omega)))
                              have HGS5 := Aside0.mk (R_stayN HGSd.out hk5 (fun k hk => .inl (by have := hpb5.out; omega)))
                              clear hb5 hr5 hM5 hk5
                              have hHeld_ := hHeld
                              refine hK.out _ _ ((blk_cell HB75.out 1).trans rfl) (fun hHeld => ?_)
                              clear hK K hHeld_
                              refine norm_ (a' := ?_) ?_ ?_
                              rotate_left
                              · show Act.put _ (some 101) _ = _
                                simp only [Act.put, List.setIfInBounds_toArray, List.set_cons_zero, List.set_cons_succ]
                                rfl
                              refine one_ (i := 6) (N := some 102) #[true, true, true, true, true, true, true, false, false, false] rfl rfl (by kernel_rfl) (by decide) (fun K hK => ?_)
                              refine event_step (v := .slice (some ⟨w5.heap.size, 0, none⟩) 1 1) (w1 := w5.alloc (.cells #[.int .i64 t1.f0, .int .i64 t1.f1, .string t1.f2, .slice B3 t1.f3.length k3, .slice B4 t1.f4.length k4, .slice B5 t1.f5.length k5] 45)) (by rfl) (by first | (go_simp; done) | (go_simp; rfl)) ?_
                              have hHeld_ := hHeld
                              refine hK.out _ _ (World.cell?_alloc_old_ hHeld) (fun hHeld => ?_)
                              clear hK K hHeld_
                              refine norm_ (a' := ?_) ?_ ?_
                              rotate_left
                              · show Act.put _ (some 102) _ = _
                                simp only [Act.put, List.setIfInBounds_toArray, List.set_cons_zero, List.set_cons_succ]
                                rfl
                              refine one_ (i := 7) (N := some 103) #[true, true, true, true, true, true, true, true, false, false] rfl rfl (by kernel_rfl) (by decide) (fun K hK => ?_)
                              refine Kd.R_append_step k45 (w0 := w5) N7 (by rfl) (.tmp 97) (.tmp 102) 42 45 (.agg #[.int .i64 0, .int .i64 0, .string ⟨#[]⟩, .slice none 0 0, .slice none 0 0, .slice none 0 0]) 104 rfl Tryd.underlying42 tm_info rfl (by decide) (by omega) vk ks2 t1 [.int .i64 t1.f0, .int .i64 t1.f1, .string t1.f2, .slice B3 t1.f3.length k3, .slice B4 t1.f4.length k4, .slice B5 t1.f5.length k5] (fun _ => True) (fun k => wd.heap.size ≤ k) rfl rfl (M_from HM5.out HBS.out) (fun k hk => ⟨trivial, fun h9 => by have := Kd.R_lt HGd.out k h9.symm; omega⟩) (fun _ _ => trivial) HG5.out (Below.refl _ _) (Nat.le_trans HBS.out HS5.out) (by omega) ?_
                              intro v1 w6 ho hb6 hg hat
                              have hak := app_keep hg (Kd.R_base HG5.out)
                              have hb6' := below_up HT5.out.be hb6 hw0b7.out
                              have hr6 := HT5.out.rs.kept hak (by have := hpb7.out; omega)
                              have HT6 := Aside0.mk (HT5.out.move (hak.mono (fun k h => .inr (by have := HLE.out; omega))) hb6' hr6)
                              have HB76 := Aside0.mk (blk_kept HB75.out hak (by have := HLE.out; omega))
                              have HVF6 := Aside0.mk (R_stayN HVF5.out hak (fun k hk => .inr (by have := HLE.out; omega)))
                              have HGS6 := Aside0.mk (R_stayN HGS5.out hak (fun k hk => .inr (by have := HLE.out; omega)))
                              have HNZ6 : Aside0 (N7 ≤ w6.heap.size) := ⟨Nat.le_trans (Nat.le_trans HBS.out HS5.out) hak.1⟩
                              obtain ⟨A6, n6, c6, rfl⟩ := slice3 ho
                              have HO6 := Aside0.mk ho
                              clear ho hb6 hg hat hb6' hr6
                              have hHeld_ := hHeld
                              refine hK.out _ _ ((blk_cell HB76.out 1).trans rfl) (fun hHeld => ?_)
                              clear hK K hHeld_
                              refine norm_ (a' := ?_) ?_ ?_
                              rotate_left
                              · show Act.put _ (some 103) _ = _
                                simp only [Act.put, List.setIfInBounds_toArray, List.set_cons_zero, List.set_cons_succ]
                                rfl
                              refine pure_ (i := 8) (N := some 104) (v := ?_) (a' := ?_) #[true, true, true, true, true, true, true, true, true, false] rfl rfl (by kernel_rfl) (fun _ _ _ h => h) (Or.inl ⟨by rfl, ?_⟩) ?_ ?_
                              rotate_left
                              · intro w'
                                go_simp
                                with_reducible rfl
                              rotate_left
                              · simp only [Act.put, List.setIfInBounds_toArray, List.set_cons_zero, List.set_cons_succ]
                                rfl
                              refine last_ (i := 9) (N := none) #[true, true, true, true, true, true, true, true, true, true] rfl rfl (by kernel_rfl) (by decide) (fun K hK => ?_)
                              obtain ⟨d0, d1, g0, g1⟩ := cells2 HB76.out
                              refine skip_ (w1 := w6.setCell ⟨b7, 1, none⟩ (.slice A6 n6 c6)) (by rfl) rfl (by go_simp) ?_
                              refine hK.out _ _ ?_
                              clear hK K
                              refine done_ (by kernel_rfl) ?_
                              have HK7 := Aside0.mk ((Kept.refl w6 (fun k => k = b7)).setCell (p := ⟨b7, 1, none⟩) (.inl rfl) (.slice A6 n6 c6))
                              have HT7 : Aside0 (Tst w0 w (w6.setCell ⟨b7, 1, none⟩ (.slice A6 n6 c6)) p m bs s7 w.heap.size b6 N5 ⟨k, n, x, r, ks, []⟩ (.slice A33 r.length c33) (.slice A44 ks.length c44) (.slice none 0 0) (.slice A33 r.length c33) (.slice A44 ks.length c44) (.slice A55 n55 c55)) := ⟨HT6.out.move (HK7.out.mono (fun k hk => .inr (by have := HLE.out; omega))) (HT6.out.be.setCell (p := ⟨b7, 1, none⟩) (by have := HLE.out; have := hw0b5.out; show w0.heap.size ≤ b7; omega) _) (HT6.out.rs.kept HK7.out (by have := HLE.out; have := hpb5.out; omega))⟩
                              have HB77 := Aside0.mk (two_set1 HB76.out (.slice A6 n6 c6))
                              have HVF7 := Aside0.mk (R_stayN HVF6.out HK7.out (fun k hk => .inr (by omega)))
                              have HGS7 := Aside0.mk (R_stayN HGS6.out HK7.out (fun k hk => .inr (by have := HLE.out; omega)))
                              have HG7 := Aside0.mk (R_stay HO6.out HK7.out (fun k hk => by have := HLE.out; omega))
                              have HNZ7 : Aside0 (N7 ≤ (w6.setCell ⟨b7, 1, none⟩ (.slice A6 n6 c6)).heap.size) := ⟨by rw [World.size_setCell]; exact HNZ6.out⟩
                              clear d0 d1 g0 g1 HT6 HO6 HT5 HG5 HM5 HS5 hHeld hwd2 HB75 HVF5 HGS5 HB76 HVF6 HGS6
                              go_wp2
                              go_roundg (gk - 1)
                              case measure => omega
                              case rel => exact ⟨j + 1, ks2 ++ [t1], s7, _, rfl, by omega, by omega, ⟨by rw [List.length_append, HKL.out]; rfl⟩, HM2, HT7, HNZ7, HB77, HVF7, HGS7, HG7⟩
                          · have hlt3' : decide ((j : Int) < (q : Int)) = false := decide_eq_false (by omega)
                            have hM := HM.out
                            rw [show q - j = 0 by omega, manyS] at hM
                            have HB3 : Aside0 (brS fa bs (termS nb fr fa bs d') q (c - (i2 + 1)) (brs ++ [⟨f, ks2⟩]) s6 = brS fa bs (termS nb fr fa bs d') q c [] s3) := ⟨by rw [← HB2.out, ← hM]; rfl⟩
                            obtain ⟨n99, A99, c99, rfl⟩ : ∃ n5 A5 c5, vk = .slice A5 n5 c5 := by obtain ⟨A, n, c, e⟩ := slice3 HG.out; exact ⟨n, A, c, e⟩
                            obtain ⟨d0, d1, d2, d3, d4, d5, g0, g1, g2, g3, g4, g5⟩ := cells6 HT.out.c6
                            obtain ⟨d6, d7, g6, g7⟩ := cells2 HB7.out
                            have hbl : brs.length ≤ 2147483647 := by have := HBL.out; omega
                            have HE0 : Aside0 (k73.M wr N5 (fun k => B1 ≤ k) (⟨f, ks2⟩ : Br) [.slice A7 f.length c7, .slice A99 n99 c99]) := ⟨k73_mkM wr N5 _ ⟨f, ks2⟩ (R_from HVF.out HLE.out.1) (Kd.R_mono (R_from HG.out (by have := HLE.out; omega)) (fun k hk => by have := HLE.out; omega))⟩
                            have HOK : Aside0 (∀ k, B1 ≤ k → True ∧ some k ≠ Value.ownBlock (.slice A55 n55 c55)) := ⟨fun k hk => ⟨trivial, fun h9 => by have := HGS.out.1 k h9.symm; omega⟩⟩
                            have HGT := Aside0.mk (Kd.R_mono HGS.out (ok' := fun _ => True) (fun _ _ => trivial))
                            clear hM HM
                            go_wp2_with (at_builtin; refine Kd.R_append k73 (w0 := wr) N5 rfl (.tmp 107) (.tmp 109) 43 73 (.agg #[.slice none 0 0, .slice none 0 0]) 48 rfl Tryd.underlying43 br_info rfl (by decide) (by omega) (.slice A55 n55 c55) brs ⟨f, ks2⟩ [.slice A7 f.length c7, .slice A99 n99 c99] (fun _ => True) (fun k => B1 ≤ k) rfl rfl HE0.out HOK.out (fun _ _ => trivial) HGT.out (Below.refl _ _) HT.out.o5 (by omega) ?_; intro v1 wA ho hb1 hg hat; obtain ⟨A6, n6, c6, rfl⟩ := slice3 ho; have hak := app_keep hg (Kd.R_base HGT.out); have HTA := Aside0.mk (HT.out.move (hak.mono (fun k h => .inr h)) (below_up HT.out.be hb1 hw0b5.out) (HT.out.rs.kept hak (by have := hpb5.out; omega))); have HOA := Aside0.mk ho; clear d0 d1 d2 d3 d4 d5 g0 g1 g2 g3 g4 g5 d6 d7 g6 g7; obtain ⟨d0, d1, d2, d3, d4, d5, g0, g1, g2, g3, g4, g5⟩ := cells6 HTA.out.c6; clear ho hb1 hg hat hak)
                            have HKB := Aside0.mk ((Kept.refl wA (fun k => k = b6)).setCell (p := ⟨b6, 5, none⟩) (.inl rfl) (.slice A6 n6 c6))
                            have HTB : Aside0 (Tst w0 w (wA.setCell ⟨b6, 5, none⟩ (.slice A6 n6 c6)) p m bs s6 w.heap.size b6 N5 ⟨k, n, x, r, ks, []⟩ (.slice A33 r.length c33) (.slice A44 ks.length c44) (.slice none 0 0) (.slice A33 r.length c33) (.slice A44 ks.length c44) (.slice A6 n6 c6)) := ⟨HTA.out.put 5 _ rfl (R_set6 HTA.out.r3 5 _) (R_set6 HTA.out.r4 5 _) (Kd.R_nil _ _ _ _ _) (Nat.le_refl _) HTA.out.o5⟩
                            have HGB := Aside0.mk (R_stay HOA.out HKB.out (fun k hk => by have := HBN5.out; omega))
                            go_roundg (gp - 1)
                            case measure => omega
                            case rel => exact ⟨i2 + 1, brs ++ [⟨f, ks2⟩], s6, _, rfl, by omega, by omega, ⟨by rw [List.length_append, HBL.out]; rfl⟩, HB3, HTB, HGB⟩
                    · have hlt2' : decide ((i2 : Int) < (c : Int)) = false := decide_eq_false (by omega)
                      have hB := HBS2.out
                      rw [show c - i2 = 0 by omega, brS] at hB
                      have HE8 : Aside0 (termS nb fr fa bs (d' + 1) s = .ok (⟨k, n, x, r, ks, brs⟩, s4)) := ⟨by rw [HE6.out, ← hB]; rfl⟩
                      obtain ⟨d0, d1, d2, d3, d4, d5, g0, g1, g2, g3, g4, g5⟩ := cells6 HT.out.c6
                      obtain ⟨b0, b1, b2, b3, b4, b5, f0, f1, f2, f3, f4, f5⟩ := cells6 HT.out.c4
                      clear hB HBS2
                      go_wp2
                      have F := HT.out.fin (.int .i64 k) (.int .i64 n) (.string x) (.slice A33 r.length c33) (.slice A44 ks.length c44) (.slice A55 n55 c55)
                      clear d0 d1 d2 d3 d4 d5 g0 g1 g2 g3 g4 g5 b0 b1 b2 b3 b4 b5 f0 f1 f2 f3 f4 f5
                      revert F
                      generalize (World.setCell _ ⟨w.heap.size, 5, none⟩ _) = Wf
                      rintro ⟨F1, F2, F3⟩
                      refine bodyPost_ret (v := .agg #[.int .i64 k, .int .i64 n, .string x, .slice A33 r.length c33, .slice A44 ks.length c44, .slice A55 n55 c55]) (tm_out F1 ⟨rfl, rfl, rfl, rfl, rfl, rfl⟩) rfl ?_
                      exact RPost.yes HE8.out F3 (HT.out.ke.then_ F2 (fun j hj => .inr (by omega))) (HT.out.rs.kept F2 (by have := HT.out.o1; have := HT.out.o3; omega)) ⟨_, rfl, k45_mkM Wf w.heap.size _ ⟨k, n, x, r, ks, brs⟩ (fin_row HT.out.r3 F2 (by have := HT.out.o2; omega) (by have := HT.out.o2; omega)) (fin_row HT.out.r4 F2 (by have := HT.out.o2; omega) (by have := HT.out.o2; omega)) (fin_row HG.out F2 (by have := HT.out.o2; have := HT.out.o4; omega) (by have := HT.out.o2; have := HT.out.o4; omega))⟩
  · have hcb := source_byte_no w0 p bs s m (s : Int) _ hb0 hr0 hs
    have HE : Aside0 (termS nb fr fa bs d s = .error ((s : Int), 61)) := ⟨by cases d <;> rw [termS, if_neg hs]⟩
    clear hr hb hv hv0 hc hC0 hr0
    go_enter Tryd.func37, Tryd.ntmps37
    go_wp2_with (go_at_call 21; refine hcb.mono ?_; rintro e w1 ⟨rfl, hd1⟩; obtain ⟨n1, rfl⟩ := hd1)
    rename_i hq9
    cases hq9
    simp only [bodyPost]
    exact ⟨trivial, RPost.no HE.out (pw_below_drewN hb0 n1) (HK0.out.drewN n1)⟩
end Go.Proofs.YtahdjajdaggmjaaDoor.XPo
