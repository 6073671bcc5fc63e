/-
Walks: the reader's term, by depth; a whole term; an entry.
-/
import Derived.Test.YtahdjajdaggmjaaDoorYterm
set_option linter.unusedVariables false
set_option linter.unusedSimpArgs false
namespace Go.Proofs.YtahdjajdaggmjaaDoor.XPo
open Go.RowKit Go.Proofs.YtahdjajdaggmjaaDoorW.PrintWords Go.Proofs.YtahdjajdaggmjaaDoorW.PrintLast Go.Proofs.YtahdjajdaggmjaaDoorW.PrintMore

theorem reader_term {PN : ByteArray → Prop} {PF : List Cl → Prop} {nb : ByteArray → Bool} {fr fa : List Cl → Bool} (RP : ReadP PN PF nb fr fa) (w0 : World) (p m : Nat) (bs : List Int) (hT : Tab w0) : ∀ (d depth : Nat), depth + d = 201 →
    ∀ (s : Nat) (w : World), Below w0.heap.size w0 w → RSt w0 w p bs s m →
    Calls Tryd.prog 37 #[.pointer (some ⟨p, 0, none⟩), .int .i64 (depth : Int)] w (RPost w0 w p m bs (tmV w.heap.size) (termS nb fr fa bs d s)) := by
  intro d
  induction d with
  | zero => exact fun depth hd s w hb hr => reader_term0 RP w0 p m bs hT 0 depth hd (fun d' h => absurd h (by omega)) s w hb hr
  | succ d ih =>
    intro depth hd s w hb hr
    refine reader_term0 RP w0 p m bs hT (d + 1) depth hd (fun d' h => ?_) s w hb hr
    obtain rfl : d = d' := by omega
    intro s2 w2 hb2 hr2
    have := ih (depth + 1) (by omega) s2 w2 hb2 hr2
    rwa [Int.natCast_add] at this
/-- A whole term. -/
def wholeS (nb : ByteArray → Bool) (fr fa : List Cl → Bool) (rt : Tm → Int) (bs : List Int) (s : Nat) : Except (Int × Int) (Tm × Nat) :=
  match termS nb fr fa bs 200 s with
  | .error e => .error e
  | .ok (t, s1) => if rt t = 0 then .ok (t, s1) else .error ((s : Int), 61)
theorem whole_out {w : World} {b : Nat} {y0 y1 y2 y3 y4 y5 x0 x1 : Value} {ts : List Value} (h : w.heap[b]? = some (.cells #[y0, y1, y2, y3, y4, y5] 45 (0, 0))) :
    (results Tryd.f31 ⟨x0 :: x1 :: .pointer (some ⟨b, 0, none⟩) :: ts⟩).run Tryd.prog w = .ok (.agg #[y0, y1, y2, y3, y4, y5]) w := by
  obtain ⟨c0, c1, c2, c3, c4, c5, _⟩ := cells6 h
  simp [results, Tryd.results31, go_sem, c0, c1, c2, c3, c4, c5]
/-- A block of six cells, written whole. -/
theorem six_fin {wx : World} {b4 : Nat} {t : Nat} {z0 z1 z2 z3 z4 z5 : Value} (h : wx.heap[b4]? = some (.cells #[z0, z1, z2, z3, z4, z5] t (0, 0))) (y0 y1 y2 y3 y4 y5 : Value) :
    ((((((wx.setCell ⟨b4, 0, none⟩ y0).setCell ⟨b4, 1, none⟩ y1).setCell ⟨b4, 2, none⟩ y2).setCell ⟨b4, 3, none⟩ y3).setCell ⟨b4, 4, none⟩ y4).setCell ⟨b4, 5, none⟩ y5).heap[b4]? = some (.cells #[y0, y1, y2, y3, y4, y5] t (0, 0)) ∧
    Kept wx ((((((wx.setCell ⟨b4, 0, none⟩ y0).setCell ⟨b4, 1, none⟩ y1).setCell ⟨b4, 2, none⟩ y2).setCell ⟨b4, 3, none⟩ y3).setCell ⟨b4, 4, none⟩ y4).setCell ⟨b4, 5, none⟩ y5) (fun k => k = b4) ∧
    ∀ w0 : World, Below w0.heap.size w0 wx → w0.heap.size ≤ b4 → Below w0.heap.size w0 ((((((wx.setCell ⟨b4, 0, none⟩ y0).setCell ⟨b4, 1, none⟩ y1).setCell ⟨b4, 2, none⟩ y2).setCell ⟨b4, 3, none⟩ y3).setCell ⟨b4, 4, none⟩ y4).setCell ⟨b4, 5, none⟩ y5) := by
  refine ⟨six_set (six_set (six_set (six_set (six_set (six_set h 0 y0) 1 y1) 2 y2) 3 y3) 4 y4) 5 y5, ?_, fun w0 hbe hb => ?_⟩
  · exact ((((((Kept.refl wx (fun k => k = b4)).setCell (p := ⟨b4, 0, none⟩) (.inl rfl) y0).setCell (p := ⟨b4, 1, none⟩) (.inl rfl) y1).setCell (p := ⟨b4, 2, none⟩) (.inl rfl) y2).setCell (p := ⟨b4, 3, none⟩) (.inl rfl) y3).setCell (p := ⟨b4, 4, none⟩) (.inl rfl) y4).setCell (p := ⟨b4, 5, none⟩) (.inl rfl) y5
  · exact (((((hbe.setCell (p := ⟨b4, 0, none⟩) hb y0).setCell (p := ⟨b4, 1, none⟩) hb y1).setCell (p := ⟨b4, 2, none⟩) hb y2).setCell (p := ⟨b4, 3, none⟩) hb y3).setCell (p := ⟨b4, 4, none⟩) hb y4).setCell (p := ⟨b4, 5, none⟩) hb y5
set_option maxHeartbeats 4000000 in
set_option maxRecDepth 100000 in
theorem reader_whole {PN : ByteArray → Prop} {PF : List Cl → Prop} {PT : Tm → Prop} {nb : ByteArray → Bool} {fr fa : List Cl → Bool} {rt : Tm → Int} (RP : ReadP PN PF nb fr fa)
    (HR : ∀ (t : Tm) (cs : List Value) (w : World), k45.K w t cs → PT t → Calls Tryd.prog 27 #[.agg cs.toArray, .int .i64 0, .int .i64 0] w fun e w' => e = .returned (.int .i64 (rt t)) ∧ Below w.heap.size w w')
    (w0 : World) (p m : Nat) (bs : List Int) (hT : Tab w0) (hpt : ∀ (s : Nat) (t : Tm) (s1 : Nat), termS nb fr fa bs 200 s = .ok (t, s1) → PT t) (s : Nat) (w : World) (hb : Below w0.heap.size w0 w) (hr : RSt w0 w p bs s m) :
    Calls Tryd.prog 31 #[.pointer (some ⟨p, 0, none⟩)] w (RPost w0 w p m bs (tmV w.heap.size) (wholeS nb fr fa rt bs s)) := by
  obtain ⟨A, c, hv, hc, hC0⟩ := hr.row
  have hv0 := blk_alloc hv (.cells zeroTm 45)
  obtain ⟨c0, c1, c2, f0, f1, f2⟩ := cells3 hv0
  have hpw : Aside0 (p < w.heap.size) := ⟨hr.lt⟩
  have hw0p : Aside0 (w0.heap.size ≤ w.heap.size) := ⟨hb.size⟩
  have HK0 := Aside0.mk ((Kept.refl w (fun k => k = p)).alloc (.cells zeroTm 45))
  have HN0 := Aside0.mk (blk_new w (.cells zeroTm 45))
  have hct := reader_term RP w0 p m bs hT 200 1 rfl s _ (below_alloc hb (.cells zeroTm 45)) (hr.below (below_alloc (Below.refl _ _) (.cells zeroTm 45)))
  have HRR := Aside0.mk HR
  clear hr hb hv hv0 hc hC0 HR
  rcases hq : termS nb fr fa bs 200 s with y | ⟨t, s1⟩
  · have hcE := RPost.er_ hq hct
    have HE : Aside0 (wholeS nb fr fa rt bs s = .error y) := ⟨by rw [wholeS, hq]⟩
    clear hct hq
    go_enter Tryd.func31, Tryd.ntmps31
    go_wp2_with (go_at_call 37; refine hcE.mono ?_; rintro e w1 ⟨rfl, hb1, hk1⟩)
    rename_i hq9
    cases hq9
    simp only [bodyPost]
    exact ⟨trivial, RPost.err HE.out hb1 (HK0.out.then_ hk1 (fun _ h => .inl h))⟩
  · have hcE := RPost.ok_ hq hct
    have HPT := Aside0.mk (hpt s t s1 hq)
    have HE : Aside0 (wholeS nb fr fa rt bs s = if rt t = 0 then .ok (t, s1) else .error ((s : Int), 61)) := ⟨by rw [wholeS, hq]⟩
    clear hct hq
    by_cases h0 : rt t = 0
    · have HE2 : Aside0 (wholeS nb fr fa rt bs s = .ok (t, s1)) := ⟨by rw [HE.out, if_pos h0]⟩
      have HZ := Aside0.mk h0
      clear h0 HE
      go_enter Tryd.func31, Tryd.ntmps31
      go_wp2_with (first | (go_at_call 37; refine hcE.mono ?_; rintro e w1 ⟨hb1, hk1, hr1, v, rfl, cs, rfl, hM⟩; obtain ⟨A3, k3, A4, k4, A5, k5, rfl⟩ := tm_cells hM; have hcR := HRR.out t _ (w1.alloc (.cells #[.int .i64 t.f0, .int .i64 t.f1, .string t.f2, .slice A3 t.f3.length k3, .slice A4 t.f4.length k4, .slice A5 t.f5.length k5] 45)) (k45.K_below (below_alloc (Below.refl _ _) _) (k45.K_of_M hM)) HPT.out; rw [HZ.out] at hcR; have HM := Aside0.mk (Kd.M_below hM (below_alloc (Below.refl _ _) (.cells #[.int .i64 t.f0, .int .i64 t.f1, .string t.f2, .slice A3 t.f3.length k3, .slice A4 t.f4.length k4, .slice A5 t.f5.length k5] 45))); have HB1 := Aside0.mk (below_alloc hb1 (.cells #[.int .i64 t.f0, .int .i64 t.f1, .string t.f2, .slice A3 t.f3.length k3, .slice A4 t.f4.length k4, .slice A5 t.f5.length k5] 45)); have HR1 := Aside0.mk (hr1.below (below_alloc (Below.refl _ _) (.cells #[.int .i64 t.f0, .int .i64 t.f1, .string t.f2, .slice A3 t.f3.length k3, .slice A4 t.f4.length k4, .slice A5 t.f5.length k5] 45))); have HK1 := Aside0.mk ((HK0.out.then_ hk1 (fun _ h => .inl h)).alloc (.cells #[.int .i64 t.f0, .int .i64 t.f1, .string t.f2, .slice A3 t.f3.length k3, .slice A4 t.f4.length k4, .slice A5 t.f5.length k5] 45)); have HN1 := Aside0.mk (blk_alloc (blk_kept HN0.out hk1 (by have := hpw.out; omega)) (.cells #[.int .i64 t.f0, .int .i64 t.f1, .string t.f2, .slice A3 t.f3.length k3, .slice A4 t.f4.length k4, .slice A5 t.f5.length k5] 45)); have HT1 := Aside0.mk (blk_new w1 (.cells #[.int .i64 t.f0, .int .i64 t.f1, .string t.f2, .slice A3 t.f3.length k3, .slice A4 t.f4.length k4, .slice A5 t.f5.length k5] 45)); have HS1 : Aside0 (w.heap.size < w1.heap.size) := ⟨by have := hk1.1; simp at this; omega⟩; obtain ⟨d0, d1, d2, d3, d4, d5, _⟩ := cells6 HT1.out; clear hb1 hk1 hr1 hM hcE) | (go_at_call 27; refine hcR.mono ?_; rintro e w2 ⟨rfl, hb2⟩; have HM2 := Aside0.mk (Kd.M_below HM.out hb2); have HB2 := Aside0.mk (below_step HB1.out hb2); have HR2 := Aside0.mk (HR1.out.below hb2); have HK2 := Aside0.mk (HK1.out.below hb2); have HN2 := Aside0.mk (blk_below HN1.out hb2); have HT2 := Aside0.mk (blk_below HT1.out hb2); clear d0 d1 d2 d3 d4 d5; obtain ⟨d0, d1, d2, d3, d4, d5, _⟩ := cells6 HT2.out; obtain ⟨b0, b1, b2, b3, b4, b5, g0, g1, g2, g3, g4, g5⟩ := cells6 HN2.out; clear hb2 hcR))
      have F := six_fin HN2.out (.int .i64 t.f0) (.int .i64 t.f1) (.string t.f2) (.slice A3 t.f3.length k3) (.slice A4 t.f4.length k4) (.slice A5 t.f5.length k5)
      clear d0 d1 d2 d3 d4 d5 g0 g1 g2 g3 g4 g5 b0 b1 b2 b3 b4 b5
      revert F
      generalize (World.setCell _ ⟨w.heap.size, 5, none⟩ _) = Wf
      rintro ⟨F1, F2, F3⟩
      refine bodyPost_ret (v := .agg #[.int .i64 t.f0, .int .i64 t.f1, .string t.f2, .slice A3 t.f3.length k3, .slice A4 t.f4.length k4, .slice A5 t.f5.length k5]) (whole_out F1) rfl ?_
      exact RPost.yes HE2.out (F3 w0 HB2.out hw0p.out) (HK2.out.then_ F2 (fun j hj => .inr (by omega))) (HR2.out.kept F2 (by have := hpw.out; omega)) ⟨_, rfl, k45.M_lower (Nat.le_of_lt (by rw [World.size_alloc]; exact Nat.lt_succ_self _)) (M_stay HM2.out F2 (fun k hk => by rw [World.size_alloc]; omega))⟩
    · have h0' : (rt t != 0) = true := by simp [h0]
      have HE2 : Aside0 (wholeS nb fr fa rt bs s = .error ((s : Int), 61)) := ⟨by rw [HE.out, if_neg h0]⟩
      clear h0 HE
      go_enter Tryd.func31, Tryd.ntmps31
      go_wp2_with (first | (go_at_call 37; refine hcE.mono ?_; rintro e w1 ⟨hb1, hk1, hr1, v, rfl, cs, rfl, hM⟩; obtain ⟨A3, k3, A4, k4, A5, k5, rfl⟩ := tm_cells hM; have hcR := HRR.out t _ (w1.alloc (.cells #[.int .i64 t.f0, .int .i64 t.f1, .string t.f2, .slice A3 t.f3.length k3, .slice A4 t.f4.length k4, .slice A5 t.f5.length k5] 45)) (k45.K_below (below_alloc (Below.refl _ _) _) (k45.K_of_M hM)) HPT.out; have HB1 := Aside0.mk (below_alloc hb1 (.cells #[.int .i64 t.f0, .int .i64 t.f1, .string t.f2, .slice A3 t.f3.length k3, .slice A4 t.f4.length k4, .slice A5 t.f5.length k5] 45)); have HK1 := Aside0.mk ((HK0.out.then_ hk1 (fun _ h => .inl h)).alloc (.cells #[.int .i64 t.f0, .int .i64 t.f1, .string t.f2, .slice A3 t.f3.length k3, .slice A4 t.f4.length k4, .slice A5 t.f5.length k5] 45)); have HT1 := Aside0.mk (blk_new w1 (.cells #[.int .i64 t.f0, .int .i64 t.f1, .string t.f2, .slice A3 t.f3.length k3, .slice A4 t.f4.length k4, .slice A5 t.f5.length k5] 45)); obtain ⟨d0, d1, d2, d3, d4, d5, _⟩ := cells6 HT1.out; clear hb1 hk1 hr1 hM hcE) | (go_at_call 27; refine hcR.mono ?_; rintro e w2 ⟨rfl, hb2⟩; have HB2 := Aside0.mk (below_step HB1.out hb2); have HK2 := Aside0.mk (HK1.out.below hb2); clear hb2 hcR) | ((with_reducible refine (source_fail _ _ _ _).mono ?_); rintro e w2 ⟨rfl, rfl⟩))
      rename_i hq9
      cases hq9
      simp only [bodyPost]
      exact ⟨trivial, RPost.no HE2.out HB2.out HK2.out⟩
end Go.Proofs.YtahdjajdaggmjaaDoor.XPo
