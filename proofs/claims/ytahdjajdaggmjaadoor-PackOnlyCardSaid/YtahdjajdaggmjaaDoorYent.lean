/-
Walk: the reader's entry.
-/
import Derived.Test.YtahdjajdaggmjaaDoorYwhole
set_option linter.unusedVariables false
set_option linter.unusedSimpArgs false
namespace Go.Proofs.YtahdjajdaggmjaaDoor.XPo
open Go.RowKit Go.Proofs.YtahdjajdaggmjaaDoorW.PrintWords Go.Proofs.YtahdjajdaggmjaaDoorW.PrintLast Go.Proofs.YtahdjajdaggmjaaDoorW.PrintMore

theorem blk_puty {w : World} {b ty : Nat} {cs : Array Value} (h : w.heap[b]? = some (.cells cs ty (0, 0))) (i : Nat) (u : Value) : (w.setCell ⟨b, i, none⟩ u).heap[b]? = some (.cells (cs.setIfInBounds i u) ty (0, 0)) := by
  have hlt := lt_of_block h
  have h' : w.heap[b] = .cells cs ty (0, 0) := by simpa [Array.getElem?_eq_getElem hlt] using h
  show (w.heap.modify b _)[b]? = _
  rw [Array.getElem?_eq_getElem (by simpa using hlt), Array.getElem_modify_self, h']
  rfl
theorem put_first {wx : World} {b t : Nat} {z0 z1 z2 z3 z4 z5 z6 z7 z8 z9 z10 z11 z12 : Value} (h : wx.heap[b]? = some (.cells #[z0, z1, z2, z3, z4, z5, z6, z7, z8, z9, z10, z11, z12] t (0, 0))) (y0 y1 y2 y3 y4 y5 : Value) :
    ((((((wx.setCell ⟨b, 1, none⟩ y0).setCell ⟨b, 2, none⟩ y1).setCell ⟨b, 3, none⟩ y2).setCell ⟨b, 4, none⟩ y3).setCell ⟨b, 5, none⟩ y4).setCell ⟨b, 6, none⟩ y5).heap[b]? = some (.cells #[z0, y0, y1, y2, y3, y4, y5, z7, z8, z9, z10, z11, z12] t (0, 0)) ∧ Kept wx ((((((wx.setCell ⟨b, 1, none⟩ y0).setCell ⟨b, 2, none⟩ y1).setCell ⟨b, 3, none⟩ y2).setCell ⟨b, 4, none⟩ y3).setCell ⟨b, 5, none⟩ y4).setCell ⟨b, 6, none⟩ y5) (fun k => k = b) ∧
    ∀ w0 : World, Below w0.heap.size w0 wx → w0.heap.size ≤ b → Below w0.heap.size w0 ((((((wx.setCell ⟨b, 1, none⟩ y0).setCell ⟨b, 2, none⟩ y1).setCell ⟨b, 3, none⟩ y2).setCell ⟨b, 4, none⟩ y3).setCell ⟨b, 5, none⟩ y4).setCell ⟨b, 6, none⟩ y5) :=
  ⟨by
    have h1 := (blk_puty (blk_puty (blk_puty (blk_puty (blk_puty (blk_puty h 1 y0) 2 y1) 3 y2) 4 y3) 5 y4) 6 y5)
    simp only [List.setIfInBounds_toArray, List.set_cons_zero, List.set_cons_succ] at h1
    exact h1, (((((((Kept.refl wx (fun k => k = b)).setCell (p := ⟨b, 1, none⟩) (.inl rfl) y0).setCell (p := ⟨b, 2, none⟩) (.inl rfl) y1).setCell (p := ⟨b, 3, none⟩) (.inl rfl) y2).setCell (p := ⟨b, 4, none⟩) (.inl rfl) y3).setCell (p := ⟨b, 5, none⟩) (.inl rfl) y4).setCell (p := ⟨b, 6, none⟩) (.inl rfl) y5), fun w0 hbe hb => ((((((hbe.setCell (p := ⟨b, 1, none⟩) hb y0).setCell (p := ⟨b, 2, none⟩) hb y1).setCell (p := ⟨b, 3, none⟩) hb y2).setCell (p := ⟨b, 4, none⟩) hb y3).setCell (p := ⟨b, 5, none⟩) hb y4).setCell (p := ⟨b, 6, none⟩) hb y5)⟩
theorem put_second {wx : World} {b t : Nat} {z0 z1 z2 z3 z4 z5 z6 z7 z8 z9 z10 z11 z12 : Value} (h : wx.heap[b]? = some (.cells #[z0, z1, z2, z3, z4, z5, z6, z7, z8, z9, z10, z11, z12] t (0, 0))) (y0 y1 y2 y3 y4 y5 : Value) :
    ((((((wx.setCell ⟨b, 7, none⟩ y0).setCell ⟨b, 8, none⟩ y1).setCell ⟨b, 9, none⟩ y2).setCell ⟨b, 10, none⟩ y3).setCell ⟨b, 11, none⟩ y4).setCell ⟨b, 12, none⟩ y5).heap[b]? = some (.cells #[z0, z1, z2, z3, z4, z5, z6, y0, y1, y2, y3, y4, y5] t (0, 0)) ∧ Kept wx ((((((wx.setCell ⟨b, 7, none⟩ y0).setCell ⟨b, 8, none⟩ y1).setCell ⟨b, 9, none⟩ y2).setCell ⟨b, 10, none⟩ y3).setCell ⟨b, 11, none⟩ y4).setCell ⟨b, 12, none⟩ y5) (fun k => k = b) ∧
    ∀ w0 : World, Below w0.heap.size w0 wx → w0.heap.size ≤ b → Below w0.heap.size w0 ((((((wx.setCell ⟨b, 7, none⟩ y0).setCell ⟨b, 8, none⟩ y1).setCell ⟨b, 9, none⟩ y2).setCell ⟨b, 10, none⟩ y3).setCell ⟨b, 11, none⟩ y4).setCell ⟨b, 12, none⟩ y5) :=
  ⟨by
    have h1 := (blk_puty (blk_puty (blk_puty (blk_puty (blk_puty (blk_puty h 7 y0) 8 y1) 9 y2) 10 y3) 11 y4) 12 y5)
    simp only [List.setIfInBounds_toArray, List.set_cons_zero, List.set_cons_succ] at h1
    exact h1, (((((((Kept.refl wx (fun k => k = b)).setCell (p := ⟨b, 7, none⟩) (.inl rfl) y0).setCell (p := ⟨b, 8, none⟩) (.inl rfl) y1).setCell (p := ⟨b, 9, none⟩) (.inl rfl) y2).setCell (p := ⟨b, 10, none⟩) (.inl rfl) y3).setCell (p := ⟨b, 11, none⟩) (.inl rfl) y4).setCell (p := ⟨b, 12, none⟩) (.inl rfl) y5), fun w0 hbe hb => ((((((hbe.setCell (p := ⟨b, 7, none⟩) hb y0).setCell (p := ⟨b, 8, none⟩) hb y1).setCell (p := ⟨b, 9, none⟩) hb y2).setCell (p := ⟨b, 10, none⟩) hb y3).setCell (p := ⟨b, 11, none⟩) hb y4).setCell (p := ⟨b, 12, none⟩) hb y5)⟩
theorem put_all {wx : World} {b t : Nat} {z0 z1 z2 z3 z4 z5 z6 z7 z8 z9 z10 z11 z12 : Value} (h : wx.heap[b]? = some (.cells #[z0, z1, z2, z3, z4, z5, z6, z7, z8, z9, z10, z11, z12] t (0, 0))) (y0 y1 y2 y3 y4 y5 y6 y7 y8 y9 y10 y11 y12 : Value) :
    (((((((((((((wx.setCell ⟨b, 0, none⟩ y0).setCell ⟨b, 1, none⟩ y1).setCell ⟨b, 2, none⟩ y2).setCell ⟨b, 3, none⟩ y3).setCell ⟨b, 4, none⟩ y4).setCell ⟨b, 5, none⟩ y5).setCell ⟨b, 6, none⟩ y6).setCell ⟨b, 7, none⟩ y7).setCell ⟨b, 8, none⟩ y8).setCell ⟨b, 9, none⟩ y9).setCell ⟨b, 10, none⟩ y10).setCell ⟨b, 11, none⟩ y11).setCell ⟨b, 12, none⟩ y12).heap[b]? = some (.cells #[y0, y1, y2, y3, y4, y5, y6, y7, y8, y9, y10, y11, y12] t (0, 0)) ∧ Kept wx (((((((((((((wx.setCell ⟨b, 0, none⟩ y0).setCell ⟨b, 1, none⟩ y1).setCell ⟨b, 2, none⟩ y2).setCell ⟨b, 3, none⟩ y3).setCell ⟨b, 4, none⟩ y4).setCell ⟨b, 5, none⟩ y5).setCell ⟨b, 6, none⟩ y6).setCell ⟨b, 7, none⟩ y7).setCell ⟨b, 8, none⟩ y8).setCell ⟨b, 9, none⟩ y9).setCell ⟨b, 10, none⟩ y10).setCell ⟨b, 11, none⟩ y11).setCell ⟨b, 12, none⟩ y12) (fun k => k = b) ∧
    ∀ w0 : World, Below w0.heap.size w0 wx → w0.heap.size ≤ b → Below w0.heap.size w0 (((((((((((((wx.setCell ⟨b, 0, none⟩ y0).setCell ⟨b, 1, none⟩ y1).setCell ⟨b, 2, none⟩ y2).setCell ⟨b, 3, none⟩ y3).setCell ⟨b, 4, none⟩ y4).setCell ⟨b, 5, none⟩ y5).setCell ⟨b, 6, none⟩ y6).setCell ⟨b, 7, none⟩ y7).setCell ⟨b, 8, none⟩ y8).setCell ⟨b, 9, none⟩ y9).setCell ⟨b, 10, none⟩ y10).setCell ⟨b, 11, none⟩ y11).setCell ⟨b, 12, none⟩ y12) :=
  ⟨by
    have h1 := (blk_puty (blk_puty (blk_puty (blk_puty (blk_puty (blk_puty (blk_puty (blk_puty (blk_puty (blk_puty (blk_puty (blk_puty (blk_puty h 0 y0) 1 y1) 2 y2) 3 y3) 4 y4) 5 y5) 6 y6) 7 y7) 8 y8) 9 y9) 10 y10) 11 y11) 12 y12)
    simp only [List.setIfInBounds_toArray, List.set_cons_zero, List.set_cons_succ] at h1
    exact h1, ((((((((((((((Kept.refl wx (fun k => k = b)).setCell (p := ⟨b, 0, none⟩) (.inl rfl) y0).setCell (p := ⟨b, 1, none⟩) (.inl rfl) y1).setCell (p := ⟨b, 2, none⟩) (.inl rfl) y2).setCell (p := ⟨b, 3, none⟩) (.inl rfl) y3).setCell (p := ⟨b, 4, none⟩) (.inl rfl) y4).setCell (p := ⟨b, 5, none⟩) (.inl rfl) y5).setCell (p := ⟨b, 6, none⟩) (.inl rfl) y6).setCell (p := ⟨b, 7, none⟩) (.inl rfl) y7).setCell (p := ⟨b, 8, none⟩) (.inl rfl) y8).setCell (p := ⟨b, 9, none⟩) (.inl rfl) y9).setCell (p := ⟨b, 10, none⟩) (.inl rfl) y10).setCell (p := ⟨b, 11, none⟩) (.inl rfl) y11).setCell (p := ⟨b, 12, none⟩) (.inl rfl) y12), fun w0 hbe hb => (((((((((((((hbe.setCell (p := ⟨b, 0, none⟩) hb y0).setCell (p := ⟨b, 1, none⟩) hb y1).setCell (p := ⟨b, 2, none⟩) hb y2).setCell (p := ⟨b, 3, none⟩) hb y3).setCell (p := ⟨b, 4, none⟩) hb y4).setCell (p := ⟨b, 5, none⟩) hb y5).setCell (p := ⟨b, 6, none⟩) hb y6).setCell (p := ⟨b, 7, none⟩) hb y7).setCell (p := ⟨b, 8, none⟩) hb y8).setCell (p := ⟨b, 9, none⟩) hb y9).setCell (p := ⟨b, 10, none⟩) hb y10).setCell (p := ⟨b, 11, none⟩) hb y11).setCell (p := ⟨b, 12, none⟩) hb y12)⟩

theorem MSt.kept {w w1 : World} {b : Nat} {seen : List ByteArray} {S : Nat → Prop} (h : MSt w b seen) (hk : Kept w w1 S) (hb : ¬ S b) : MSt w1 b seen := by
  obtain ⟨D, ⟨es, clock, hh, r⟩, hD⟩ := h
  exact ⟨D, ⟨es, clock, blk_kept hh hk hb, r⟩, hD⟩
theorem MSt.upd {w : World} {b : Nat} {seen : List ByteArray} (h : MSt w b seen) (s : ByteArray) (hs : s.size ≤ 2000000) (hl : seen.length ≤ 10000000000) :
    ∃ w', (Instr.mapUpdate 64 (.map (some b)) (.string s) (.bool true)).run Tryd.prog w = .ok () w' ∧ MSt w' b (s :: seen) ∧ w.grownBy w' (some b) := by
  obtain ⟨D, ho, hD⟩ := h
  have hIM := ho.isMap
  obtain ⟨w', hrun, h1, h2⟩ := ho.update (Maps.string_keyed Tryd.underlying9) Tryd.underlying64 (by simp only [maxLen]; omega) (WideMaps.keyOf_string_mk (s := s) Tryd.underlying9 (by simp only [maxLen]; omega)) (plainElem_bool Tryd.underlying4 true)
  refine ⟨w', hrun, ⟨_, h1, fun q => ?_⟩, h2⟩
  by_cases e : q = s
  · subst e
    rw [Maps.atKey_put_same (k := .string q.data.toList) hIM trivial, memB_cons, BEq.rfl, Bool.true_or]
  · have hne : (s.data.toList == q.data.toList) = false := by
      rw [beq_eq_false_iff_ne]
      exact fun h => e (WideShapes.bytes_inj h.symm)
    rw [Maps.atKey_put_other (fun h => e (WideShapes.bytes_inj (Lit.string.inj h))), hD q, memB_cons, hne, Bool.false_or]
/-- An entry. -/
def entS (nb : ByteArray → Bool) (fr fa : List Cl → Bool) (rt : Tm → Int) (bs : List Int) (seen : List ByteArray) (s : Nat) : Except (Int × Int) (En × Nat) :=
  match textS nb bs s with
  | .error e => .error e
  | .ok (x, s1) => if memB x seen = true then .error ((s : Int), 61) else match wholeS nb fr fa rt bs s1 with
    | .error e => .error e
    | .ok (t1, s2) => match wholeS nb fr fa rt bs s2 with
      | .error e => .error e
      | .ok (t2, s3) => .ok (⟨x, t1, t2⟩, s3)
def enV (base : Nat) (x : En) (w : World) (v : Value) : Prop := ∃ cs : List Value, v = .agg cs.toArray ∧ k54.M w base (fun _ => True) x cs
def EPost (w0 w : World) (p m : Nat) (bs : List Int) (seen : List ByteArray) (base : Nat) (r : Except (Int × Int) (En × Nat)) (e : Ending) (w' : World) : Prop :=
  Below w0.heap.size w0 w' ∧ Kept w w' (fun k => k = p ∨ k = m) ∧ match r with
    | .ok (x, s) => RSt w0 w' p bs s m ∧ MSt w' m (x.f0 :: seen) ∧ ∃ v, e = .returned v ∧ enV base x w' v
    | .error (a, c) => e = refuse a c
theorem EPost.no {w0 w w' : World} {p m base : Nat} {bs : List Int} {seen : List ByteArray} {r : Except (Int × Int) (En × Nat)} {a c : Int} (hr : r = .error (a, c)) (hb : Below w0.heap.size w0 w') (hk : Kept w w' (fun k => k = p ∨ k = m)) : EPost w0 w p m bs seen base r (refuse a c) w' := by
  subst hr
  exact ⟨hb, hk, rfl⟩
theorem EPost.err {w0 w w' : World} {p m base : Nat} {bs : List Int} {seen : List ByteArray} {r : Except (Int × Int) (En × Nat)} {y : Int × Int} (hr : r = .error y) (hb : Below w0.heap.size w0 w') (hk : Kept w w' (fun k => k = p ∨ k = m)) : EPost w0 w p m bs seen base r (refuse y.1 y.2) w' := EPost.no hr hb hk
theorem ent_out {w : World} {b : Nat} {z0 z1 z2 z3 z4 z5 z6 z7 z8 z9 z10 z11 z12 x0 x1 : Value} {ts : List Value} (h : w.heap[b]? = some (.cells #[z0, z1, z2, z3, z4, z5, z6, z7, z8, z9, z10, z11, z12] 54 (0, 0))) :
    (results Tryd.f24 ⟨x0 :: x1 :: .pointer (some ⟨b, 0, none⟩) :: ts⟩).run Tryd.prog w = .ok (.agg #[z0, z1, z2, z3, z4, z5, z6, z7, z8, z9, z10, z11, z12]) w := by
  have c0 : w.cell? ⟨b, 0, none⟩ = some z0 := (blk_cell h 0).trans rfl
  have c1 : w.cell? ⟨b, 1, none⟩ = some z1 := (blk_cell h 1).trans rfl
  have c2 : w.cell? ⟨b, 2, none⟩ = some z2 := (blk_cell h 2).trans rfl
  have c3 : w.cell? ⟨b, 3, none⟩ = some z3 := (blk_cell h 3).trans rfl
  have c4 : w.cell? ⟨b, 4, none⟩ = some z4 := (blk_cell h 4).trans rfl
  have c5 : w.cell? ⟨b, 5, none⟩ = some z5 := (blk_cell h 5).trans rfl
  have c6 : w.cell? ⟨b, 6, none⟩ = some z6 := (blk_cell h 6).trans rfl
  have c7 : w.cell? ⟨b, 7, none⟩ = some z7 := (blk_cell h 7).trans rfl
  have c8 : w.cell? ⟨b, 8, none⟩ = some z8 := (blk_cell h 8).trans rfl
  have c9 : w.cell? ⟨b, 9, none⟩ = some z9 := (blk_cell h 9).trans rfl
  have c10 : w.cell? ⟨b, 10, none⟩ = some z10 := (blk_cell h 10).trans rfl
  have c11 : w.cell? ⟨b, 11, none⟩ = some z11 := (blk_cell h 11).trans rfl
  have c12 : w.cell? ⟨b, 12, none⟩ = some z12 := (blk_cell h 12).trans rfl
  simp [results, Tryd.results24, go_sem, c0, c1, c2, c3, c4, c5, c6, c7, c8, c9, c10, c11, c12]
set_option maxHeartbeats 4000000 in
set_option maxRecDepth 100000 in
theorem reader_entry {PN : ByteArray → Prop} {PF : List Cl → Prop} {PT : Tm → Prop} {nb : ByteArray → Bool} {fr fa : List Cl → Bool} {rt : Tm → Int} (RP : ReadP PN PF nb fr fa)
    (HR : ∀ (t : Tm) (cs : List Value) (w : World), k45.K w t cs → PT t → Calls Tryd.prog 27 #[.agg cs.toArray, .int .i64 0, .int .i64 0] w fun e w' => e = .returned (.int .i64 (rt t)) ∧ Below w.heap.size w w')
    (w0 : World) (p m : Nat) (bs : List Int) (seen : List ByteArray) (hT : Tab w0) (hpt : ∀ (s : Nat) (t : Tm) (s1 : Nat), termS nb fr fa bs 200 s = .ok (t, s1) → PT t) (hbl : bs.length ≤ 1000000) (hsl : seen.length ≤ 10000000000) (s : Nat) (w : World) (hb : Below w0.heap.size w0 w) (hr : RSt w0 w p bs s m) (hm : MSt w m seen) (hm0 : w0.heap.size ≤ m) (hpm : p ≠ m) :
    Calls Tryd.prog 24 #[.pointer (some ⟨p, 0, none⟩)] w (EPost w0 w p m bs seen w.heap.size (entS nb fr fa rt bs seen s)) := by
  obtain ⟨A, c, hv, hc, hC0⟩ := hr.row
  have hv0 := blk_alloc hv (.cells #[.string ⟨#[]⟩, .int .i64 0, .int .i64 0, .string ⟨#[]⟩, .slice none 0 0, .slice none 0 0, .slice none 0 0, .int .i64 0, .int .i64 0, .string ⟨#[]⟩, .slice none 0 0, .slice none 0 0, .slice none 0 0] 54)
  obtain ⟨c0, c1, c2, f0, f1, f2⟩ := cells3 hv0
  have hpw : Aside0 (p < w.heap.size) := ⟨hr.lt⟩
  have hmw : Aside0 (m < w.heap.size) := ⟨hm.lt⟩
  have hw0p : Aside0 (w0.heap.size ≤ w.heap.size) := ⟨hb.size⟩
  have HK0 := Aside0.mk ((Kept.refl w (fun k => k = p ∨ k = m)).alloc (.cells #[.string ⟨#[]⟩, .int .i64 0, .int .i64 0, .string ⟨#[]⟩, .slice none 0 0, .slice none 0 0, .slice none 0 0, .int .i64 0, .int .i64 0, .string ⟨#[]⟩, .slice none 0 0, .slice none 0 0, .slice none 0 0] 54))
  have HN0 := Aside0.mk (blk_new w (.cells #[.string ⟨#[]⟩, .int .i64 0, .int .i64 0, .string ⟨#[]⟩, .slice none 0 0, .slice none 0 0, .slice none 0 0, .int .i64 0, .int .i64 0, .string ⟨#[]⟩, .slice none 0 0, .slice none 0 0, .slice none 0 0] 54))
  have HM0 := Aside0.mk (hm.below (below_alloc (Below.refl _ _) (.cells #[.string ⟨#[]⟩, .int .i64 0, .int .i64 0, .string ⟨#[]⟩, .slice none 0 0, .slice none 0 0, .slice none 0 0, .int .i64 0, .int .i64 0, .string ⟨#[]⟩, .slice none 0 0, .slice none 0 0, .slice none 0 0] 54)))
  have HPM := Aside0.mk hpm
  have HGM := Aside0.mk hm0
  have hct := reader_text RP.named w0 p bs s m _ hT (fun s hs => RP.pn s (by omega)) (below_alloc hb (.cells #[.string ⟨#[]⟩, .int .i64 0, .int .i64 0, .string ⟨#[]⟩, .slice none 0 0, .slice none 0 0, .slice none 0 0, .int .i64 0, .int .i64 0, .string ⟨#[]⟩, .slice none 0 0, .slice none 0 0, .slice none 0 0] 54)) (hr.below (below_alloc (Below.refl _ _) (.cells #[.string ⟨#[]⟩, .int .i64 0, .int .i64 0, .string ⟨#[]⟩, .slice none 0 0, .slice none 0 0, .slice none 0 0, .int .i64 0, .int .i64 0, .string ⟨#[]⟩, .slice none 0 0, .slice none 0 0, .slice none 0 0] 54)))
  have HRR := Aside0.mk HR
  clear hr hb hv hv0 hc hC0 HR hm hpm hm0
  rcases hq : textS nb bs s with y | ⟨x, s1⟩
  · have hcE := RPost.er_ hq hct
    have HE : Aside0 (entS nb fr fa rt bs seen s = .error y) := ⟨by rw [entS, hq]⟩
    clear hct hq
    go_enter Tryd.func24, Tryd.ntmps24
    go_wp2_with (go_at_call 30; refine hcE.mono ?_; rintro e w1 ⟨rfl, hb1, hk1⟩)
    rename_i hq9
    cases hq9
    simp only [bodyPost]
    exact ⟨trivial, EPost.err HE.out hb1 (HK0.out.then_ hk1 (fun _ h => .inl (.inl h)))⟩
  · have hcE := RPost.ok_ hq hct
    have hxs : x.size ≤ 1000000 := by
      have h9 := textS_size hq
      omega
    have HX : Aside0 (entS nb fr fa rt bs seen s = if memB x seen = true then .error ((s : Int), 61) else (match wholeS nb fr fa rt bs s1 with | .error e => .error e | .ok (t1, s2) => match wholeS nb fr fa rt bs s2 with | .error e => .error e | .ok (t2, s3) => .ok (⟨x, t1, t2⟩, s3))) := ⟨by rw [entS, hq]⟩
    clear hct hq
    go_enter Tryd.func24, Tryd.ntmps24
    go_upto_region 3 with (go_at_call 30; refine hcE.mono ?_; rintro e w1 ⟨hb1, hk1, hr1, v, rfl, rfl⟩; have HB1 := Aside0.mk (below_alloc hb1 (.cells #[.string x, .int .i64 0, .int .i64 0, .string ⟨#[]⟩, .slice none 0 0, .slice none 0 0, .slice none 0 0, .int .i64 0, .int .i64 0, .string ⟨#[]⟩, .slice none 0 0, .slice none 0 0, .slice none 0 0] 54)); have HK1 := Aside0.mk ((HK0.out.then_ hk1 (fun _ h => .inl (.inl h))).alloc (.cells #[.string x, .int .i64 0, .int .i64 0, .string ⟨#[]⟩, .slice none 0 0, .slice none 0 0, .slice none 0 0, .int .i64 0, .int .i64 0, .string ⟨#[]⟩, .slice none 0 0, .slice none 0 0, .slice none 0 0] 54)); have HR1 := Aside0.mk (hr1.below (below_alloc (Below.refl _ _) (.cells #[.string x, .int .i64 0, .int .i64 0, .string ⟨#[]⟩, .slice none 0 0, .slice none 0 0, .slice none 0 0, .int .i64 0, .int .i64 0, .string ⟨#[]⟩, .slice none 0 0, .slice none 0 0, .slice none 0 0] 54))); have HN1 := Aside0.mk (blk_alloc (blk_kept HN0.out hk1 (by have := hpw.out; omega)) (.cells #[.string x, .int .i64 0, .int .i64 0, .string ⟨#[]⟩, .slice none 0 0, .slice none 0 0, .slice none 0 0, .int .i64 0, .int .i64 0, .string ⟨#[]⟩, .slice none 0 0, .slice none 0 0, .slice none 0 0] 54)); have HE1 := Aside0.mk (blk_new w1 (.cells #[.string x, .int .i64 0, .int .i64 0, .string ⟨#[]⟩, .slice none 0 0, .slice none 0 0, .slice none 0 0, .int .i64 0, .int .i64 0, .string ⟨#[]⟩, .slice none 0 0, .slice none 0 0, .slice none 0 0] 54)); have HM1 := Aside0.mk ((HM0.out.kept hk1 (fun h => HPM.out h.symm)).below (below_alloc (Below.refl _ _) (.cells #[.string x, .int .i64 0, .int .i64 0, .string ⟨#[]⟩, .slice none 0 0, .slice none 0 0, .slice none 0 0, .int .i64 0, .int .i64 0, .string ⟨#[]⟩, .slice none 0 0, .slice none 0 0, .slice none 0 0] 54))); have HS1 : Aside0 (w.heap.size < w1.heap.size) := ⟨by have := hk1.1; simp at this; omega⟩; clear hb1 hk1 hr1 hcE)
    clear c0 c1 c2 f0 f1 f2 HM0 HK0 HN0
    generalize hb4 : w1.heap.size = b4 at *
    clear hb4
    generalize w1.alloc (.cells #[.string x, .int .i64 0, .int .i64 0, .string ⟨#[]⟩, .slice none 0 0, .slice none 0 0, .slice none 0 0, .int .i64 0, .int .i64 0, .string ⟨#[]⟩, .slice none 0 0, .slice none 0 0, .slice none 0 0] 54) = W1 at *
    obtain ⟨A, c, hv, hc, hC0⟩ := HR1.out.row
    obtain ⟨c0, c1, c2, f0, f1, f2⟩ := cells3 hv
    have e0 := (blk_cell HE1.out 0).trans (rfl : _ = some (Value.string x))
    have hrun : ∀ j, (Instr.lookup 64 (.map (some m)) (.string x) false).run Tryd.prog (W1.drewN j) = .ok (.bool (memB x seen)) (W1.drewN j) := fun j => (HM1.out.below (pw_below_drewN (Below.refl _ _) j)).run x hxs
    clear hv hC0
    by_cases hmem : memB x seen = true
    · have HE : Aside0 (entS nb fr fa rt bs seen s = .error ((s : Int), 61)) := ⟨by rw [HX.out, if_pos hmem]⟩
      rw [hmem] at hrun
      clear hmem HX
      go_quiet (fail)
      have HB2 := Aside0.mk (pw_below_drewN HB1.out nq)
      have HK2 := Aside0.mk (HK1.out.drewN nq)
      go_wp2_with ((with_reducible refine (source_fail _ _ _ _).mono ?_); rintro e w2 ⟨rfl, rfl⟩)
      rename_i hq9
      cases hq9
      simp only [bodyPost]
      exact ⟨trivial, EPost.no HE.out HB2.out HK2.out⟩
    · have hmem' : memB x seen = false := by simpa using hmem
      have HX2 : Aside0 (entS nb fr fa rt bs seen s = (match wholeS nb fr fa rt bs s1 with | .error e => .error e | .ok (t1, s2) => match wholeS nb fr fa rt bs s2 with | .error e => .error e | .ok (t2, s3) => .ok (⟨x, t1, t2⟩, s3))) := ⟨by rw [HX.out, if_neg hmem]⟩
      rw [hmem'] at hrun
      clear hmem hmem' HX
      go_quiet (fail)
      have hr2 := HR1.out.below (w1 := W1.drewN nq) (pw_below_drewN (Below.refl _ _) nq)
      have hb2 := pw_below_drewN HB1.out nq
      have hk2 := HK1.out.drewN nq
      have hm2 := HM1.out.below (w1 := W1.drewN nq) (pw_below_drewN (Below.refl _ _) nq)
      have hn2 : (W1.drewN nq).heap[w.heap.size]? = some (.cells #[.string ⟨#[]⟩, .int .i64 0, .int .i64 0, .string ⟨#[]⟩, .slice none 0 0, .slice none 0 0, .slice none 0 0, .int .i64 0, .int .i64 0, .string ⟨#[]⟩, .slice none 0 0, .slice none 0 0, .slice none 0 0] 54 (0, 0)) := HN1.out
      have he2 : (W1.drewN nq).heap[b4]? = some (.cells #[.string x, .int .i64 0, .int .i64 0, .string ⟨#[]⟩, .slice none 0 0, .slice none 0 0, .slice none 0 0, .int .i64 0, .int .i64 0, .string ⟨#[]⟩, .slice none 0 0, .slice none 0 0, .slice none 0 0] 54 (0, 0)) := HE1.out
      clear c0 c1 c2 f0 f1 f2 e0 hrun HR1 HB1 HK1 HM1 HN1 HE1
      revert hr2 hb2 hk2 hm2 hn2 he2
      generalize W1.drewN nq = W2
      intro hr2 hb2 hk2 hm2 hn2 he2
      go_wp2
      obtain ⟨W3, hup, hm3, hg3⟩ := (hm2.below (w1 := W2.drew) (below_drew (Below.refl _ _))).upd x (by omega) (by omega)
      obtain ⟨A, c, hv, hc, hC0⟩ := hr2.row
      have HB2 := Aside0.mk hb2
      have HR2 := Aside0.mk hr2
      have HK2 := Aside0.mk hk2
      have hak : Kept W2 W3 (fun k => k = m) := ⟨hg3.size, fun i hi hn => hg3.block i hi (fun he => hn (Option.some.inj he))⟩
      have HAK := Aside0.mk hak
      have HM3 := Aside0.mk hm3
      have HR3 := Aside0.mk (hr2.kept hak HPM.out)
      have HB3 := Aside0.mk (below_mapset (below_drew hb2) HGM.out hg3)
      have HK3 := Aside0.mk (hk2.then_ hak (fun k h => .inl (.inr h)))
      have HN3 := Aside0.mk (blk_kept hn2 hak (by have := hmw.out; omega))
      have HE3 := Aside0.mk (blk_kept he2 hak (by have := hmw.out; have := HS1.out; omega))
      obtain ⟨c0, c1, c2, f0, f1, f2⟩ := cells3 hv
      have e0 := (blk_cell he2 0).trans (rfl : _ = some (Value.string x))
      have HS3 : Aside0 (b4 < W3.heap.size) := ⟨blk_lt HE3.out⟩
      clear hv hC0 hb2 hk2 hm2 hm3 hr2 hg3 hak hn2 he2
      refine start_ (n := 7) (S := fun w' => w'.cell? ⟨p, 2, none⟩ = some (.map (some m)) ∧ w'.cell? ⟨b4, 0, none⟩ = some (.string x)) (ds := [6]) #[false, false, false, false, false, false, false] (by kernel_rfl) rfl rfl ⟨show W2.drew.cell? ⟨p, 2, none⟩ = _ from c2, show W2.drew.cell? ⟨b4, 0, none⟩ = _ from e0⟩ (fun hHeld => ?_)
      refine pure_ (i := 0) (N := some 25) (v := ?_) (a' := ?_) #[true, false, false, false, false, false, false] rfl rfl (by kernel_rfl) (fun _ _ _ h => h) (Or.inl ⟨by rfl, ?_⟩) ?_ ?_
      rotate_left
      · intro w'
        go_simp
        with_reducible rfl
      rotate_left
      · simp only [Act.put, List.setIfInBounds_toArray, List.set_cons_zero, List.set_cons_succ]
        rfl
      refine pure_ (i := 1) (N := some 26) (v := ?_) (a' := ?_) #[true, true, false, false, false, false, false] rfl rfl (by kernel_rfl) (fun _ _ _ h => h) (Or.inl ⟨by rfl, ?_⟩) ?_ ?_
      rotate_left
      · intro w'
        go_simp
        with_reducible rfl
      rotate_left
      · simp only [Act.put, List.setIfInBounds_toArray, List.set_cons_zero, List.set_cons_succ]
        rfl
      refine pure_ (i := 2) (N := some 27) (v := ?_) (a' := ?_) #[true, true, true, false, false, false, false] rfl rfl (by kernel_rfl) (fun _ _ _ h => h) (Or.inl ⟨by rfl, ?_⟩) ?_ ?_
      rotate_left
      · intro w'
        go_simp
        with_reducible rfl
      rotate_left
      · simp only [Act.put, List.setIfInBounds_toArray, List.set_cons_zero, List.set_cons_succ]
        rfl
      refine take_ (i := 3) (N := some 28) (v := ?_) (a' := ?_) #[true, true, true, true, false, false, false] rfl rfl (by kernel_rfl) (fun _ _ _ h => h) (Or.inl ⟨by rfl, ?_⟩) hHeld ?_ ?_
      rotate_left
      · rintro w' ⟨s0, s1⟩
        go_simp
        with_reducible rfl
      rotate_left
      · simp only [Act.put, List.setIfInBounds_toArray, List.set_cons_zero, List.set_cons_succ]
        rfl
      refine pure_ (i := 4) (N := some 29) (v := ?_) (a' := ?_) #[true, true, true, true, true, false, false] rfl rfl (by kernel_rfl) (fun _ _ _ h => h) (Or.inl ⟨by rfl, ?_⟩) ?_ ?_
      rotate_left
      · intro w'
        go_simp
        with_reducible rfl
      rotate_left
      · simp only [Act.put, List.setIfInBounds_toArray, List.set_cons_zero, List.set_cons_succ]
        rfl
      refine take_ (i := 5) (N := some 30) (v := ?_) (a' := ?_) #[true, true, true, true, true, true, false] rfl rfl (by kernel_rfl) (fun _ _ _ h => h) (Or.inl ⟨by rfl, ?_⟩) hHeld ?_ ?_
      rotate_left
      · rintro w' ⟨s0, s1⟩
        go_simp
        with_reducible rfl
      rotate_left
      · simp only [Act.put, List.setIfInBounds_toArray, List.set_cons_zero, List.set_cons_succ]
        rfl
      refine last_ (i := 6) (N := none) #[true, true, true, true, true, true, true] rfl rfl (by kernel_rfl) (by decide) (fun K hK => ?_)
      refine skip_ (w1 := W3) (by rfl) rfl (by go_simp) ?_
      refine hK.out _ _ ?_
      clear hK K
      refine done_ (by kernel_rfl) ?_
      clear e0 c0 c1 c2 f0 f1 f2 hup
      have hcw := reader_whole RP HRR.out w0 p m bs hT hpt s1 W3 HB3.out HR3.out
      rcases hq1 : wholeS nb fr fa rt bs s1 with y | ⟨t1, s2⟩
      · have hcE := RPost.er_ hq1 hcw
        have HE : Aside0 (entS nb fr fa rt bs seen s = .error y) := ⟨by rw [HX2.out, hq1]⟩
        clear hcw hq1 HX2
        go_wp2_with (go_at_call 31; refine hcE.mono ?_; rintro e w4 ⟨rfl, hb4, hk4⟩)
        rename_i hq9
        cases hq9
        simp only [bodyPost]
        exact ⟨trivial, EPost.err HE.out hb4 (HK3.out.then_ hk4 (fun _ h => .inl (.inl h)))⟩
      · have hcE := RPost.ok_ hq1 hcw
        have HX3 : Aside0 (entS nb fr fa rt bs seen s = (match wholeS nb fr fa rt bs s2 with | .error e => .error e | .ok (t2, s3) => .ok (⟨x, t1, t2⟩, s3))) := ⟨by rw [HX2.out, hq1]⟩
        clear hcw hq1 HX2
        go_upto_region 7 with (go_at_call 31; refine hcE.mono ?_; rintro e w4 ⟨hb4, hk4, hr4, v, rfl, cs, rfl, hM⟩; obtain ⟨P3, px3, P4, px4, P5, px5, rfl⟩ := tm_cells hM; have HB4 := Aside0.mk hb4; have HK4 := Aside0.mk (HK3.out.then_ hk4 (fun _ h => .inl (.inl h))); have HR4 := Aside0.mk hr4; have HP4 := Aside0.mk hM; have HN4 := Aside0.mk (blk_kept HN3.out hk4 (by have := hpw.out; omega)); have HE4 := Aside0.mk (blk_kept HE3.out hk4 (by have := hpw.out; have := HS1.out; omega)); have HM4 := Aside0.mk (HM3.out.kept hk4 (fun h => HPM.out h.symm)); have HS4 : Aside0 (W3.heap.size ≤ w4.heap.size) := ⟨hk4.1⟩; have d0 := (blk_cell HE4.out 0).trans (rfl : _ = some (Value.string x)); have d1 := (blk_cell HE4.out 1).trans (rfl : _ = some (Value.int .i64 0)); have d2 := (blk_cell HE4.out 2).trans (rfl : _ = some (Value.int .i64 0)); have d3 := (blk_cell HE4.out 3).trans (rfl : _ = some (Value.string ⟨#[]⟩)); have d4 := (blk_cell HE4.out 4).trans (rfl : _ = some (Value.slice none 0 0)); have d5 := (blk_cell HE4.out 5).trans (rfl : _ = some (Value.slice none 0 0)); have d6 := (blk_cell HE4.out 6).trans (rfl : _ = some (Value.slice none 0 0)); have d7 := (blk_cell HE4.out 7).trans (rfl : _ = some (Value.int .i64 0)); have d8 := (blk_cell HE4.out 8).trans (rfl : _ = some (Value.int .i64 0)); have d9 := (blk_cell HE4.out 9).trans (rfl : _ = some (Value.string ⟨#[]⟩)); have d10 := (blk_cell HE4.out 10).trans (rfl : _ = some (Value.slice none 0 0)); have d11 := (blk_cell HE4.out 11).trans (rfl : _ = some (Value.slice none 0 0)); have d12 := (blk_cell HE4.out 12).trans (rfl : _ = some (Value.slice none 0 0)); have g0 := blk_frozen HE4.out 0; have g1 := blk_frozen HE4.out 1; have g2 := blk_frozen HE4.out 2; have g3 := blk_frozen HE4.out 3; have g4 := blk_frozen HE4.out 4; have g5 := blk_frozen HE4.out 5; have g6 := blk_frozen HE4.out 6; have g7 := blk_frozen HE4.out 7; have g8 := blk_frozen HE4.out 8; have g9 := blk_frozen HE4.out 9; have g10 := blk_frozen HE4.out 10; have g11 := blk_frozen HE4.out 11; have g12 := blk_frozen HE4.out 12; clear hb4 hk4 hr4 hM hcE)
        have F := put_first HE4.out (.int .i64 t1.f0) (.int .i64 t1.f1) (.string t1.f2) (.slice P3 t1.f3.length px3) (.slice P4 t1.f4.length px4) (.slice P5 t1.f5.length px5)
        clear d0 d1 d2 d3 d4 d5 d6 d7 d8 d9 d10 d11 d12 g0 g1 g2 g3 g4 g5 g6 g7 g8 g9 g10 g11 g12
        revert F
        generalize (World.setCell _ ⟨b4, 6, none⟩ _) = W5
        rintro ⟨F1, F2, F3⟩
        have HB5 := Aside0.mk (F3 w0 HB4.out (by have := hw0p.out; have := HS1.out; omega))
        have HK5 := Aside0.mk (HK4.out.then_ F2 (fun k hk => .inr (by have := HS1.out; omega)))
        have HR5 := Aside0.mk (HR4.out.kept F2 (by have := hpw.out; have := HS1.out; omega))
        have HN5 := Aside0.mk (blk_kept HN4.out F2 (by have := HS1.out; omega))
        have HE5 := Aside0.mk F1
        have HM5 := Aside0.mk (HM4.out.kept F2 (by have := hmw.out; have := HS1.out; omega))
        have HP5 := Aside0.mk (M_stay HP4.out F2 (fun k hk => by have := HS3.out; omega))
        have HS5 : Aside0 (W3.heap.size ≤ W5.heap.size) := ⟨Nat.le_trans HS4.out F2.1⟩
        clear F1 F2 F3 HB4 HK4 HR4 HN4 HE4 HM4 HP4 HS4
        have hcw := reader_whole RP HRR.out w0 p m bs hT hpt s2 W5 HB5.out HR5.out
        rcases hq2 : wholeS nb fr fa rt bs s2 with y | ⟨t2, s3⟩
        · have hcE := RPost.er_ hq2 hcw
          have HE : Aside0 (entS nb fr fa rt bs seen s = .error y) := ⟨by rw [HX3.out, hq2]⟩
          clear hcw hq2 HX3
          go_wp2_with (go_at_call 31; refine hcE.mono ?_; rintro e w6 ⟨rfl, hb6, hk6⟩)
          rename_i hq9
          cases hq9
          simp only [bodyPost]
          exact ⟨trivial, EPost.err HE.out hb6 (HK5.out.then_ hk6 (fun _ h => .inl (.inl h)))⟩
        · have hcE := RPost.ok_ hq2 hcw
          have HX4 : Aside0 (entS nb fr fa rt bs seen s = .ok (⟨x, t1, t2⟩, s3)) := ⟨by rw [HX3.out, hq2]⟩
          clear hcw hq2 HX3
          go_upto_region 8 with (go_at_call 31; refine hcE.mono ?_; rintro e w6 ⟨hb6, hk6, hr6, v, rfl, cs, rfl, hM⟩; obtain ⟨Q3, qx3, Q4, qx4, Q5, qx5, rfl⟩ := tm_cells hM; have HB6 := Aside0.mk hb6; have HK6 := Aside0.mk (HK5.out.then_ hk6 (fun _ h => .inl (.inl h))); have HR6 := Aside0.mk hr6; have HQ6 := Aside0.mk hM; have HP6 := Aside0.mk (M_stay HP5.out hk6 (fun k hk => by have := hpw.out; have := HS3.out; have := HS1.out; omega)); have HN6 := Aside0.mk (blk_kept HN5.out hk6 (by have := hpw.out; omega)); have HE6 := Aside0.mk (blk_kept HE5.out hk6 (by have := hpw.out; have := HS1.out; omega)); have HM6 := Aside0.mk (HM5.out.kept hk6 (fun h => HPM.out h.symm)); have d0 := (blk_cell HE6.out 0).trans (rfl : _ = some (Value.string x)); have d1 := (blk_cell HE6.out 1).trans (rfl : _ = some (Value.int .i64 t1.f0)); have d2 := (blk_cell HE6.out 2).trans (rfl : _ = some (Value.int .i64 t1.f1)); have d3 := (blk_cell HE6.out 3).trans (rfl : _ = some (Value.string t1.f2)); have d4 := (blk_cell HE6.out 4).trans (rfl : _ = some (Value.slice P3 t1.f3.length px3)); have d5 := (blk_cell HE6.out 5).trans (rfl : _ = some (Value.slice P4 t1.f4.length px4)); have d6 := (blk_cell HE6.out 6).trans (rfl : _ = some (Value.slice P5 t1.f5.length px5)); have d7 := (blk_cell HE6.out 7).trans (rfl : _ = some (Value.int .i64 0)); have d8 := (blk_cell HE6.out 8).trans (rfl : _ = some (Value.int .i64 0)); have d9 := (blk_cell HE6.out 9).trans (rfl : _ = some (Value.string ⟨#[]⟩)); have d10 := (blk_cell HE6.out 10).trans (rfl : _ = some (Value.slice none 0 0)); have d11 := (blk_cell HE6.out 11).trans (rfl : _ = some (Value.slice none 0 0)); have d12 := (blk_cell HE6.out 12).trans (rfl : _ = some (Value.slice none 0 0)); have g0 := blk_frozen HE6.out 0; have g1 := blk_frozen HE6.out 1; have g2 := blk_frozen HE6.out 2; have g3 := blk_frozen HE6.out 3; have g4 := blk_frozen HE6.out 4; have g5 := blk_frozen HE6.out 5; have g6 := blk_frozen HE6.out 6; have g7 := blk_frozen HE6.out 7; have g8 := blk_frozen HE6.out 8; have g9 := blk_frozen HE6.out 9; have g10 := blk_frozen HE6.out 10; have g11 := blk_frozen HE6.out 11; have g12 := blk_frozen HE6.out 12; clear hb6 hk6 hr6 hM hcE)
          have F := put_second HE6.out (.int .i64 t2.f0) (.int .i64 t2.f1) (.string t2.f2) (.slice Q3 t2.f3.length qx3) (.slice Q4 t2.f4.length qx4) (.slice Q5 t2.f5.length qx5)
          clear d0 d1 d2 d3 d4 d5 d6 d7 d8 d9 d10 d11 d12 g0 g1 g2 g3 g4 g5 g6 g7 g8 g9 g10 g11 g12
          revert F
          generalize (World.setCell _ ⟨b4, 12, none⟩ _) = W7
          rintro ⟨F1, F2, F3⟩
          have HB7 := Aside0.mk (F3 w0 HB6.out (by have := hw0p.out; have := HS1.out; omega))
          have HK7 := Aside0.mk (HK6.out.then_ F2 (fun k hk => .inr (by have := HS1.out; omega)))
          have HR7 := Aside0.mk (HR6.out.kept F2 (by have := hpw.out; have := HS1.out; omega))
          have HN7 := Aside0.mk (blk_kept HN6.out F2 (by have := HS1.out; omega))
          have HE7 := Aside0.mk F1
          have HM7 := Aside0.mk (HM6.out.kept F2 (by have := hmw.out; have := HS1.out; omega))
          have HP7 := Aside0.mk (M_stay HP6.out F2 (fun k hk => by have := HS3.out; omega))
          have HQ7 := Aside0.mk (M_stay HQ6.out F2 (fun k hk => by have := HS3.out; have := HS5.out; omega))
          clear F1 F2 F3 HB6 HK6 HR6 HN6 HE6 HM6 HP6 HQ6
          have d0 := (blk_cell HE7.out 0).trans (rfl : _ = some (Value.string x))
          have d1 := (blk_cell HE7.out 1).trans (rfl : _ = some (Value.int .i64 t1.f0))
          have d2 := (blk_cell HE7.out 2).trans (rfl : _ = some (Value.int .i64 t1.f1))
          have d3 := (blk_cell HE7.out 3).trans (rfl : _ = some (Value.string t1.f2))
          have d4 := (blk_cell HE7.out 4).trans (rfl : _ = some (Value.slice P3 t1.f3.length px3))
          have d5 := (blk_cell HE7.out 5).trans (rfl : _ = some (Value.slice P4 t1.f4.length px4))
          have d6 := (blk_cell HE7.out 6).trans (rfl : _ = some (Value.slice P5 t1.f5.length px5))
          have d7 := (blk_cell HE7.out 7).trans (rfl : _ = some (Value.int .i64 t2.f0))
          have d8 := (blk_cell HE7.out 8).trans (rfl : _ = some (Value.int .i64 t2.f1))
          have d9 := (blk_cell HE7.out 9).trans (rfl : _ = some (Value.string t2.f2))
          have d10 := (blk_cell HE7.out 10).trans (rfl : _ = some (Value.slice Q3 t2.f3.length qx3))
          have d11 := (blk_cell HE7.out 11).trans (rfl : _ = some (Value.slice Q4 t2.f4.length qx4))
          have d12 := (blk_cell HE7.out 12).trans (rfl : _ = some (Value.slice Q5 t2.f5.length qx5))
          have z0 := (blk_cell HN7.out 0).trans (rfl : _ = some (Value.string ⟨#[]⟩))
          have z1 := (blk_cell HN7.out 1).trans (rfl : _ = some (Value.int .i64 0))
          have z2 := (blk_cell HN7.out 2).trans (rfl : _ = some (Value.int .i64 0))
          have z3 := (blk_cell HN7.out 3).trans (rfl : _ = some (Value.string ⟨#[]⟩))
          have z4 := (blk_cell HN7.out 4).trans (rfl : _ = some (Value.slice none 0 0))
          have z5 := (blk_cell HN7.out 5).trans (rfl : _ = some (Value.slice none 0 0))
          have z6 := (blk_cell HN7.out 6).trans (rfl : _ = some (Value.slice none 0 0))
          have z7 := (blk_cell HN7.out 7).trans (rfl : _ = some (Value.int .i64 0))
          have z8 := (blk_cell HN7.out 8).trans (rfl : _ = some (Value.int .i64 0))
          have z9 := (blk_cell HN7.out 9).trans (rfl : _ = some (Value.string ⟨#[]⟩))
          have z10 := (blk_cell HN7.out 10).trans (rfl : _ = some (Value.slice none 0 0))
          have z11 := (blk_cell HN7.out 11).trans (rfl : _ = some (Value.slice none 0 0))
          have z12 := (blk_cell HN7.out 12).trans (rfl : _ = some (Value.slice none 0 0))
          have g0 := blk_frozen HN7.out 0
          have g1 := blk_frozen HN7.out 1
          have g2 := blk_frozen HN7.out 2
          have g3 := blk_frozen HN7.out 3
          have g4 := blk_frozen HN7.out 4
          have g5 := blk_frozen HN7.out 5
          have g6 := blk_frozen HN7.out 6
          have g7 := blk_frozen HN7.out 7
          have g8 := blk_frozen HN7.out 8
          have g9 := blk_frozen HN7.out 9
          have g10 := blk_frozen HN7.out 10
          have g11 := blk_frozen HN7.out 11
          have g12 := blk_frozen HN7.out 12
          go_wp2
          have F := put_all HN7.out (.string x) (.int .i64 t1.f0) (.int .i64 t1.f1) (.string t1.f2) (.slice P3 t1.f3.length px3) (.slice P4 t1.f4.length px4) (.slice P5 t1.f5.length px5) (.int .i64 t2.f0) (.int .i64 t2.f1) (.string t2.f2) (.slice Q3 t2.f3.length qx3) (.slice Q4 t2.f4.length qx4) (.slice Q5 t2.f5.length qx5)
          clear d0 d1 d2 d3 d4 d5 d6 d7 d8 d9 d10 d11 d12 g0 g1 g2 g3 g4 g5 g6 g7 g8 g9 g10 g11 g12 z0 z1 z2 z3 z4 z5 z6 z7 z8 z9 z10 z11 z12
          revert F
          generalize (World.setCell _ ⟨w.heap.size, 12, none⟩ _) = W8
          rintro ⟨F1, F2, F3⟩
          refine bodyPost_ret (v := .agg #[.string x, .int .i64 t1.f0, .int .i64 t1.f1, .string t1.f2, .slice P3 t1.f3.length px3, .slice P4 t1.f4.length px4, .slice P5 t1.f5.length px5, .int .i64 t2.f0, .int .i64 t2.f1, .string t2.f2, .slice Q3 t2.f3.length qx3, .slice Q4 t2.f4.length qx4, .slice Q5 t2.f5.length qx5]) (ent_out F1) rfl ?_
          rw [HX4.out]
          refine ⟨F3 w0 HB7.out hw0p.out, HK7.out.then_ F2 (fun k hk => .inr (by omega)), HR7.out.kept F2 (by have := hpw.out; omega), HM7.out.kept F2 (by have := hmw.out; omega), _, rfl, _, rfl, ?_⟩
          have q1 := k45.M_lower (base' := w.heap.size) (by have := HS3.out; have := HS1.out; omega) (M_stay HP7.out F2 (fun k hk => by have := HS3.out; have := HS1.out; omega))
          have q2 := k45.M_lower (base' := w.heap.size) (by have := HS3.out; have := HS1.out; have := HS5.out; omega) (M_stay HQ7.out F2 (fun k hk => by have := HS3.out; have := HS1.out; have := HS5.out; omega))
          exact ⟨[.string x], _, rfl, rfl, _, _, rfl, q1, q2⟩
end Go.Proofs.YtahdjajdaggmjaaDoor.XPo
