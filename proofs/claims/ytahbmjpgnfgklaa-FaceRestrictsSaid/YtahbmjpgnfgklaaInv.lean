/-
For clause.Least's walk: what holds between two rounds of its loops, and how it is kept.
-/
import Derived.Below
import Derived.RangeFuncBox
import Derived.Deep.AppendLies
import Derived.Maps.OwnOps
import Derived.Test.YtahbmjpgnfgklaaSeen
import Derived.Test.YtahbmjpgnfgklaaNeed
import Derived.Test.YtahbmjpgnfgklaaSortD
namespace Go.Proofs.Ytahbmjpgnfgklaa
open Go.RowKit H

theorem Own.kept {w w1 : World} {base : Nat} {v : Value} {l : List C} {row : Option Nat} (h : Own w base v l) (hg : w.grownBy w1 row) (hne : v.ownBlock = none ∨ v.ownBlock ≠ row) : Own w1 base v l := ⟨h.1.kept hg hne, h.2⟩
theorem At2.kept {w w1 : World} {b : Nat} {c : C} {row : Option Nat} (h : At2 w b c) (hg : w.grownBy w1 row) (hne : some b ≠ row) : At2 w1 b c := by
  have e := hg.block b h.lt hne
  exact ⟨(World.cell?_of_block (w := w) e).trans h.1, (World.cell?_of_block (w := w) e).trans h.2⟩
theorem Own.ne_block {w : World} {base : Nat} {v : Value} {l : List C} (h : Own w base v l) {b : Nat} (hb : b < base) : some b ≠ v.ownBlock := by
  rcases h.1.2 with ⟨rfl, _⟩ | ⟨g, cap, cur, rfl, hg, _⟩
  · simp [Value.ownBlock]
  · simp [Value.ownBlock]; omega

/-- Between two rounds of the first loop: the map tells the clauses seen, the slice in the captured variable holds them. -/
structure Inv1 (w0 w : World) (l : List C) (j : Nat) : Prop where
  seen : ∃ n, n ≤ j ∧ Seen w w0.heap.size n (dd (l.take j))
  out : ∃ vo, Boxed w (w0.heap.size + 1) 30 vo ∧ Own w (w0.heap.size + 2) vo (dd (l.take j))
  bel : Below w0.heap.size w0 w
  size : w0.heap.size + 2 ≤ w.heap.size
theorem Inv1.below {w0 w w1 : World} {l : List C} {j : Nat} (h : Inv1 w0 w l j) (hb : Below w.heap.size w w1) : Inv1 w0 w1 l j := by
  obtain ⟨⟨n, hn, hs⟩, ⟨vo, hbx, ho⟩, hbel, hsz⟩ := h
  have hbl := hb.size
  exact ⟨⟨n, hn, hs.below hb⟩, ⟨vo, (hb.block _ hbx.lt).trans hbx, ho.below hb⟩, below_then hbel (by omega) hb, by omega⟩
theorem Inv1.start (w : World) (l : List C) : Inv1 w ((w.alloc (.map #[] 0)).alloc (.cells #[.slice none 0 0] 30)) l 0 := by
  have hb1 : Below w.heap.size w (w.alloc (.map #[] 0)) := (Below.refl _ _).alloc (Nat.le_refl _) _
  have hb2 : Below (w.alloc (.map #[] 0)).heap.size (w.alloc (.map #[] 0)) ((w.alloc (.map #[] 0)).alloc (.cells #[.slice none 0 0] 30)) := (Below.refl _ _).alloc (Nat.le_refl _) _
  have bx := Boxed.new (w.alloc (.map #[] 0)) 30 (.slice none 0 0)
  rw [World.size_alloc] at bx
  exact ⟨⟨0, Nat.le_refl _, (Seen.made w).below hb2⟩, ⟨_, bx, Own.nil _ _⟩, below_then hb1 (by simp) hb2, by simp⟩
theorem Inv1.boxed {w0 w w2 : World} {l : List C} {j : Nat} (h : Inv1 w0 w l j) {c : C}
    (hb : Below (w.alloc (.cells #[.int .u32 (un c.1), .int .u32 (un c.2)] 24)).heap.size (w.alloc (.cells #[.int .u32 (un c.1), .int .u32 (un c.2)] 24)) w2) : At2 w2 w.heap.size c ∧ Inv1 w0 w2 l j ∧ w.heap.size < w2.heap.size := by
  have h1 : Below w.heap.size w (w.alloc (.cells #[.int .u32 (un c.1), .int .u32 (un c.2)] 24)) := (Below.refl _ _).alloc (Nat.le_refl _) _
  have h2 : At2 (w.alloc (.cells #[.int .u32 (un c.1), .int .u32 (un c.2)] 24)) w.heap.size c := ⟨World.cell?_alloc_new .., World.cell?_alloc_new ..⟩
  have := hb.size
  exact ⟨h2.below hb, h.below (below_then h1 (by simp) hb), by simp at this; omega⟩
theorem Inv1.look {w0 w : World} {l : List C} {j : Nat} (h : Inv1 w0 w l j) (c : C) : (Instr.lookup 63 (.map (some w0.heap.size)) (.agg #[.int .u32 (un c.1), .int .u32 (un c.2)]) false).run Try.prog w = .ok (.bool (decide (c ∈ dd (l.take j)))) w := by
  obtain ⟨⟨n, _, hs⟩, _⟩ := h
  exact hs.look c
theorem Inv1.skip {w0 w : World} {l : List C} {j : Nat} (h : Inv1 w0 w l j) (hj : j < l.length) (hm : l[j] ∈ dd (l.take j)) : Inv1 w0 w l (j + 1) := by
  obtain ⟨⟨n, hn, hs⟩, ⟨vo, hbx, ho⟩, hbel, hsz⟩ := h
  have e : dd (l.take (j + 1)) = dd (l.take j) := by rw [dd_take_succ l j hj, if_pos hm]
  exact ⟨⟨n, by omega, by rw [e]; exact hs⟩, ⟨vo, hbx, by rw [e]; exact ho⟩, hbel, hsz⟩
/-- The new clause is put into the map, then behind the slice: first the map. -/
theorem Inv1.put {w0 w : World} {l : List C} {j b : Nat} (h : Inv1 w0 w l j) (hj : j < 1000000) {c : C} (hA : At2 w b c) (hb : w0.heap.size + 2 ≤ b) :
    ∃ w3 n vo, (Instr.mapUpdate 63 (.map (some w0.heap.size)) (.agg #[.int .u32 (un c.1), .int .u32 (un c.2)]) (.bool true)).run Try.prog w = .ok () w3 ∧ n ≤ j + 1 ∧ Seen w3 w0.heap.size n (dd (l.take j) ++ [c]) ∧
      Boxed w3 (w0.heap.size + 1) 30 vo ∧ Own w3 (w0.heap.size + 2) vo (dd (l.take j)) ∧ At2 w3 b c ∧ Below w0.heap.size w0 w3 ∧ w0.heap.size + 2 ≤ w3.heap.size := by
  obtain ⟨⟨n, hn, hs⟩, ⟨vo, hbx, ho⟩, hbel, hsz⟩ := h
  obtain ⟨w3, hrun, hs3, hg⟩ := hs.put (by unfold maxLen; omega) c
  have hsz3 := hg.size
  refine ⟨w3, n + 1, vo, hrun, by omega, hs3, hbx.kept hg (by simp), ho.kept hg (.inr (ho.ne_block (by omega)).symm), hA.kept hg (by simp; omega), hbel.trans ?_, by omega⟩
  exact ⟨hg.os, hg.tape, hg.output, hg.size, fun k hk => hg.block k (by omega) (by simp; omega)⟩
theorem infoC : ∃ i, Try.prog.info? 24 = some i ∧ i.zero = some (.agg #[.int .u32 0, .int .u32 0]) ∧ i.size = 2 ∧ i.bytes = 8 := by
  have h : (Try.prog.info? 24).map (fun i => (i.zero, i.size, i.bytes)) = some (some (.agg #[.int .u32 0, .int .u32 0]), 2, 8) := by kernel_rfl
  obtain ⟨i, hi, he⟩ := Option.map_eq_some_iff.1 h
  simp only [Prod.mk.injEq] at he
  exact ⟨i, hi, he.1, he.2.1, he.2.2⟩
theorem Inv1.next {w0 w3 w4 : World} {l : List C} {j n : Nat} {vo v' : Value} {tmp : Obj} (hj : j < l.length) (hm : l[j] ∉ dd (l.take j)) (hlen : l.length ≤ 1000000) (hn : n ≤ j + 1) (hs : Seen w3 w0.heap.size n (dd (l.take j) ++ [l[j]]))
    (hbx : Boxed w3 (w0.heap.size + 1) 30 vo) (ho : Own w3 (w0.heap.size + 2) vo (dd (l.take j))) (hbel : Below w0.heap.size w0 w3) (hsz : w0.heap.size + 2 ≤ w3.heap.size)
    (hown : w4.ownsRow (w0.heap.size + 2) 24 2 v' ((dd (l.take j)).length + 1) (flat (dd (l.take j)) ++ [.int .u32 (un l[j].1), .int .u32 (un l[j].2)])) (hg : (w3.alloc tmp).grownBy w4 vo.ownBlock) :
    Boxed w4 (w0.heap.size + 1) 30 vo ∧ Inv1 w0 (w4.setCell ⟨w0.heap.size + 1, 0, none⟩ v') l (j + 1) := by
  have e : dd (l.take (j + 1)) = dd (l.take j) ++ [l[j]] := by rw [dd_take_succ l j hj, if_neg hm]
  have hle : (dd (l.take j)).length ≤ j := Nat.le_trans (length_dd _) (by rw [List.length_take]; omega)
  have hne : some (w0.heap.size + 1) ≠ vo.ownBlock := ho.ne_block (by omega)
  have hne0 : some w0.heap.size ≠ vo.ownBlock := ho.ne_block (by omega)
  have hbx4 : Boxed w4 (w0.heap.size + 1) 30 vo := (hbx.alloc tmp).kept hg hne
  have hs3 : Seen w4 w0.heap.size n (dd (l.take j) ++ [l[j]]) := by
    obtain ⟨D, h1, h2, h3⟩ := hs
    exact ⟨D, (h1.alloc tmp).kept hg hne0, h2, h3⟩
  have hgs := grownBy_setCell' w4 (w0.heap.size + 1) v'
  have hs5 : Seen (w4.setCell ⟨w0.heap.size + 1, 0, none⟩ v') w0.heap.size n (dd (l.take j) ++ [l[j]]) := by
    obtain ⟨D, h1, h2, h3⟩ := hs3
    exact ⟨D, h1.kept hgs (by simp), h2, h3⟩
  have hown4 : Own w4 (w0.heap.size + 2) v' (dd (l.take j) ++ [l[j]]) := ⟨by rw [List.length_append, List.length_singleton, flat_snoc]; exact hown, by rw [List.length_append, List.length_singleton]; omega⟩
  have hb4 := hg.size
  rw [World.size_alloc] at hb4
  have hb5 := hgs.size
  refine ⟨hbx4, ⟨n, hn, by rw [e]; exact hs5⟩, ⟨v', hbx4.set v', by rw [e]; exact hown4.kept hgs (.inr (hown4.ne_block (by omega)).symm)⟩, ?_, by omega⟩
  have b1 : Below w0.heap.size w3 (w3.alloc tmp) := (Below.refl _ _).alloc (by omega) _
  have b2 : Below w0.heap.size (w3.alloc tmp) w4 := ⟨hg.os, hg.tape, hg.output, hg.size, fun k hk => hg.block k (by simp; omega) (ho.ne_block (by omega))⟩
  have b3 : Below w0.heap.size w4 (w4.setCell ⟨w0.heap.size + 1, 0, none⟩ v') := ⟨hgs.os, hgs.tape, hgs.output, hgs.size, fun k hk => hgs.block k (by omega) (by simp; omega)⟩
  exact ((hbel.trans b1).trans b2).trans b3
theorem cells2_new (w : World) (x y : Value) (t : TypeId) : ∀ (j : Nat) (u : Value), ([x, y] : List Value)[j]? = some u → (w.alloc (.cells #[x, y] t)).cell? ((⟨w.heap.size, 0, none⟩ : Addr).add j) = some u := by
  intro j u h
  match j, h with
  | 0, h => cases h; exact World.cell?_alloc_new ..
  | 1, h => cases h; exact World.cell?_alloc_new ..
  | j + 2, h => simp at h
theorem any_predC (l : List C) (c : C) : l.any (predC c) = needless l c := by
  unfold needless predC
  congr 1
  funext d
  by_cases h : c = d <;> simp [h]

/-- Between two rounds of the second loop: the slice holds those of the first j that are needed. -/
def kept2 (D : List C) (j : Nat) : List C := (D.take j).filter fun c => !needless D c
theorem kept2_length (D : List C) (j : Nat) : (kept2 D j).length ≤ D.length := Nat.le_trans (List.length_filter_le _ _) (by rw [List.length_take]; omega)
theorem kept2_all (D : List C) {j : Nat} (h : D.length ≤ j) : kept2 D j = D.filter fun c => !needless D c := by
  unfold kept2
  rw [List.take_of_length_le h]
theorem kept2_skip {D : List C} {j : Nat} (hj : j < D.length) (h : needless D D[j] = true) : kept2 D (j + 1) = kept2 D j := by
  unfold kept2
  rw [List.take_succ_eq_append_getElem hj, List.filter_append]
  simp [h]
theorem kept2_put {D : List C} {j : Nat} (hj : j < D.length) (h : needless D D[j] = false) : kept2 D (j + 1) = kept2 D j ++ [D[j]] := by
  unfold kept2
  rw [List.take_succ_eq_append_getElem hj, List.filter_append]
  simp [h]
structure Inv2 (w1 w : World) (v : Value) (D : List C) (j : Nat) : Prop where
  own : Own w w1.heap.size v (kept2 D j)
  bel : Below w1.heap.size w1 w
theorem Inv2.start (w1 : World) (D : List C) : Inv2 w1 w1 (.slice none 0 0) D 0 := ⟨Own.nil _ _, Below.refl _ _⟩
theorem Inv2.boxed {w1 w w2 : World} {v : Value} {D : List C} {j : Nat} (h : Inv2 w1 w v D j) {c : C}
    (hb : Below (w.alloc (.cells #[.int .u32 (un c.1), .int .u32 (un c.2)] 24)).heap.size (w.alloc (.cells #[.int .u32 (un c.1), .int .u32 (un c.2)] 24)) w2) : At2 w2 w.heap.size c ∧ Inv2 w1 w2 v D j := by
  have h1 : Below w.heap.size w (w.alloc (.cells #[.int .u32 (un c.1), .int .u32 (un c.2)] 24)) := (Below.refl _ _).alloc (Nat.le_refl _) _
  have h2 : At2 (w.alloc (.cells #[.int .u32 (un c.1), .int .u32 (un c.2)] 24)) w.heap.size c := ⟨World.cell?_alloc_new .., World.cell?_alloc_new ..⟩
  have h3 : Below w.heap.size w w2 := below_then h1 (by simp) hb
  exact ⟨h2.below hb, h.own.below h3, below_then h.bel h.bel.size h3⟩
theorem Inv2.skip {w1 w : World} {v : Value} {D : List C} {j : Nat} (h : Inv2 w1 w v D j) (hj : j < D.length) (hn : needless D D[j] = true) : Inv2 w1 w v D (j + 1) := ⟨by rw [kept2_skip hj hn]; exact h.own, h.bel⟩
theorem Inv2.next {w1 w3 w4 : World} {D : List C} {j : Nat} {vo v' : Value} {tmp : Obj} (h : Inv2 w1 w3 vo D j) (hlen : D.length ≤ 1000000) (hj : j < D.length) (hn : needless D D[j] = false)
    (hown : w4.ownsRow w1.heap.size 24 2 v' ((kept2 D j).length + 1) (flat (kept2 D j) ++ [.int .u32 (un D[j].1), .int .u32 (un D[j].2)])) (hg : (w3.alloc tmp).grownBy w4 vo.ownBlock) : Inv2 w1 w4 v' D (j + 1) := by
  have hl := kept2_length D j
  have hsz := h.bel.size
  have b1 : Below w1.heap.size w3 (w3.alloc tmp) := (Below.refl _ _).alloc hsz _
  have b2 : Below w1.heap.size (w3.alloc tmp) w4 := ⟨hg.os, hg.tape, hg.output, hg.size, fun k hk => hg.block k (by simp; omega) (h.own.ne_block hk)⟩
  refine ⟨?_, (h.bel.trans b1).trans b2⟩
  rw [kept2_put hj hn]
  exact ⟨by rw [List.length_append, List.length_singleton, flat_snoc]; exact hown, by rw [List.length_append, List.length_singleton]; omega⟩
theorem Inv2.need (S : Small) {w1 w : World} {v : Value} {D : List C} {j bo c0 : Nat} {A : Option Addr} (h : Inv2 w1 w v D j) (hbx : Boxed w1 bo 30 (.slice A D.length c0)) (hRd : Rd w1 A D) (c : C) :
    Calls Try.prog 46 #[.agg #[.int .u32 (un c.1), .int .u32 (un c.2)], .pointer (some ⟨bo, 0, none⟩)] (w.alloc (.cells #[.int .u32 (un c.1), .int .u32 (un c.2)] 24)) fun e w' =>
      e = .returned (.bool (needless D c)) ∧ Below (w.alloc (.cells #[.int .u32 (un c.1), .int .u32 (un c.2)] 24)).heap.size (w.alloc (.cells #[.int .u32 (un c.1), .int .u32 (un c.2)] 24)) w' := by
  have h1 : Below w.heap.size w (w.alloc (.cells #[.int .u32 (un c.1), .int .u32 (un c.2)] 24)) := (Below.refl _ _).alloc (Nat.le_refl _) _
  have h2 := below_then h.bel h.bel.size h1
  have hbx2 : Boxed (w.alloc (.cells #[.int .u32 (un c.1), .int .u32 (un c.2)] 24)) bo 30 (.slice A D.length c0) := (h2.block _ hbx.lt).trans hbx
  have := least_needless S c bo c0 A D _ hbx2.cell (hRd.below h2)
  rw [any_predC] at this
  exact this
end Go.Proofs.Ytahbmjpgnfgklaa
