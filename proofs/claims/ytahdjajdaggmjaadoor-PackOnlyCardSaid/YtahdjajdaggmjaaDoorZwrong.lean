/-
Walk: pack.wrong.
-/
import Derived.Maps.OwnSet
import Derived.Maps.Views
import Derived.StringKeys
import Derived.Test.YtahdjajdaggmjaaDoorZall
import Derived.Test.YtahdjajdaggmjaaDoorUtab
set_option linter.unusedVariables false
set_option linter.unusedSimpArgs false
namespace Go.Proofs.YtahdjajdaggmjaaDoor.XPo
open Go.RowKit Go.Proofs.YtahdjajdaggmjaaDoorW.PrintWords Go.Proofs.YtahdjajdaggmjaaDoorW.PrintLast Go.Proofs.YtahdjajdaggmjaaDoorW.PrintMore

abbrev En := S54
theorem rd_T54_at {xs : List S54} {j : Nat} (h : j < xs.length) : rd_T54 xs ((j : Nat) : Int) = xs[j] := by
  unfold rd_T54
  rw [Int.toNat_natCast, List.getD_eq_getElem?_getD, List.getElem?_eq_getElem h]
  rfl
theorem at_en {w : World} {A : Option Addr} {xs : List S54} (h : Kd.C k54 w A xs.length xs) (j : Nat) (hj : j < xs.length) : ∃ ad A3 c3 A4 c4 A5 c5 B3 d3 B4 d4 B5 d5, A = some ad ∧ w.cell? (ad.add (j * 13)) = some (.string xs[j].f0) ∧ w.cell? ⟨(ad.add (j * 13)).block, (ad.add (j * 13)).off + 1, none⟩ = some (.int .i64 xs[j].f1.f0) ∧ w.cell? ⟨(ad.add (j * 13)).block, (ad.add (j * 13)).off + 2, none⟩ = some (.int .i64 xs[j].f1.f1) ∧ w.cell? ⟨(ad.add (j * 13)).block, (ad.add (j * 13)).off + 3, none⟩ = some (.string xs[j].f1.f2) ∧ w.cell? ⟨(ad.add (j * 13)).block, (ad.add (j * 13)).off + 4, none⟩ = some (.slice A3 xs[j].f1.f3.length c3) ∧ w.cell? ⟨(ad.add (j * 13)).block, (ad.add (j * 13)).off + 5, none⟩ = some (.slice A4 xs[j].f1.f4.length c4) ∧ w.cell? ⟨(ad.add (j * 13)).block, (ad.add (j * 13)).off + 6, none⟩ = some (.slice A5 xs[j].f1.f5.length c5) ∧ w.cell? ⟨(ad.add (j * 13)).block, (ad.add (j * 13)).off + 7, none⟩ = some (.int .i64 xs[j].f2.f0) ∧ w.cell? ⟨(ad.add (j * 13)).block, (ad.add (j * 13)).off + 8, none⟩ = some (.int .i64 xs[j].f2.f1) ∧ w.cell? ⟨(ad.add (j * 13)).block, (ad.add (j * 13)).off + 9, none⟩ = some (.string xs[j].f2.f2) ∧ w.cell? ⟨(ad.add (j * 13)).block, (ad.add (j * 13)).off + 10, none⟩ = some (.slice B3 xs[j].f2.f3.length d3) ∧ w.cell? ⟨(ad.add (j * 13)).block, (ad.add (j * 13)).off + 11, none⟩ = some (.slice B4 xs[j].f2.f4.length d4) ∧ w.cell? ⟨(ad.add (j * 13)).block, (ad.add (j * 13)).off + 12, none⟩ = some (.slice B5 xs[j].f2.f5.length d5) ∧
    k45.K w xs[j].f1 [.int .i64 xs[j].f1.f0, .int .i64 xs[j].f1.f1, .string xs[j].f1.f2, .slice A3 xs[j].f1.f3.length c3, .slice A4 xs[j].f1.f4.length c4, .slice A5 xs[j].f1.f5.length c5] ∧ k45.K w xs[j].f2 [.int .i64 xs[j].f2.f0, .int .i64 xs[j].f2.f1, .string xs[j].f2.f2, .slice B3 xs[j].f2.f3.length d3, .slice B4 xs[j].f2.f4.length d4, .slice B5 xs[j].f2.f5.length d5] := by
  obtain ⟨ad, A3, c3, A4, c4, A5, c5, B3, d3, B4, d4, B5, d5, e, h0, h1, h2, h3, h4, h5, h6, h7, h8, h9, h10, h11, h12, l3, g3, l4, g4, l5, g5, m3, q3, m4, q4, m5, q5⟩ := at_T54 h (j : Int) (by omega) (by omega)
  rw [rd_T54_at hj] at h0 h1 h2 h3 h4 h5 h6 h7 h8 h9 h10 h11 h12 l3 g3 l4 g4 l5 g5 m3 q3 m4 q4 m5 q5
  rw [Int.toNat_natCast] at h0 h1 h2 h3 h4 h5 h6 h7 h8 h9 h10 h11 h12
  exact ⟨ad, A3, c3, A4, c4, A5, c5, B3, d3, B4, d4, B5, d5, e, h0, h1, h2, h3, h4, h5, h6, h7, h8, h9, h10, h11, h12, k45_mk w xs[j].f1 l3 g3 l4 g4 l5 g5, k45_mk w xs[j].f2 m3 q3 m4 q4 m5 q5⟩
/-- Is a text one of them? -/
def memB (s : ByteArray) (l : List ByteArray) : Bool := l.any fun q => q.data.toList == s.data.toList
theorem memB_cons (s q : ByteArray) (l : List ByteArray) : memB s (q :: l) = (q.data.toList == s.data.toList || memB s l) := rfl
theorem plainElem_bool_inv {P : Program} {e : TypeId} (he : P.underlying e = some .bool) {v : Value} {z : DataW Unit × List MemPlace} (h : plainElem P e v = some z) : ∃ a, v = .bool a ∧ z = (.lit (.bool a), []) := by
  unfold plainElem at h
  rw [he] at h
  cases v <;> simp at h
  obtain rfl := h
  exact ⟨_, rfl, rfl⟩
/-- Block b is a map in which just these texts stand. -/
def MSt (w : World) (b : Nat) (seen : List ByteArray) : Prop :=
  ∃ D : DataW Unit, w.ownsMap Tryd.prog 9 (plainElem Tryd.prog 4) b seen.length D ∧ ∀ s : ByteArray, D.atKey (.string s.data.toList) (.lit (.bool false)) = .lit (.bool (memB s seen))
theorem MSt.below {w w1 : World} {b : Nat} {seen : List ByteArray} (h : MSt w b seen) (hb : Below w.heap.size w w1) : MSt w1 b seen := by
  obtain ⟨D, ⟨es, clock, hh, r⟩, hD⟩ := h
  exact ⟨D, ⟨es, clock, blk_below hh hb, r⟩, hD⟩
theorem MSt.made (w : World) : MSt (w.alloc (.map #[] 0)) w.heap.size [] := ⟨.map [], World.ownsMap_made _ _ _ _, fun s => by simp [DataW.atKey, memB]⟩
theorem MSt.lt {w : World} {b : Nat} {seen : List ByteArray} (h : MSt w b seen) : b < w.heap.size := by
  obtain ⟨D, h, _⟩ := h
  exact h.lt
section
variable {ops : Array Oper} {rest : List Oper} {o : Oper} {a : Act} {Q : Exit → Act → World → Prop}
theorem zero_bool (w : World) : (zeroValue 4).run Tryd.prog w = .ok (.bool false) w := by kernel_rfl
/-- Does the text stand there? -/
theorem MSt.run {w : World} {b : Nat} {seen : List ByteArray} (h : MSt w b seen) (s : ByteArray) (hs : s.size ≤ 1000000) : (Instr.lookup 64 (.map (some b)) (.string s) false).run Tryd.prog w = .ok (.bool (memB s seen)) w := by
  obtain ⟨D, ho, hD⟩ := h
  obtain ⟨v, ps, hrun, hv⟩ := ho.lookup (Maps.string_keyed Tryd.underlying9) Tryd.underlying64 (zero_bool w) (plainElem_bool Tryd.underlying4 false) (WideMaps.keyOf_string_mk (s := s) Tryd.underlying9 (by simp only [maxLen]; omega))
  rw [hD s] at hv
  obtain ⟨x, rfl, hx⟩ := plainElem_bool_inv Tryd.underlying4 hv
  have h1 : memB s seen = x := Lit.bool.inj (DataW.lit.inj (Prod.mk.inj hx).1)
  rw [h1]
  exact hrun
theorem MSt.store {w : World} {b : Nat} {seen : List ByteArray} (hg : o.guard = none) (m x v : Operand) (hop : o.op = Op.mapUpdate 64 m x v) (s : ByteArray) (hs : s.size ≤ 1000000) (hl : seen.length ≤ 1000000)
    (hm : a.eval m = .map (some b)) (hx : a.eval x = .string s) (hv : a.eval v = .bool true) (h : MSt w b seen)
    (hK : ∀ w', MSt w' b (s :: seen) → w.grownBy w' (some b) → wpList Tryd.prog ops Q rest (a.put o.dst undef) w') : wpList Tryd.prog ops Q (o :: rest) a w := by
  obtain ⟨D, ho, hD⟩ := h
  have hIM := ho.isMap
  refine wpList_mapUpdate_own w hg m x v 64 hop 9 4 (Maps.string_keyed Tryd.underlying9) Tryd.underlying64 (plainElem Tryd.prog 4) b seen.length D hm ho (by simp only [maxLen]; omega) (.string s) (.bool true) (.string s.data.toList) hx hv (WideMaps.keyOf_string_mk (s := s) Tryd.underlying9 (by simp only [maxLen]; omega)) (.lit (.bool true)) [] (plainElem_bool Tryd.underlying4 true) ?_
  intro w' h1 h2
  refine hK w' ⟨_, h1, fun q => ?_⟩ h2
  by_cases e : q = s
  · subst e
    rw [Maps.atKey_put_same (k := .string q.data.toList) hIM trivial, memB_cons, BEq.rfl, Bool.true_or]
  · have hne : (s.data.toList == q.data.toList) = false := by
      rw [beq_eq_false_iff_ne]
      exact fun h => e (WideShapes.bytes_inj h.symm)
    rw [Maps.atKey_put_other (fun h => e (WideShapes.bytes_inj (Lit.string.inj h))), hD q, memB_cons, hne, Bool.false_or]
end
/-- Is one of the names none, or there twice? -/
def namesBad (nb : ByteArray → Bool) : List En → List ByteArray → Bool
  | [], _ => false
  | x :: r, seen => if nb x.f0 = false then true else if memB x.f0 seen = true then true else namesBad nb r (x.f0 :: seen)
def wrongI (nb : ByteArray → Bool) (rt : Tm → Int) (l : List En) : Int :=
  if namesBad nb l [] = true then 61 else if l.any (fun x => decide (rt x.f1 ≠ 0) || decide (rt x.f2 ≠ 0)) = true then 100 else 0
/-- What entries are asked with. -/
def okE (PN : ByteArray → Prop) (PT : Tm → Prop) (x : En) : Prop := x.f0.size ≤ 1000000 ∧ PN x.f0 ∧ PT x.f1 ∧ PT x.f2
structure WrongP (PN : ByteArray → Prop) (PT : Tm → Prop) (nb : ByteArray → Bool) (rt : Tm → Int) : Prop where
  named : ∀ (s : ByteArray) (w : World), Tab w → PN s → Calls Tryd.prog 26 #[.string s] w fun e w' => e = .returned (.bool (nb s)) ∧ Below w.heap.size w w'
  right : ∀ (t : Tm) (cs : List Value) (w : World), k45.K w t cs → PT t → Calls Tryd.prog 27 #[.agg cs.toArray, .int .i64 0, .int .i64 0] w fun e w' => e = .returned (.int .i64 (rt t)) ∧ Below w.heap.size w w'
theorem below_mapset {w0 w w1 : World} {b : Nat} (hb : Below w0.heap.size w0 w) (hl : w0.heap.size ≤ b) (hg : w.grownBy w1 (some b)) : Below w0.heap.size w0 w1 := hb.grown hg hb.size (fun k hk => by injection hk with hk; omega)
set_option maxHeartbeats 4000000 in
set_option maxRecDepth 100000 in
theorem pack_wrong {PN : ByteArray → Prop} {PT : Tm → Prop} {nb : ByteArray → Bool} {rt : Tm → Int} (WP : WrongP PN PT nb rt) (A : Option Addr) (cap : Nat) (l : List En) (w : World) (hT : Tab w) (hC : Kd.C k54 w A l.length l) (hl : l.length ≤ 1000) (ho : ∀ x ∈ l, okE PN PT x) :
    Calls Tryd.prog 15 #[.slice A l.length cap] w fun e w' => e = .returned (.int .i64 (wrongI nb rt l)) ∧ Below w.heap.size w w' := by
  have HP := Aside0.mk WP
  have HT := Aside0.mk hT
  have HC := Aside0.mk hC
  have HO := Aside0.mk ho
  have hmm := @run_makeMap Tryd.prog
  have HB0 := Aside0.mk (below_alloc (Below.refl w.heap.size w) (.map #[] 0))
  have HM0 := Aside0.mk (MSt.made w)
  clear WP hT hC ho
  go_enter Tryd.func15, Tryd.ntmps15
  go_wp2
  have HGE : Aside0 (w.heap.size ≤ w.heap.size) := ⟨Nat.le_refl _⟩
  go_loopg [11] (l.length + 1) (fun kq v11 wx => ∃ (j : Nat) (seen : List ByteArray), v11 = .int .i64 (j : Int) ∧ j ≤ l.length ∧ kq + j = l.length + 1 ∧ seen.length = j ∧ Aside0 (namesBad nb l [] = namesBad nb (l.drop j) seen) ∧ Aside0 (Below w.heap.size w wx) ∧ Aside0 (MSt wx w.heap.size seen))
  case atStart => exact ⟨0, [], rfl, Nat.zero_le _, rfl, rfl, ⟨rfl⟩, HB0, HM0⟩
  case round =>
    clear HB0 HM0
    obtain ⟨j, seen, rfl, hj, hk, hsl, HE, HB, HM⟩ := hrel
    have HSL := Aside0.mk hsl
    clear hsl
    by_cases hlt : j < l.length
    · have hd : decide ((j : Int) < (l.length : Int)) = true := decide_eq_true (by omega)
      obtain ⟨ad, A3, c3, A4, c4, A5, c5, B3, d3, B4, d4, B5, d5, e, h0, h1, h2, h3, h4, h5, h6, h7, h8, h9, h10, h11, h12, hk1, hk2⟩ := at_en HC.out j hlt
      cases e
      have hmem : l[j] ∈ l := List.getElem_mem _
      have hdr := List.drop_eq_getElem_cons hlt
      obtain ⟨x, hx⟩ : ∃ x, l[j] = x := ⟨_, rfl⟩
      rw [hx] at h0 h1 h2 h3 h4 h5 h6 h7 h8 h9 h10 h11 h12 hmem hdr
      replace h0 := pw_cell_below HB.out h0
      replace h1 := pw_cell_below HB.out h1
      replace h2 := pw_cell_below HB.out h2
      replace h3 := pw_cell_below HB.out h3
      replace h4 := pw_cell_below HB.out h4
      replace h5 := pw_cell_below HB.out h5
      replace h6 := pw_cell_below HB.out h6
      replace h7 := pw_cell_below HB.out h7
      replace h8 := pw_cell_below HB.out h8
      replace h9 := pw_cell_below HB.out h9
      replace h10 := pw_cell_below HB.out h10
      replace h11 := pw_cell_below HB.out h11
      replace h12 := pw_cell_below HB.out h12
      have HOX := Aside0.mk (HO.out x hmem)
      have hE := HE.out
      rw [hdr, namesBad] at hE
      have HEE := Aside0.mk hE
      have HBA := Aside0.mk (HB.out.alloc HB.out.size (.cells #[.string x.f0, .int .i64 x.f1.f0, .int .i64 x.f1.f1, .string x.f1.f2, .slice A3 x.f1.f3.length c3, .slice A4 x.f1.f4.length c4, .slice A5 x.f1.f5.length c5, .int .i64 x.f2.f0, .int .i64 x.f2.f1, .string x.f2.f2, .slice B3 x.f2.f3.length d3, .slice B4 x.f2.f4.length d4, .slice B5 x.f2.f5.length d5] 54))
      have HMA := Aside0.mk (HM.out.below (below_alloc (Below.refl _ _) (.cells #[.string x.f0, .int .i64 x.f1.f0, .int .i64 x.f1.f1, .string x.f1.f2, .slice A3 x.f1.f3.length c3, .slice A4 x.f1.f4.length c4, .slice A5 x.f1.f5.length c5, .int .i64 x.f2.f0, .int .i64 x.f2.f1, .string x.f2.f2, .slice B3 x.f2.f3.length d3, .slice B4 x.f2.f4.length d4, .slice B5 x.f2.f5.length d5] 54)))
      have HNA := Aside0.mk (blk_new wr (.cells #[.string x.f0, .int .i64 x.f1.f0, .int .i64 x.f1.f1, .string x.f1.f2, .slice A3 x.f1.f3.length c3, .slice A4 x.f1.f4.length c4, .slice A5 x.f1.f5.length c5, .int .i64 x.f2.f0, .int .i64 x.f2.f1, .string x.f2.f2, .slice B3 x.f2.f3.length d3, .slice B4 x.f2.f4.length d4, .slice B5 x.f2.f5.length d5] 54))
      have hcn := HP.out.named x.f0 _ (HT.out.below HBA.out) HOX.out.2.1
      clear hE HE hdr hx hmem hk1 hk2 HB HM
      cases hnb : nb x.f0
      · have HR : Aside0 (wrongI nb rt l = 61) := ⟨by rw [wrongI, HEE.out, if_pos hnb, if_pos rfl]⟩
        rw [hnb] at hcn
        clear hnb
        go_wp2_with (go_at_call 26; refine hcn.mono ?_; rintro e w2 ⟨rfl, hb2⟩; have HB2 := Aside0.mk (below_step HBA.out hb2); clear hb2 hcn)
        go_ret
        exact ⟨by rw [HR.out]; rfl, HB2.out⟩
      · have HE2 : Aside0 (namesBad nb l [] = if memB x.f0 seen = true then true else namesBad nb (l.drop (j + 1)) (x.f0 :: seen)) := ⟨by rw [HEE.out, if_neg (by rw [hnb]; decide)]⟩
        rw [hnb] at hcn
        clear hnb
        by_cases hin : memB x.f0 seen = true
        · have HR : Aside0 (wrongI nb rt l = 61) := ⟨by rw [wrongI, HE2.out, if_pos hin, if_pos rfl]⟩
          have HIN := Aside0.mk hin
          clear hin
          go_wp2_with (go_at_call 26; refine hcn.mono ?_; rintro e w2 ⟨rfl, hb2⟩; have HB2 := Aside0.mk (below_step HBA.out hb2); have hlk := (HMA.out.below hb2).run x.f0 HOX.out.1; rw [HIN.out] at hlk; have hz := (blk_cell (blk_below HNA.out hb2) 0).trans (rfl : _ = some (Value.string x.f0)); clear hb2 hcn)
          go_ret
          exact ⟨by rw [HR.out]; rfl, HB2.out⟩
        · have HE3 : Aside0 (namesBad nb l [] = namesBad nb (l.drop (j + 1)) (x.f0 :: seen)) := ⟨by rw [HE2.out, if_neg hin]⟩
          have HIN := Aside0.mk hin
          clear hin HE2 HEE
          go_wp2_with (first
            | (go_at_call 26; refine hcn.mono ?_; rintro e w2 ⟨rfl, hb2⟩; have HB2 := Aside0.mk (below_step HBA.out hb2); have HM2 := Aside0.mk (HMA.out.below hb2); have hlk := HM2.out.run x.f0 HOX.out.1; rw [Bool.eq_false_iff.2 HIN.out] at hlk; have hz := (blk_cell (blk_below HNA.out hb2) 0).trans (rfl : _ = some (Value.string x.f0)); clear hb2 hcn)
            | (at_mapUpdate; refine MSt.store rfl _ _ _ rfl x.f0 HOX.out.1 (by rw [HSL.out]; omega) rfl rfl rfl HM2.out ?_; intro w3 hm3 hg3; have HM3 := Aside0.mk hm3; have HB3 := Aside0.mk (below_mapset HB2.out HGE.out hg3); clear hm3 hg3))
          go_roundg (gk - 1)
          case measure => omega
          case rel => exact ⟨j + 1, x.f0 :: seen, rfl, by omega, by omega, by rw [List.length_cons, HSL.out], HE3, HB3, HM3⟩
    · have hd : decide ((j : Int) < (l.length : Int)) = false := decide_eq_false (by omega)
      have HN : Aside0 (namesBad nb l [] = false) := ⟨by rw [HE.out, List.drop_eq_nil_of_le (by omega), namesBad]⟩
      have HW : Aside0 (wrongI nb rt l = if l.any (fun x => decide (rt x.f1 ≠ 0) || decide (rt x.f2 ≠ 0)) = true then 100 else 0) := ⟨by rw [wrongI, HN.out, if_neg (by decide)]⟩
      go_wp2
      obtain ⟨go, rfl⟩ : ∃ go, go = gk := ⟨_, rfl⟩
      obtain ⟨wo, rfl⟩ : ∃ wo : World, wo = wr := ⟨_, rfl⟩
      go_loopg [31] (l.length + 1) (fun kq v31 wx => ∃ i : Nat, v31 = .int .i64 (i : Int) ∧ i ≤ l.length ∧ kq + i = l.length + 1 ∧ Aside0 ((l.take i).any (fun x => decide (rt x.f1 ≠ 0) || decide (rt x.f2 ≠ 0)) = false) ∧ Aside0 (Below w.heap.size w wx))
      case atStart => exact ⟨0, rfl, Nat.zero_le _, rfl, ⟨rfl⟩, HB⟩
      case round =>
        clear HB HM HE HN
        obtain ⟨i, rfl, hi, hki, HA, HB⟩ := hrel
        by_cases hli : i < l.length
        · have hdi : decide ((i : Int) < (l.length : Int)) = true := decide_eq_true (by omega)
          obtain ⟨ad, A3, c3, A4, c4, A5, c5, B3, d3, B4, d4, B5, d5, e, h0, h1, h2, h3, h4, h5, h6, h7, h8, h9, h10, h11, h12, hk1, hk2⟩ := at_en HC.out i hli
          cases e
          have hmem : l[i] ∈ l := List.getElem_mem _
          have htk : (l.take (i + 1)).any (fun x => decide (rt x.f1 ≠ 0) || decide (rt x.f2 ≠ 0)) = (decide (rt l[i].f1 ≠ 0) || decide (rt l[i].f2 ≠ 0)) := by rw [List.take_succ_eq_append_getElem hli, List.any_append, HA.out]; simp
          obtain ⟨x, hx⟩ : ∃ x, l[i] = x := ⟨_, rfl⟩
          rw [hx] at h0 h1 h2 h3 h4 h5 h6 h7 h8 h9 h10 h11 h12 hmem htk hk1 hk2
          replace h0 := pw_cell_below HB.out h0
          replace h1 := pw_cell_below HB.out h1
          replace h2 := pw_cell_below HB.out h2
          replace h3 := pw_cell_below HB.out h3
          replace h4 := pw_cell_below HB.out h4
          replace h5 := pw_cell_below HB.out h5
          replace h6 := pw_cell_below HB.out h6
          replace h7 := pw_cell_below HB.out h7
          replace h8 := pw_cell_below HB.out h8
          replace h9 := pw_cell_below HB.out h9
          replace h10 := pw_cell_below HB.out h10
          replace h11 := pw_cell_below HB.out h11
          replace h12 := pw_cell_below HB.out h12
          have HOX := Aside0.mk (HO.out x hmem)
          have HBA := Aside0.mk (HB.out.alloc HB.out.size (.cells #[.string x.f0, .int .i64 x.f1.f0, .int .i64 x.f1.f1, .string x.f1.f2, .slice A3 x.f1.f3.length c3, .slice A4 x.f1.f4.length c4, .slice A5 x.f1.f5.length c5, .int .i64 x.f2.f0, .int .i64 x.f2.f1, .string x.f2.f2, .slice B3 x.f2.f3.length d3, .slice B4 x.f2.f4.length d4, .slice B5 x.f2.f5.length d5] 54))
          have HNA := Aside0.mk (blk_new wr (.cells #[.string x.f0, .int .i64 x.f1.f0, .int .i64 x.f1.f1, .string x.f1.f2, .slice A3 x.f1.f3.length c3, .slice A4 x.f1.f4.length c4, .slice A5 x.f1.f5.length c5, .int .i64 x.f2.f0, .int .i64 x.f2.f1, .string x.f2.f2, .slice B3 x.f2.f3.length d3, .slice B4 x.f2.f4.length d4, .slice B5 x.f2.f5.length d5] 54))
          have HK2 := Aside0.mk hk2
          have hc1 := HP.out.right x.f1 _ _ (k45.K_below HBA.out hk1) HOX.out.2.2.1
          have HTK := Aside0.mk htk
          have HMEM := Aside0.mk hmem
          clear htk hx hmem hk1 hk2 HB
          by_cases q1 : rt x.f1 = 0
          · rw [q1] at hc1
            by_cases q2 : rt x.f2 = 0
            · have HZ : Aside0 ((l.take (i + 1)).any (fun x => decide (rt x.f1 ≠ 0) || decide (rt x.f2 ≠ 0)) = false) := ⟨by rw [HTK.out]; simp [q1, q2]⟩
              have HQ2 := Aside0.mk q2
              clear q1 q2
              go_wp2_with (first
                | (go_at_call 27; refine hc1.mono ?_; rintro e w2 ⟨rfl, hb2⟩; have HB2 := Aside0.mk (below_step HBA.out hb2); have HN2 := Aside0.mk (blk_below HNA.out hb2); have hc2 := HP.out.right x.f2 _ _ (k45.K_below HB2.out HK2.out) HOX.out.2.2.2; rw [HQ2.out] at hc2; have hy7 := (blk_cell HN2.out 7).trans (rfl : _ = some (Value.int .i64 x.f2.f0)); have hy8 := (blk_cell HN2.out 8).trans (rfl : _ = some (Value.int .i64 x.f2.f1)); have hy9 := (blk_cell HN2.out 9).trans (rfl : _ = some (Value.string x.f2.f2)); have hy10 := (blk_cell HN2.out 10).trans (rfl : _ = some (Value.slice B3 x.f2.f3.length d3)); have hy11 := (blk_cell HN2.out 11).trans (rfl : _ = some (Value.slice B4 x.f2.f4.length d4)); have hy12 := (blk_cell HN2.out 12).trans (rfl : _ = some (Value.slice B5 x.f2.f5.length d5)); clear hb2 hc1)
                | (go_at_call 27; refine hc2.mono ?_; rintro e w3 ⟨rfl, hb3⟩; have HB3 := Aside0.mk (below_step HB2.out hb3); clear hb3 hc2))
              go_roundg (gk - 1)
              case measure => omega
              case rel => exact ⟨i + 1, rfl, by omega, by omega, HZ, HB3⟩
            · have HR : Aside0 (wrongI nb rt l = 100) := ⟨by rw [HW.out, if_pos (List.any_eq_true.2 ⟨x, HMEM.out, by simp [q2]⟩)]⟩
              have HQ2 := Aside0.mk q2
              have hq3 : (rt x.f2 != 0) = true := by simp [q2]
              clear q1 q2
              go_wp2_with (first
                | (go_at_call 27; refine hc1.mono ?_; rintro e w2 ⟨rfl, hb2⟩; have HB2 := Aside0.mk (below_step HBA.out hb2); have HN2 := Aside0.mk (blk_below HNA.out hb2); have hc2 := HP.out.right x.f2 _ _ (k45.K_below HB2.out HK2.out) HOX.out.2.2.2; have hy7 := (blk_cell HN2.out 7).trans (rfl : _ = some (Value.int .i64 x.f2.f0)); have hy8 := (blk_cell HN2.out 8).trans (rfl : _ = some (Value.int .i64 x.f2.f1)); have hy9 := (blk_cell HN2.out 9).trans (rfl : _ = some (Value.string x.f2.f2)); have hy10 := (blk_cell HN2.out 10).trans (rfl : _ = some (Value.slice B3 x.f2.f3.length d3)); have hy11 := (blk_cell HN2.out 11).trans (rfl : _ = some (Value.slice B4 x.f2.f4.length d4)); have hy12 := (blk_cell HN2.out 12).trans (rfl : _ = some (Value.slice B5 x.f2.f5.length d5)); clear hb2 hc1)
                | (go_at_call 27; refine hc2.mono ?_; rintro e w3 ⟨rfl, hb3⟩; have HB3 := Aside0.mk (below_step HB2.out hb3); clear hb3 hc2))
              go_ret
              exact ⟨by rw [HR.out]; rfl, HB3.out⟩
          · have HR : Aside0 (wrongI nb rt l = 100) := ⟨by rw [HW.out, if_pos (List.any_eq_true.2 ⟨x, HMEM.out, by simp [q1]⟩)]⟩
            have hq3 : (rt x.f1 != 0) = true := by simp [q1]
            clear q1
            go_wp2_with (go_at_call 27; refine hc1.mono ?_; rintro e w2 ⟨rfl, hb2⟩; have HB2 := Aside0.mk (below_step HBA.out hb2); clear hb2 hc1)
            go_ret
            exact ⟨by rw [HR.out]; rfl, HB2.out⟩
        · have hdi : decide ((i : Int) < (l.length : Int)) = false := decide_eq_false (by omega)
          have HR : Aside0 (wrongI nb rt l = 0) := ⟨by have h := HA.out; rw [List.take_of_length_le (by omega)] at h; rw [HW.out, h, if_neg (by decide)]⟩
          go_wp2
          go_ret
          exact ⟨by rw [HR.out]; rfl, HB.out⟩
end Go.Proofs.YtahdjajdaggmjaaDoor.XPo
