/-
Walk: pack.wrong.
-/
import Derived.Maps.OwnSet
import Derived.Maps.Views
import Derived.StringKeys
import Derived.Test.YtahdjajdaggmjaaGreatDoorZall
import Derived.Test.YtahdjajdaggmjaaGreatDoorUtab
import Derived.WalkSmall
import Derived.Laws.BitsLemmas
import Derived.BigQuiet
import Derived.Deep.QuietTactic
import Derived.Tactics
import Derived.Tactics2
import Derived.Defers
import Derived.Recover
import Derived.Laws.Pointers
section
set_option linter.unusedVariables false
set_option linter.unusedSimpArgs false
namespace Go.Proofs.YtahdjajdaggmjaaGreatDoor.XPa
open Go.RowKit Go.Proofs.YtahdjajdaggmjaaGreatDoorW.PrintWords Go.Proofs.YtahdjajdaggmjaaGreatDoorW.PrintLast Go.Proofs.YtahdjajdaggmjaaGreatDoorW.PrintMore
abbrev En := S59
theorem rd_T59_at {xs : List S59} {j : Nat} (h : j < xs.length) : rd_T59 xs ((j : Nat) : Int) = xs[j] := by
 unfold rd_T59
 rw [Int.toNat_natCast, List.getD_eq_getElem?_getD, List.getElem?_eq_getElem h]
 rfl
theorem at_en {w : World} {A : Option Addr} {xs : List S59} (h : Kd.C k59 w A xs.length xs) (j : Nat) (hj : j < xs.length) : ∃ ad A3 c3 A4 c4 A5 c5 B3 d3 B4 d4 B5 d5, A = some ad ∧ w.cell? (ad.add (j * 13)) = some (.string xs[j].f0) ∧ w.cell? ⟨(ad.add (j * 13)).block, (ad.add (j * 13)).off + 1, none⟩ = some (.int .i64 xs[j].f1.f0) ∧ w.cell? ⟨(ad.add (j * 13)).block, (ad.add (j * 13)).off + 2, none⟩ = some (.int .i64 xs[j].f1.f1) ∧ w.cell? ⟨(ad.add (j * 13)).block, (ad.add (j * 13)).off + 3, none⟩ = some (.string xs[j].f1.f2) ∧ w.cell? ⟨(ad.add (j * 13)).block, (ad.add (j * 13)).off + 4, none⟩ = some (.slice A3 xs[j].f1.f3.length c3) ∧ w.cell? ⟨(ad.add (j * 13)).block, (ad.add (j * 13)).off + 5, none⟩ = some (.slice A4 xs[j].f1.f4.length c4) ∧ w.cell? ⟨(ad.add (j * 13)).block, (ad.add (j * 13)).off + 6, none⟩ = some (.slice A5 xs[j].f1.f5.length c5) ∧ w.cell? ⟨(ad.add (j * 13)).block, (ad.add (j * 13)).off + 7, none⟩ = some (.int .i64 xs[j].f2.f0) ∧ w.cell? ⟨(ad.add (j * 13)).block, (ad.add (j * 13)).off + 8, none⟩ = some (.int .i64 xs[j].f2.f1) ∧ w.cell? ⟨(ad.add (j * 13)).block, (ad.add (j * 13)).off + 9, none⟩ = some (.string xs[j].f2.f2) ∧ w.cell? ⟨(ad.add (j * 13)).block, (ad.add (j * 13)).off + 10, none⟩ = some (.slice B3 xs[j].f2.f3.length d3) ∧ w.cell? ⟨(ad.add (j * 13)).block, (ad.add (j * 13)).off + 11, none⟩ = some (.slice B4 xs[j].f2.f4.length d4) ∧ w.cell? ⟨(ad.add (j * 13)).block, (ad.add (j * 13)).off + 12, none⟩ = some (.slice B5 xs[j].f2.f5.length d5) ∧
  k49.K w xs[j].f1 [.int .i64 xs[j].f1.f0, .int .i64 xs[j].f1.f1, .string xs[j].f1.f2, .slice A3 xs[j].f1.f3.length c3, .slice A4 xs[j].f1.f4.length c4, .slice A5 xs[j].f1.f5.length c5] ∧ k49.K w xs[j].f2 [.int .i64 xs[j].f2.f0, .int .i64 xs[j].f2.f1, .string xs[j].f2.f2, .slice B3 xs[j].f2.f3.length d3, .slice B4 xs[j].f2.f4.length d4, .slice B5 xs[j].f2.f5.length d5] := by
 obtain ⟨ad, A3, c3, A4, c4, A5, c5, B3, d3, B4, d4, B5, d5, e, h0, h1, h2, h3, h4, h5, h6, h7, h8, h9, h10, h11, h12, l3, g3, l4, g4, l5, g5, m3, q3, m4, q4, m5, q5⟩ := at_T59 h (j : Int) (by omega) (by omega)
 rw [rd_T59_at hj] at h0 h1 h2 h3 h4 h5 h6 h7 h8 h9 h10 h11 h12 l3 g3 l4 g4 l5 g5 m3 q3 m4 q4 m5 q5
 rw [Int.toNat_natCast] at h0 h1 h2 h3 h4 h5 h6 h7 h8 h9 h10 h11 h12
 exact ⟨ad, A3, c3, A4, c4, A5, c5, B3, d3, B4, d4, B5, d5, e, h0, h1, h2, h3, h4, h5, h6, h7, h8, h9, h10, h11, h12, k49_mk w xs[j].f1 l3 g3 l4 g4 l5 g5, k49_mk w xs[j].f2 m3 q3 m4 q4 m5 q5⟩
def memB (s : ByteArray) (l : List ByteArray) : Bool := l.any fun q => q.data.toList == s.data.toList
theorem memB_cons (s q : ByteArray) (l : List ByteArray) : memB s (q :: l) = (q.data.toList == s.data.toList || memB s l) := rfl
theorem plainElem_bool_inv {P : Program} {e : TypeId} (he : P.underlying e = some .bool) {v : Value} {z : DataW Unit × List MemPlace} (h : plainElem P e v = some z) : ∃ a, v = .bool a ∧ z = (.lit (.bool a), []) := by
 unfold plainElem at h
 rw [he] at h
 cases v <;> simp at h
 obtain rfl := h
 exact ⟨_, rfl, rfl⟩
def MSt (w : World) (b : Nat) (seen : List ByteArray) : Prop :=
 ∃ D : DataW Unit, w.ownsMap Tryz.prog 9 (plainElem Tryz.prog 4) b seen.length D ∧ ∀ s : ByteArray, D.atKey (.string s.data.toList) (.lit (.bool false)) = .lit (.bool (memB s seen))
theorem MSt.below {w w1 : World} {b : Nat} {seen : List ByteArray} (h : MSt w b seen) (hb : Below w.heap.size w w1) : MSt w1 b seen := by
 obtain ⟨D, ⟨es, clock, hh, r⟩, hD⟩ := h
 exact ⟨D, ⟨es, clock, blk_below hh hb, r⟩, hD⟩
theorem MSt.made (w : World) : MSt (w.alloc (.map #[] 0)) w.heap.size [] := ⟨.map [], World.ownsMap_made _ _ _ _, fun s => by simp [DataW.atKey, memB]⟩
theorem MSt.lt {w : World} {b : Nat} {seen : List ByteArray} (h : MSt w b seen) : b < w.heap.size := by
 obtain ⟨D, h, _⟩ := h
 exact h.lt
section
variable {ops : Array Oper} {rest : List Oper} {o : Oper} {a : Act} {Q : Exit → Act → World → Prop}
theorem zero_bool (w : World) : (zeroValue 4).run Tryz.prog w = .ok (.bool false) w := by kernel_rfl
theorem MSt.run {w : World} {b : Nat} {seen : List ByteArray} (h : MSt w b seen) (s : ByteArray) (hs : s.size ≤ 1000000) : (Instr.lookup 74 (.map (some b)) (.string s) false).run Tryz.prog w = .ok (.bool (memB s seen)) w := by
 obtain ⟨D, ho, hD⟩ := h
 obtain ⟨v, ps, hrun, hv⟩ := ho.lookup (Maps.string_keyed Tryz.underlying9) Tryz.underlying74 (zero_bool w) (plainElem_bool Tryz.underlying4 false) (WideMaps.keyOf_string_mk (s := s) Tryz.underlying9 (by simp only [maxLen]; omega))
 rw [hD s] at hv
 obtain ⟨x, rfl, hx⟩ := plainElem_bool_inv Tryz.underlying4 hv
 have h1 : memB s seen = x := Lit.bool.inj (DataW.lit.inj (Prod.mk.inj hx).1)
 rw [h1]
 exact hrun
theorem MSt.store {w : World} {b : Nat} {seen : List ByteArray} (hg : o.guard = none) (m x v : Operand) (hop : o.op = Op.mapUpdate 74 m x v) (s : ByteArray) (hs : s.size ≤ 1000000) (hl : seen.length ≤ 1000000)
  (hm : a.eval m = .map (some b)) (hx : a.eval x = .string s) (hv : a.eval v = .bool true) (h : MSt w b seen)
  (hK : ∀ w', MSt w' b (s :: seen) → w.grownBy w' (some b) → wpList Tryz.prog ops Q rest (a.put o.dst undef) w') : wpList Tryz.prog ops Q (o :: rest) a w := by
 obtain ⟨D, ho, hD⟩ := h
 have hIM := ho.isMap
 refine wpList_mapUpdate_own w hg m x v 74 hop 9 4 (Maps.string_keyed Tryz.underlying9) Tryz.underlying74 (plainElem Tryz.prog 4) b seen.length D hm ho (by simp only [maxLen]; omega) (.string s) (.bool true) (.string s.data.toList) hx hv (WideMaps.keyOf_string_mk (s := s) Tryz.underlying9 (by simp only [maxLen]; omega)) (.lit (.bool true)) [] (plainElem_bool Tryz.underlying4 true) ?_
 intro w' h1 h2
 refine hK w' ⟨_, h1, fun q => ?_⟩ h2
 by_cases e : q = s
 ·subst e
  rw [Maps.atKey_put_same (k := .string q.data.toList) hIM trivial, memB_cons, BEq.rfl, Bool.true_or]
 ·have hne : (s.data.toList == q.data.toList) = false := by
   rw [beq_eq_false_iff_ne]
   exact fun h => e (WideShapes.bytes_inj h.symm)
  rw [Maps.atKey_put_other (fun h => e (WideShapes.bytes_inj (Lit.string.inj h))), hD q, memB_cons, hne, Bool.false_or]
end
def namesBad (nb : ByteArray → Bool) : List En → List ByteArray → Bool
 | [], _ => false
 | x :: r, seen => if nb x.f0 = false then true else if memB x.f0 seen = true then true else namesBad nb r (x.f0 :: seen)
def wrongI (nb : ByteArray → Bool) (rt : Tm → Int) (l : List En) : Int :=
 if namesBad nb l [] = true then 61 else if l.any (fun x => decide (rt x.f1 ≠ 0) || decide (rt x.f2 ≠ 0)) = true then 100 else 0
def okE (PN : ByteArray → Prop) (PT : Tm → Prop) (x : En) : Prop := x.f0.size ≤ 1000000 ∧ PN x.f0 ∧ PT x.f1 ∧ PT x.f2
structure WrongP (PN : ByteArray → Prop) (PT : Tm → Prop) (nb : ByteArray → Bool) (rt : Tm → Int) : Prop where
 named : ∀ (s : ByteArray) (w : World), Tab w → PN s → Calls Tryz.prog 38 #[.string s] w fun e w' => e = .returned (.bool (nb s)) ∧ Below w.heap.size w w'
 right : ∀ (t : Tm) (cs : List Value) (w : World), k49.K w t cs → PT t → Calls Tryz.prog 39 #[.agg cs.toArray, .int .i64 0, .int .i64 0] w fun e w' => e = .returned (.int .i64 (rt t)) ∧ Below w.heap.size w w'
theorem below_mapset {w0 w w1 : World} {b : Nat} (hb : Below w0.heap.size w0 w) (hl : w0.heap.size ≤ b) (hg : w.grownBy w1 (some b)) : Below w0.heap.size w0 w1 := hb.grown hg hb.size (fun k hk => by injection hk with hk; omega)
set_option maxHeartbeats 4000000 in
set_option maxRecDepth 100000 in
theorem pa_wrong {PN : ByteArray → Prop} {PT : Tm → Prop} {nb : ByteArray → Bool} {rt : Tm → Int} (WP : WrongP PN PT nb rt) (A : Option Addr) (cap : Nat) (l : List En) (w : World) (hT : Tab w) (hC : Kd.C k59 w A l.length l) (hl : l.length ≤ 1000) (ho : ∀ x ∈ l, okE PN PT x) :
  Calls Tryz.prog 18 #[.slice A l.length cap] w fun e w' => e = .returned (.int .i64 (wrongI nb rt l)) ∧ Below w.heap.size w w' := by
 have HP := Aside0.mk WP
 have HT := Aside0.mk hT
 have HC := Aside0.mk hC
 have HO := Aside0.mk ho
 have hmm := @run_makeMap Tryz.prog
 have HB0 := Aside0.mk (below_alloc (Below.refl w.heap.size w) (.map #[] 0))
 have HM0 := Aside0.mk (MSt.made w)
 clear WP hT hC ho
 go_enter Tryz.func18, Tryz.ntmps18
 go_wp2
 have HGE : Aside0 (w.heap.size ≤ w.heap.size) := ⟨Nat.le_refl _⟩
 go_loopg [11] (l.length + 1) (fun kq v11 wx => ∃ (j : Nat) (seen : List ByteArray), v11 = .int .i64 (j : Int) ∧ j ≤ l.length ∧ kq + j = l.length + 1 ∧ seen.length = j ∧ Aside0 (namesBad nb l [] = namesBad nb (l.drop j) seen) ∧ Aside0 (Below w.heap.size w wx) ∧ Aside0 (MSt wx w.heap.size seen))
 case atStart => exact ⟨0, [], rfl, Nat.zero_le _, rfl, rfl, ⟨rfl⟩, HB0, HM0⟩
 case round =>
  clear HB0 HM0
  obtain ⟨j, seen, rfl, hj, hk, hsl, HE, HB, HM⟩ := hrel
  have HSL := Aside0.mk hsl
  clear hsl
  by_cases hlt : j < l.length
  ·have hd : decide ((j : Int) < (l.length : Int)) = true := decide_eq_true (by omega)
   obtain ⟨ad, A3, c3, A4, c4, A5, c5, B3, d3, B4, d4, B5, d5, e, h0, h1, h2, h3, h4, h5, h6, h7, h8, h9, h10, h11, h12, hk1, hk2⟩ := at_en HC.out j hlt
   cases e
   have hmem : l[j] ∈ l := List.getElem_mem _
   have hdr := List.drop_eq_getElem_cons hlt
   obtain ⟨x, hx⟩ : ∃ x, l[j] = x := ⟨_, rfl⟩
   rw [hx] at h0 h1 h2 h3 h4 h5 h6 h7 h8 h9 h10 h11 h12 hmem hdr
   replace h0 := pw_cell_below HB.out h0
   replace h1 := pw_cell_below HB.out h1
   replace h2 := pw_cell_below HB.out h2
   replace h3 := pw_cell_below HB.out h3
   replace h4 := pw_cell_below HB.out h4
   replace h5 := pw_cell_below HB.out h5
   replace h6 := pw_cell_below HB.out h6
   replace h7 := pw_cell_below HB.out h7
   replace h8 := pw_cell_below HB.out h8
   replace h9 := pw_cell_below HB.out h9
   replace h10 := pw_cell_below HB.out h10
   replace h11 := pw_cell_below HB.out h11
   replace h12 := pw_cell_below HB.out h12
   have HOX := Aside0.mk (HO.out x hmem)
   have hE := HE.out
   rw [hdr, namesBad] at hE
   have HEE := Aside0.mk hE
   have HBA := Aside0.mk (HB.out.alloc HB.out.size (.cells #[.string x.f0, .int .i64 x.f1.f0, .int .i64 x.f1.f1, .string x.f1.f2, .slice A3 x.f1.f3.length c3, .slice A4 x.f1.f4.length c4, .slice A5 x.f1.f5.length c5, .int .i64 x.f2.f0, .int .i64 x.f2.f1, .string x.f2.f2, .slice B3 x.f2.f3.length d3, .slice B4 x.f2.f4.length d4, .slice B5 x.f2.f5.length d5] 59))
   have HMA := Aside0.mk (HM.out.below (below_alloc (Below.refl _ _) (.cells #[.string x.f0, .int .i64 x.f1.f0, .int .i64 x.f1.f1, .string x.f1.f2, .slice A3 x.f1.f3.length c3, .slice A4 x.f1.f4.length c4, .slice A5 x.f1.f5.length c5, .int .i64 x.f2.f0, .int .i64 x.f2.f1, .string x.f2.f2, .slice B3 x.f2.f3.length d3, .slice B4 x.f2.f4.length d4, .slice B5 x.f2.f5.length d5] 59)))
   have HNA := Aside0.mk (blk_new wr (.cells #[.string x.f0, .int .i64 x.f1.f0, .int .i64 x.f1.f1, .string x.f1.f2, .slice A3 x.f1.f3.length c3, .slice A4 x.f1.f4.length c4, .slice A5 x.f1.f5.length c5, .int .i64 x.f2.f0, .int .i64 x.f2.f1, .string x.f2.f2, .slice B3 x.f2.f3.length d3, .slice B4 x.f2.f4.length d4, .slice B5 x.f2.f5.length d5] 59))
   have hcn := HP.out.named x.f0 _ (HT.out.below HBA.out) HOX.out.2.1
   clear hE HE hdr hx hmem hk1 hk2 HB HM
   cases hnb : nb x.f0
   ·have HR : Aside0 (wrongI nb rt l = 61) := ⟨by rw [wrongI, HEE.out, if_pos hnb, if_pos rfl]⟩
    rw [hnb] at hcn
    clear hnb
    go_wp2_with (go_at_call 38; refine hcn.mono ?_; rintro e w2 ⟨rfl, hb2⟩; have HB2 := Aside0.mk (below_step HBA.out hb2); clear hb2 hcn)
    go_ret
    exact ⟨by rw [HR.out]; rfl, HB2.out⟩
   ·have HE2 : Aside0 (namesBad nb l [] = if memB x.f0 seen = true then true else namesBad nb (l.drop (j + 1)) (x.f0 :: seen)) := ⟨by rw [HEE.out, if_neg (by rw [hnb]; decide)]⟩
    rw [hnb] at hcn
    clear hnb
    by_cases hin : memB x.f0 seen = true
    ·have HR : Aside0 (wrongI nb rt l = 61) := ⟨by rw [wrongI, HE2.out, if_pos hin, if_pos rfl]⟩
     have HIN := Aside0.mk hin
     clear hin
     go_wp2_with (go_at_call 38; refine hcn.mono ?_; rintro e w2 ⟨rfl, hb2⟩; have HB2 := Aside0.mk (below_step HBA.out hb2); have hlk := (HMA.out.below hb2).run x.f0 HOX.out.1; rw [HIN.out] at hlk; have hz := (blk_cell (blk_below HNA.out hb2) 0).trans (rfl : _ = some (Value.string x.f0)); clear hb2 hcn)
     go_ret
     exact ⟨by rw [HR.out]; rfl, HB2.out⟩
    ·have HE3 : Aside0 (namesBad nb l [] = namesBad nb (l.drop (j + 1)) (x.f0 :: seen)) := ⟨by rw [HE2.out, if_neg hin]⟩
     have HIN := Aside0.mk hin
     clear hin HE2 HEE
     go_wp2_with (first
      | (go_at_call 38; refine hcn.mono ?_; rintro e w2 ⟨rfl, hb2⟩; have HB2 := Aside0.mk (below_step HBA.out hb2); have HM2 := Aside0.mk (HMA.out.below hb2); have hlk := HM2.out.run x.f0 HOX.out.1; rw [Bool.eq_false_iff.2 HIN.out] at hlk; have hz := (blk_cell (blk_below HNA.out hb2) 0).trans (rfl : _ = some (Value.string x.f0)); clear hb2 hcn)
      | (at_mapUpdate; refine MSt.store rfl _ _ _ rfl x.f0 HOX.out.1 (by rw [HSL.out]; omega) rfl rfl rfl HM2.out ?_; intro w3 hm3 hg3; have HM3 := Aside0.mk hm3; have HB3 := Aside0.mk (below_mapset HB2.out HGE.out hg3); clear hm3 hg3))
     go_roundg (gk - 1)
     case measure => omega
     case rel => exact ⟨j + 1, x.f0 :: seen, rfl, by omega, by omega, by rw [List.length_cons, HSL.out], HE3, HB3, HM3⟩
  ·have hd : decide ((j : Int) < (l.length : Int)) = false := decide_eq_false (by omega)
   have HN : Aside0 (namesBad nb l [] = false) := ⟨by rw [HE.out, List.drop_eq_nil_of_le (by omega), namesBad]⟩
   have HW : Aside0 (wrongI nb rt l = if l.any (fun x => decide (rt x.f1 ≠ 0) || decide (rt x.f2 ≠ 0)) = true then 100 else 0) := ⟨by rw [wrongI, HN.out, if_neg (by decide)]⟩
   go_wp2
   obtain ⟨go, rfl⟩ : ∃ go, go = gk := ⟨_, rfl⟩
   obtain ⟨wo, rfl⟩ : ∃ wo : World, wo = wr := ⟨_, rfl⟩
   go_loopg [31] (l.length + 1) (fun kq v31 wx => ∃ i : Nat, v31 = .int .i64 (i : Int) ∧ i ≤ l.length ∧ kq + i = l.length + 1 ∧ Aside0 ((l.take i).any (fun x => decide (rt x.f1 ≠ 0) || decide (rt x.f2 ≠ 0)) = false) ∧ Aside0 (Below w.heap.size w wx))
   case atStart => exact ⟨0, rfl, Nat.zero_le _, rfl, ⟨rfl⟩, HB⟩
   case round =>
    clear HB HM HE HN
    obtain ⟨i, rfl, hi, hki, HA, HB⟩ := hrel
    by_cases hli : i < l.length
    ·have hdi : decide ((i : Int) < (l.length : Int)) = true := decide_eq_true (by omega)
     obtain ⟨ad, A3, c3, A4, c4, A5, c5, B3, d3, B4, d4, B5, d5, e, h0, h1, h2, h3, h4, h5, h6, h7, h8, h9, h10, h11, h12, hk1, hk2⟩ := at_en HC.out i hli
     cases e
     have hmem : l[i] ∈ l := List.getElem_mem _
     have htk : (l.take (i + 1)).any (fun x => decide (rt x.f1 ≠ 0) || decide (rt x.f2 ≠ 0)) = (decide (rt l[i].f1 ≠ 0) || decide (rt l[i].f2 ≠ 0)) := by rw [List.take_succ_eq_append_getElem hli, List.any_append, HA.out]; simp
     obtain ⟨x, hx⟩ : ∃ x, l[i] = x := ⟨_, rfl⟩
     rw [hx] at h0 h1 h2 h3 h4 h5 h6 h7 h8 h9 h10 h11 h12 hmem htk hk1 hk2
     replace h0 := pw_cell_below HB.out h0
     replace h1 := pw_cell_below HB.out h1
     replace h2 := pw_cell_below HB.out h2
     replace h3 := pw_cell_below HB.out h3
     replace h4 := pw_cell_below HB.out h4
     replace h5 := pw_cell_below HB.out h5
     replace h6 := pw_cell_below HB.out h6
     replace h7 := pw_cell_below HB.out h7
     replace h8 := pw_cell_below HB.out h8
     replace h9 := pw_cell_below HB.out h9
     replace h10 := pw_cell_below HB.out h10
     replace h11 := pw_cell_below HB.out h11
     replace h12 := pw_cell_below HB.out h12
     have HOX := Aside0.mk (HO.out x hmem)
     have HBA := Aside0.mk (HB.out.alloc HB.out.size (.cells #[.string x.f0, .int .i64 x.f1.f0, .int .i64 x.f1.f1, .string x.f1.f2, .slice A3 x.f1.f3.length c3, .slice A4 x.f1.f4.length c4, .slice A5 x.f1.f5.length c5, .int .i64 x.f2.f0, .int .i64 x.f2.f1, .string x.f2.f2, .slice B3 x.f2.f3.length d3, .slice B4 x.f2.f4.length d4, .slice B5 x.f2.f5.length d5] 59))
     have HNA := Aside0.mk (blk_new wr (.cells #[.string x.f0, .int .i64 x.f1.f0, .int .i64 x.f1.f1, .string x.f1.f2, .slice A3 x.f1.f3.length c3, .slice A4 x.f1.f4.length c4, .slice A5 x.f1.f5.length c5, .int .i64 x.f2.f0, .int .i64 x.f2.f1, .string x.f2.f2, .slice B3 x.f2.f3.length d3, .slice B4 x.f2.f4.length d4, .slice B5 x.f2.f5.length d5] 59))
     have HK2 := Aside0.mk hk2
     have hc1 := HP.out.right x.f1 _ _ (k49.K_below HBA.out hk1) HOX.out.2.2.1
     have HTK := Aside0.mk htk
     have HMEM := Aside0.mk hmem
     clear htk hx hmem hk1 hk2 HB
     by_cases q1 : rt x.f1 = 0
     ·rw [q1] at hc1
      by_cases q2 : rt x.f2 = 0
      ·have HZ : Aside0 ((l.take (i + 1)).any (fun x => decide (rt x.f1 ≠ 0) || decide (rt x.f2 ≠ 0)) = false) := ⟨by rw [HTK.out]; simp [q1, q2]⟩
       have HQ2 := Aside0.mk q2
       clear q1 q2
       go_wp2_with (first
        | (go_at_call 39; refine hc1.mono ?_; rintro e w2 ⟨rfl, hb2⟩; have HB2 := Aside0.mk (below_step HBA.out hb2); have HN2 := Aside0.mk (blk_below HNA.out hb2); have hc2 := HP.out.right x.f2 _ _ (k49.K_below HB2.out HK2.out) HOX.out.2.2.2; rw [HQ2.out] at hc2; have hy7 := (blk_cell HN2.out 7).trans (rfl : _ = some (Value.int .i64 x.f2.f0)); have hy8 := (blk_cell HN2.out 8).trans (rfl : _ = some (Value.int .i64 x.f2.f1)); have hy9 := (blk_cell HN2.out 9).trans (rfl : _ = some (Value.string x.f2.f2)); have hy10 := (blk_cell HN2.out 10).trans (rfl : _ = some (Value.slice B3 x.f2.f3.length d3)); have hy11 := (blk_cell HN2.out 11).trans (rfl : _ = some (Value.slice B4 x.f2.f4.length d4)); have hy12 := (blk_cell HN2.out 12).trans (rfl : _ = some (Value.slice B5 x.f2.f5.length d5)); clear hb2 hc1)
        | (go_at_call 39; refine hc2.mono ?_; rintro e w3 ⟨rfl, hb3⟩; have HB3 := Aside0.mk (below_step HB2.out hb3); clear hb3 hc2))
       go_roundg (gk - 1)
       case measure => omega
       case rel => exact ⟨i + 1, rfl, by omega, by omega, HZ, HB3⟩
      ·have HR : Aside0 (wrongI nb rt l = 100) := ⟨by rw [HW.out, if_pos (List.any_eq_true.2 ⟨x, HMEM.out, by simp [q2]⟩)]⟩
       have HQ2 := Aside0.mk q2
       have hq3 : (rt x.f2 != 0) = true := by simp [q2]
       clear q1 q2
       go_wp2_with (first
        | (go_at_call 39; refine hc1.mono ?_; rintro e w2 ⟨rfl, hb2⟩; have HB2 := Aside0.mk (below_step HBA.out hb2); have HN2 := Aside0.mk (blk_below HNA.out hb2); have hc2 := HP.out.right x.f2 _ _ (k49.K_below HB2.out HK2.out) HOX.out.2.2.2; have hy7 := (blk_cell HN2.out 7).trans (rfl : _ = some (Value.int .i64 x.f2.f0)); have hy8 := (blk_cell HN2.out 8).trans (rfl : _ = some (Value.int .i64 x.f2.f1)); have hy9 := (blk_cell HN2.out 9).trans (rfl : _ = some (Value.string x.f2.f2)); have hy10 := (blk_cell HN2.out 10).trans (rfl : _ = some (Value.slice B3 x.f2.f3.length d3)); have hy11 := (blk_cell HN2.out 11).trans (rfl : _ = some (Value.slice B4 x.f2.f4.length d4)); have hy12 := (blk_cell HN2.out 12).trans (rfl : _ = some (Value.slice B5 x.f2.f5.length d5)); clear hb2 hc1)
        | (go_at_call 39; refine hc2.mono ?_; rintro e w3 ⟨rfl, hb3⟩; have HB3 := Aside0.mk (below_step HB2.out hb3); clear hb3 hc2))
       go_ret
       exact ⟨by rw [HR.out]; rfl, HB3.out⟩
     ·have HR : Aside0 (wrongI nb rt l = 100) := ⟨by rw [HW.out, if_pos (List.any_eq_true.2 ⟨x, HMEM.out, by simp [q1]⟩)]⟩
      have hq3 : (rt x.f1 != 0) = true := by simp [q1]
      clear q1
      go_wp2_with (go_at_call 39; refine hc1.mono ?_; rintro e w2 ⟨rfl, hb2⟩; have HB2 := Aside0.mk (below_step HBA.out hb2); clear hb2 hc1)
      go_ret
      exact ⟨by rw [HR.out]; rfl, HB2.out⟩
    ·have hdi : decide ((i : Int) < (l.length : Int)) = false := decide_eq_false (by omega)
     have HR : Aside0 (wrongI nb rt l = 0) := ⟨by have h := HA.out; rw [List.take_of_length_le (by omega)] at h; rw [HW.out, h, if_neg (by decide)]⟩
     go_wp2
     go_ret
     exact ⟨by rw [HR.out]; rfl, HB.out⟩
def encE (x : En) : List Int := textL x.f0 ++ encT x.f1 ++ encT x.f2
def encS (l : List En) : List Int := [72, 67, 1] ++ numL l.length ++ l.flatMap encE
structure EncP (PN : ByteArray → Prop) (PT : Tm → Prop) (PS : List Int → Prop) (nb : ByteArray → Bool) (rt : Tm → Int) (sl : List Int → List Int) : Prop extends WrongP PN PT nb rt where
 parts : ∀ (a : Int) (w : World), Calls Tryz.prog 41 #[.int .i64 a] w fun e w' => e = .returned (.int .i64 (partsI a)) ∧ Below w.heap.size w w'
 sealed_ : ∀ (u : Value) (l : List Int) (w0 w : World), Below w0.heap.size w0 w → Kd.R (Kd.int .u8) 5 w w0.heap.size (fun _ => True) u l → PS l →
  Calls Tryz.prog 22 #[u] w fun e w' => ∃ v, e = .returned v ∧ Kd.R (Kd.int .u8) 5 w' w0.heap.size (fun _ => True) v (sl l) ∧ Below w0.heap.size w0 w'
def encodeI (nb : ByteArray → Bool) (rt : Tm → Int) (sl : List Int → List Int) (l : List En) : List Int × Int := if wrongI nb rt l = 0 then (if 1048572 < (encS l).length then ([], 3) else (sl (encS l), 0)) else ([], wrongI nb rt l)
set_option maxHeartbeats 4000000 in
set_option maxRecDepth 100000 in
theorem pa_Encode {PN : ByteArray → Prop} {PT : Tm → Prop} {PS : List Int → Prop} {nb : ByteArray → Bool} {rt : Tm → Int} {sl : List Int → List Int} (EP : EncP PN PT PS nb rt sl) (A : Option Addr) (cap : Nat) (l : List En) (w : World) (hT : Tab w) (hC : Kd.C k59 w A l.length l) (hl : l.length ≤ 1000) (ho : ∀ x ∈ l, okE PN PT x)
  (hok : wrongI nb rt l = 0 → (encS l).length ≤ 10000000 ∧ ((encS l).length ≤ 1048572 → PS (encS l)) ∧ ∀ x ∈ l, okT x.f1 ∧ okT x.f2) :
  Calls Tryz.prog 8 #[.slice A l.length cap] w fun e w' => ∃ v : Value, e = .returned (.tuple #[v, .int .i64 (encodeI nb rt sl l).2]) ∧ Kd.R (Kd.int .u8) 5 w' w.heap.size (fun _ => True) v (encodeI nb rt sl l).1 ∧ Below w.heap.size w w' := by
 have hcw := pa_wrong EP.toWrongP A cap l w hT hC hl ho
 by_cases q0 : wrongI nb rt l = 0
 ·obtain ⟨hlen, hps, hoT⟩ := hok q0
  have HPS := Aside0.mk hps
  clear hps
  rw [q0] at hcw
  have HR : Aside0 (encodeI nb rt sl l = if 1048572 < (encS l).length then ([], 3) else (sl (encS l), 0)) := ⟨by rw [encodeI, if_pos q0]⟩
  have HE := Aside0.mk EP
  have HC := Aside0.mk hC
  have HO := Aside0.mk ho
  have HOT := Aside0.mk hoT
  have HLEN := Aside0.mk hlen
  have hpre : ([72, 67, 1] ++ numL l.length : List Int).length + (l.flatMap encE).length ≤ 10000000 := by rw [encS, List.length_append] at hlen; exact hlen
  have HPRE := Aside0.mk hpre
  clear EP hC ho hok hT hlen hpre q0 hoT
  go_enter Tryz.func8, Tryz.ntmps8
  have hcn : Aside0 (∀ w1, Below w.heap.size w w1 → WSt w.heap.size ((w1.alloc (.cells #[.int .u8 72, .int .u8 67, .int .u8 1] 5)).alloc (.cells #[.slice (some ⟨w1.heap.size, 0, none⟩) 3 3] 56)) (w1.heap.size + 1) [72, 67, 1] ∧ Below w.heap.size w ((w1.alloc (.cells #[.int .u8 72, .int .u8 67, .int .u8 1] 5)).alloc (.cells #[.slice (some ⟨w1.heap.size, 0, none⟩) 3 3] 56))) := ⟨fun w1 hb => by
   have h0 := own_lit w1 w.heap.size 5 .u8 [72, 67, 1] hb.size (by decide)
   have h1 : Kd.R (Kd.int .u8) 5 (w1.alloc (.cells #[.int .u8 72, .int .u8 67, .int .u8 1] 5)) w.heap.size (fun _ => True) (.slice (some ⟨w1.heap.size, 0, none⟩) 3 3) [72, 67, 1] := Kd.R_of_own h0 (fun _ _ => trivial)
   have h2 := blk_new (w1.alloc (.cells #[.int .u8 72, .int .u8 67, .int .u8 1] 5)) (.cells #[.slice (some ⟨w1.heap.size, 0, none⟩) 3 3] 56)
   rw [World.size_alloc] at h2
   have hs := hb.size
   exact ⟨⟨by omega, _, h2, Kd.R_alloc h1 _⟩, (hb.alloc hb.size _).alloc (by simp; omega) _⟩⟩
  go_wp2_with (first
   | (go_at_call 18; refine hcw.mono ?_; rintro e w1 ⟨rfl, hb1⟩; have h9 := hcn.out w1 hb1; have hcm := writer_number w _ l.length [72, 67, 1] _ (by omega) h9.2 h9.1 (by decide); clear hb1 hcw h9)
   | (go_at_call 19; refine hcm.mono ?_; rintro e w2 ⟨rfl, hb2, hs2, _⟩; have HB2 := Aside0.mk hb2; have HS2 := Aside0.mk hs2; clear hb2 hs2 hcm))
  clear hcn
  generalize hp : w1.heap.size + 1 = p at *
  clear hp
  have hpre := HPRE.out
  generalize hpr : [72, 67, 1] ++ numL l.length = pre at *
  have HPR := Aside0.mk hpr
  have HFL : Aside0 (∀ j, ((l.take j).flatMap encE).length ≤ (l.flatMap encE).length) := ⟨fun j => flat_take_le _ _ _⟩
  clear hpr HPRE
  go_loopg [23] (l.length + 1) (fun kq v23 wx => ∃ j : Nat, v23 = .int .i64 (j : Int) ∧ j ≤ l.length ∧ kq + j = l.length + 1 ∧ Aside0 (Below w.heap.size w wx) ∧ Aside0 (WSt w.heap.size wx p (pre ++ (l.take j).flatMap encE)))
  case atStart => exact ⟨0, rfl, Nat.zero_le _, rfl, HB2, ⟨by simpa using HS2.out⟩⟩
  case round =>
   clear HB2 HS2
   obtain ⟨j, rfl, hj, hk, HB, HS⟩ := hrel
   by_cases hlt : j < l.length
   ·have hd : decide ((j : Int) < (l.length : Int)) = true := decide_eq_true (by omega)
    obtain ⟨ad, A3, c3, A4, c4, A5, c5, B3, d3, B4, d4, B5, d5, e, h0, h1, h2, h3, h4, h5, h6, h7, h8, h9, h10, h11, h12, hk1, hk2⟩ := at_en HC.out j hlt
    cases e
    have hmem : l[j] ∈ l := List.getElem_mem _
    have hst := take_succ_flat encE l j hlt
    obtain ⟨x, hx⟩ : ∃ x, l[j] = x := ⟨_, rfl⟩
    rw [hx] at h0 h1 h2 h3 h4 h5 h6 h7 h8 h9 h10 h11 h12 hmem hst hk1 hk2
    have hlen := HFL.out (j + 1)
    rw [hst, List.length_append] at hlen
    have hle : (encE x).length = (textL x.f0).length + (encT x.f1).length + (encT x.f2).length := by rw [encE, List.length_append, List.length_append]
    replace h0 := pw_cell_below HB.out h0
    replace h1 := pw_cell_below HB.out h1
    replace h2 := pw_cell_below HB.out h2
    replace h3 := pw_cell_below HB.out h3
    replace h4 := pw_cell_below HB.out h4
    replace h5 := pw_cell_below HB.out h5
    replace h6 := pw_cell_below HB.out h6
    replace h7 := pw_cell_below HB.out h7
    replace h8 := pw_cell_below HB.out h8
    replace h9 := pw_cell_below HB.out h9
    replace h10 := pw_cell_below HB.out h10
    replace h11 := pw_cell_below HB.out h11
    replace h12 := pw_cell_below HB.out h12
    have HOX := Aside0.mk (HO.out x hmem)
    have HOTX := Aside0.mk (HOT.out x hmem)
    have HBA := Aside0.mk (HB.out.alloc HB.out.size (.cells #[.string x.f0, .int .i64 x.f1.f0, .int .i64 x.f1.f1, .string x.f1.f2, .slice A3 x.f1.f3.length c3, .slice A4 x.f1.f4.length c4, .slice A5 x.f1.f5.length c5, .int .i64 x.f2.f0, .int .i64 x.f2.f1, .string x.f2.f2, .slice B3 x.f2.f3.length d3, .slice B4 x.f2.f4.length d4, .slice B5 x.f2.f5.length d5] 59))
    have HSA := Aside0.mk (HS.out.below (below_alloc (Below.refl _ _) (.cells #[.string x.f0, .int .i64 x.f1.f0, .int .i64 x.f1.f1, .string x.f1.f2, .slice A3 x.f1.f3.length c3, .slice A4 x.f1.f4.length c4, .slice A5 x.f1.f5.length c5, .int .i64 x.f2.f0, .int .i64 x.f2.f1, .string x.f2.f2, .slice B3 x.f2.f3.length d3, .slice B4 x.f2.f4.length d4, .slice B5 x.f2.f5.length d5] 59)))
    have HNA := Aside0.mk (blk_new wr (.cells #[.string x.f0, .int .i64 x.f1.f0, .int .i64 x.f1.f1, .string x.f1.f2, .slice A3 x.f1.f3.length c3, .slice A4 x.f1.f4.length c4, .slice A5 x.f1.f5.length c5, .int .i64 x.f2.f0, .int .i64 x.f2.f1, .string x.f2.f2, .slice B3 x.f2.f3.length d3, .slice B4 x.f2.f4.length d4, .slice B5 x.f2.f5.length d5] 59))
    have HNE := Aside0.mk (HSA.out.ne HNA.out (by decide))
    have HK1 := Aside0.mk hk1
    have HK2 := Aside0.mk hk2
    have HST : Aside0 (pre ++ (l.take (j + 1)).flatMap encE = pre ++ (l.take j).flatMap encE ++ textL x.f0 ++ encT x.f1 ++ encT x.f2) := ⟨by rw [hst, encE]; simp [List.append_assoc]⟩
    have HGE : Aside0 ((pre ++ (l.take (j + 1)).flatMap encE).length ≤ (encS l).length) := ⟨by have h9 := HFL.out (j + 1); rw [encS, HPR.out, List.length_append, List.length_append]; omega⟩
    have hx0 : (pre ++ (l.take j).flatMap encE).length ≤ 10000000 := by rw [List.length_append]; omega
    have hx1 : (pre ++ (l.take j).flatMap encE ++ textL x.f0 ++ encT x.f1).length ≤ 10000000 := by rw [List.length_append, List.length_append, List.length_append]; omega
    have hx2 : (pre ++ (l.take j).flatMap encE ++ textL x.f0 ++ encT x.f1 ++ encT x.f2).length ≤ 10000000 := by rw [List.length_append, List.length_append, List.length_append, List.length_append]; omega
    have hc1 := writer_text w p x.f0 _ _ (Nat.le_trans HOX.out.1 (by decide)) HBA.out HSA.out (by omega)
    generalize hY : pre ++ (l.take j).flatMap encE = ys at *
    clear hst hx hmem hk1 hk2 HB HS hlen hle hY
    by_cases hbig : 1048576 < (ys ++ textL x.f0 ++ encT x.f1 ++ encT x.f2).length
    ·go_wp2_with (first
      | (go_at_call 20; refine hc1.mono ?_; rintro e w2 ⟨rfl, hb2, hs2, hkw2⟩; have HKW2 := Aside0.mk hkw2; have HN2 := Aside0.mk (hkw2.blk HNA.out HNE.out (by decide)); have hy1 := (blk_cell HN2.out 1).trans (rfl : _ = some (Value.int .i64 x.f1.f0)); have hy2 := (blk_cell HN2.out 2).trans (rfl : _ = some (Value.int .i64 x.f1.f1)); have hy3 := (blk_cell HN2.out 3).trans (rfl : _ = some (Value.string x.f1.f2)); have hy4 := (blk_cell HN2.out 4).trans (rfl : _ = some (Value.slice A3 x.f1.f3.length c3)); have hy5 := (blk_cell HN2.out 5).trans (rfl : _ = some (Value.slice A4 x.f1.f4.length c4)); have hy6 := (blk_cell HN2.out 6).trans (rfl : _ = some (Value.slice A5 x.f1.f5.length c5)); have hc2 := writer_term HE.out.parts w p (sizeT x.f1) x.f1 _ _ w2 (Nat.le_refl _) HK1.out HOTX.out.1 hb2 hs2 (by omega); clear hc1 hb2 hs2 hkw2)
      | (go_at_call 21; refine hc2.mono ?_; rintro e w3 ⟨rfl, hb3, hs3, hkw3⟩; have HN3 := Aside0.mk (hkw3.blk HN2.out HNE.out (by decide)); have hz7 := (blk_cell HN3.out 7).trans (rfl : _ = some (Value.int .i64 x.f2.f0)); have hz8 := (blk_cell HN3.out 8).trans (rfl : _ = some (Value.int .i64 x.f2.f1)); have hz9 := (blk_cell HN3.out 9).trans (rfl : _ = some (Value.string x.f2.f2)); have hz10 := (blk_cell HN3.out 10).trans (rfl : _ = some (Value.slice B3 x.f2.f3.length d3)); have hz11 := (blk_cell HN3.out 11).trans (rfl : _ = some (Value.slice B4 x.f2.f4.length d4)); have hz12 := (blk_cell HN3.out 12).trans (rfl : _ = some (Value.slice B5 x.f2.f5.length d5)); have hc3 := writer_term HE.out.parts w p (sizeT x.f2) x.f2 _ _ w3 (Nat.le_refl _) HK2.out HOTX.out.2 hb3 hs3 (by omega); clear hc2 hb3 hs3 hkw3)
      | (go_at_call 21; refine hc3.mono ?_; rintro e w4 ⟨rfl, hb4, hs4, _⟩; have HB4 := Aside0.mk hb4; have HS4 := Aside0.mk hs4; obtain ⟨_, A4w, n4w, c4w, hv4, hr4⟩ := hs4.open_; have hn4 : n4w ≤ 10000000 := (by have := (Kd.R_reads' hr4).1; omega); have hcc4 := cell_of_one hv4; have hb5 : decide ((1048576 : Int) < (n4w : Int)) = true := decide_eq_true (by have := (Kd.R_reads' hr4).1; omega); clear hc3 hb4 hs4 hv4 hr4))
     go_ret2
     have hz : encodeI nb rt sl l = ([], 3) := by rw [HR.out, if_pos (by have h8 := HGE.out; rw [HST.out] at h8; omega)]
     exact ⟨.slice none 0 0, by rw [hz]; rfl, by rw [hz]; exact Kd.R_nil _ _ _ _ _, HB4.out⟩
    ·go_wp2_with (first
      | (go_at_call 20; refine hc1.mono ?_; rintro e w2 ⟨rfl, hb2, hs2, hkw2⟩; have HKW2 := Aside0.mk hkw2; have HN2 := Aside0.mk (hkw2.blk HNA.out HNE.out (by decide)); have hy1 := (blk_cell HN2.out 1).trans (rfl : _ = some (Value.int .i64 x.f1.f0)); have hy2 := (blk_cell HN2.out 2).trans (rfl : _ = some (Value.int .i64 x.f1.f1)); have hy3 := (blk_cell HN2.out 3).trans (rfl : _ = some (Value.string x.f1.f2)); have hy4 := (blk_cell HN2.out 4).trans (rfl : _ = some (Value.slice A3 x.f1.f3.length c3)); have hy5 := (blk_cell HN2.out 5).trans (rfl : _ = some (Value.slice A4 x.f1.f4.length c4)); have hy6 := (blk_cell HN2.out 6).trans (rfl : _ = some (Value.slice A5 x.f1.f5.length c5)); have hc2 := writer_term HE.out.parts w p (sizeT x.f1) x.f1 _ _ w2 (Nat.le_refl _) HK1.out HOTX.out.1 hb2 hs2 (by omega); clear hc1 hb2 hs2 hkw2)
      | (go_at_call 21; refine hc2.mono ?_; rintro e w3 ⟨rfl, hb3, hs3, hkw3⟩; have HN3 := Aside0.mk (hkw3.blk HN2.out HNE.out (by decide)); have hz7 := (blk_cell HN3.out 7).trans (rfl : _ = some (Value.int .i64 x.f2.f0)); have hz8 := (blk_cell HN3.out 8).trans (rfl : _ = some (Value.int .i64 x.f2.f1)); have hz9 := (blk_cell HN3.out 9).trans (rfl : _ = some (Value.string x.f2.f2)); have hz10 := (blk_cell HN3.out 10).trans (rfl : _ = some (Value.slice B3 x.f2.f3.length d3)); have hz11 := (blk_cell HN3.out 11).trans (rfl : _ = some (Value.slice B4 x.f2.f4.length d4)); have hz12 := (blk_cell HN3.out 12).trans (rfl : _ = some (Value.slice B5 x.f2.f5.length d5)); have hc3 := writer_term HE.out.parts w p (sizeT x.f2) x.f2 _ _ w3 (Nat.le_refl _) HK2.out HOTX.out.2 hb3 hs3 (by omega); clear hc2 hb3 hs3 hkw3)
      | (go_at_call 21; refine hc3.mono ?_; rintro e w4 ⟨rfl, hb4, hs4, _⟩; have HB4 := Aside0.mk hb4; have HS4 := Aside0.mk hs4; obtain ⟨_, A4w, n4w, c4w, hv4, hr4⟩ := hs4.open_; have hn4 : n4w ≤ 10000000 := (by have := (Kd.R_reads' hr4).1; omega); have hcc4 := cell_of_one hv4; have hb5 : decide ((1048576 : Int) < (n4w : Int)) = false := decide_eq_false (by have := (Kd.R_reads' hr4).1; omega); clear hc3 hb4 hs4 hv4 hr4))
     go_roundg (gk - 1)
     case measure => omega
     case rel => exact ⟨j + 1, rfl, by omega, by omega, HB4, ⟨by rw [HST.out]; exact HS4.out⟩⟩
   ·have hd : decide ((j : Int) < (l.length : Int)) = false := decide_eq_false (by omega)
    have hS := HS.out
    rw [List.take_of_length_le (by omega), ← HPR.out] at hS
    obtain ⟨_, A4w, n4w, c4w, hv4, hr4⟩ := hS.open_
    have hlen := HLEN.out
    rw [encS] at hlen
    have hn4 : n4w ≤ 10000000 := by have := (Kd.R_reads' hr4).1; omega
    have hcc4 := cell_of_one hv4
    by_cases hbig : 1048572 < (encS l).length
    ·have hb5 : decide ((1048572 : Int) < (n4w : Int)) = true := decide_eq_true (by have := (Kd.R_reads' hr4).1; rw [encS] at hbig; omega)
     have hz : encodeI nb rt sl l = ([], 3) := by rw [HR.out, if_pos hbig]
     have HZ := Aside0.mk hz
     clear hS hv4 hr4 hlen HS hz hbig
     go_wp2
     go_ret2
     exact ⟨.slice none 0 0, by rw [HZ.out]; rfl, by rw [HZ.out]; exact Kd.R_nil _ _ _ _ _, HB.out⟩
    ·have hb5 : decide ((1048572 : Int) < (n4w : Int)) = false := decide_eq_false (by have := (Kd.R_reads' hr4).1; rw [encS] at hbig; omega)
     have hz : encodeI nb rt sl l = (sl (encS l), 0) := by rw [HR.out, if_neg hbig]
     have HZ := Aside0.mk hz
     have hcs := HE.out.sealed_ _ _ w wr HB.out (Kd.R_mono hr4 (fun _ _ => trivial)) (HPS.out (by omega))
     clear hS hv4 hr4 hlen HS hz hbig
     go_wp2_with (go_at_call 22; refine hcs.mono ?_; rintro e w5 ⟨v5, rfl, hr5, hb5⟩; have HR5 := Aside0.mk hr5; have HB5 := Aside0.mk hb5; clear hr5 hb5 hcs)
     go_ret2
     exact ⟨v5, by rw [HZ.out]; rfl, by rw [HZ.out]; exact HR5.out, HB5.out⟩
 ·have HR : Aside0 (encodeI nb rt sl l = ([], wrongI nb rt l)) := ⟨by rw [encodeI, if_neg q0]⟩
  have hq : (wrongI nb rt l != 0) = true := by simp [q0]
  clear hok ho hC hT EP q0
  go_enter Tryz.func8, Tryz.ntmps8
  go_wp2_with (go_at_call 18; refine hcw.mono ?_; rintro e w1 ⟨rfl, hb1⟩; have HB1 := Aside0.mk hb1; clear hb1 hcw)
  go_ret2
  exact ⟨.slice none 0 0, by rw [HR.out]; rfl, by rw [HR.out]; exact Kd.R_nil _ _ _ _ _, HB1.out⟩
def refuse (at_ c : Int) : Ending := .panicked [{ v := .iface 69 (.agg #[.int .i64 at_, .int .i64 c]), recovered := false }]
structure RSt (w0 w : World) (p : Nat) (bs : List Int) (s m : Nat) : Prop where
 old : w0.heap.size ≤ p
 row : ∃ A c, w.heap[p]? = some (.cells #[.slice A bs.length c, .int .i64 (s : Int), .map (some m)] 76 (0, 0)) ∧ bs.length ≤ c ∧ Kd.C (Kd.int .u8) w0 A bs.length bs
 len : bs.length ≤ 1048576
 le : s ≤ bs.length
 oct : ∀ x ∈ bs, 0 ≤ x ∧ x < 256
theorem cells3 {w : World} {b t : Nat} {u0 u1 u2 : Value} (h : w.heap[b]? = some (.cells #[u0, u1, u2] t (0, 0))) : w.cell? ⟨b, 0, none⟩ = some u0 ∧ w.cell? ⟨b, 1, none⟩ = some u1 ∧ w.cell? ⟨b, 2, none⟩ = some u2 ∧ w.frozen? ⟨b, 0, none⟩ = false ∧ w.frozen? ⟨b, 1, none⟩ = false ∧ w.frozen? ⟨b, 2, none⟩ = false := by
 simp [World.cell?, World.frozen?, h]
theorem three_set1 {w : World} {b t : Nat} {u0 u1 u2 : Value} (h : w.heap[b]? = some (.cells #[u0, u1, u2] t (0, 0))) (u : Value) : (w.setCell ⟨b, 1, none⟩ u).heap[b]? = some (.cells #[u0, u, u2] t (0, 0)) := by
 have hlt := lt_of_block h
 have h' : w.heap[b] = .cells #[u0, u1, u2] t (0, 0) := by simpa [Array.getElem?_eq_getElem hlt] using h
 show (w.heap.modify b _)[b]? = _
 rw [Array.getElem?_eq_getElem (by simpa using hlt), Array.getElem_modify_self, h']
 rfl
theorem RSt.lt {w0 w : World} {p : Nat} {bs : List Int} {s m : Nat} (h : RSt w0 w p bs s m) : p < w.heap.size := by
 obtain ⟨A, c, hv, _⟩ := h.row
 exact blk_lt hv
theorem RSt.kept {w0 w w1 : World} {p : Nat} {bs : List Int} {s m : Nat} {S : Nat → Prop} (h : RSt w0 w p bs s m) (hk : Kept w w1 S) (hp : ¬ S p) : RSt w0 w1 p bs s m := by
 obtain ⟨A, c, hv, hc, hr⟩ := h.row
 exact ⟨h.old, ⟨A, c, blk_kept hv hk hp, hc, hr⟩, h.len, h.le, h.oct⟩
theorem RSt.below {w0 w w1 : World} {p : Nat} {bs : List Int} {s m : Nat} (h : RSt w0 w p bs s m) (hb : Below w.heap.size w w1) : RSt w0 w1 p bs s m := h.kept (Kept.of_below hb (fun _ => False)) id
theorem RSt.move {w0 w : World} {p : Nat} {bs : List Int} {s m : Nat} (h : RSt w0 w p bs s m) (s2 : Nat) (h2 : s2 ≤ bs.length) : RSt w0 (w.setCell ⟨p, 1, none⟩ (.int .i64 (s2 : Int))) p bs s2 m := by
 obtain ⟨A, c, hv, hc, hr⟩ := h.row
 exact ⟨h.old, ⟨A, c, three_set1 hv _, hc, hr⟩, h.len, h2, h.oct⟩
theorem source_fail (p : Value) (at_ c : Int) (w : World) : Calls Tryz.prog 30 #[p, .int .i64 at_, .int .i64 c] w fun e w' => e = refuse at_ c ∧ w' = w := by
 go_enter Tryz.func30, Tryz.ntmps30
 go_wp2
 simp [bodyPost, refuse]
theorem RSt.at_ {w0 w : World} {p : Nat} {bs : List Int} {s m : Nat} (h : RSt w0 w p bs s m) (hb : Below w0.heap.size w0 w) : ∃ A c, w.heap[p]? = some (.cells #[.slice A bs.length c, .int .i64 (s : Int), .map (some m)] 76 (0, 0)) ∧ bs.length ≤ c ∧ Kd.C (Kd.int .u8) w A bs.length bs := by
 obtain ⟨A, c, hv, hc, hr⟩ := h.row
 exact ⟨A, c, hv, hc, Kd.C_below hr hb⟩
theorem rd_oct {bs : List Int} (h : ∀ x ∈ bs, 0 ≤ x ∧ x < 256) (i : Int) : 0 ≤ rd bs i ∧ rd bs i < 256 := by
 unfold rd
 rw [List.getD_eq_getElem?_getD]
 rcases Nat.lt_or_ge i.toNat bs.length with hi | hi
 ·rw [List.getElem?_eq_getElem hi]
  exact h _ (List.getElem_mem hi)
 ·rw [List.getElem?_eq_none hi]
  simp
theorem source_byte_no (w0 : World) (p : Nat) (bs : List Int) (s m : Nat) (at_ : Int) (w : World) (hb : Below w0.heap.size w0 w) (hr : RSt w0 w p bs s m) (hs : ¬ s < bs.length) :
  Calls Tryz.prog 29 #[.pointer (some ⟨p, 0, none⟩), .int .i64 at_] w fun e w' => e = refuse at_ 61 ∧ Drawn0 w w' := by
 obtain ⟨A, c, hv, hc, hC⟩ := hr.at_ hb
 obtain ⟨c0, c1, c2, f0, f1, f2⟩ := cells3 hv
 have hd : bs.length ≤ s := by omega
 clear hv hC hs hr hb
 go_enter Tryz.func29, Tryz.ntmps29
 go_wp2
 go_quiet (fail)
 go_wp2_with (with_reducible refine (source_fail _ _ _ _).mono ?_; rintro e w' ⟨rfl, rfl⟩)
 rename_i hq
 cases hq
 simp [bodyPost, refuse]
 exact ⟨nq, rfl⟩
theorem cell_from {w0 w : World} {a : Addr} {v : Value} (h : w0.cell? a = some v) (hb : Below w0.heap.size w0 w) : w.cell? a = some v := by
 have := hb.block a.block (World.block_lt_of_cell? w0 _ h)
 simpa [World.cell?, this] using h
theorem cell_far {w : World} {a : Addr} {p j : Nat} {u v : Value} (h : w.cell? a = some v) (hp : a.block ≠ p) : (w.setCell ⟨p, j, none⟩ u).cell? a = some v := by
 have := Below.heap_setCell w ⟨p, j, none⟩ u a.block hp
 simpa [World.cell?, this] using h
theorem source_byte (w0 : World) (p : Nat) (bs : List Int) (s m : Nat) (at_ : Int) (w : World) (hb : Below w0.heap.size w0 w) (hr : RSt w0 w p bs s m) (hs : s < bs.length) :
  Calls Tryz.prog 29 #[.pointer (some ⟨p, 0, none⟩), .int .i64 at_] w fun e w' => e = .returned (.int .u8 (rd bs s)) ∧ RSt w0 w' p bs (s + 1) m ∧ Below w0.heap.size w0 w' ∧ Kept w w' (fun k => k = p) := by
 obtain ⟨A, c, hv, hc, hC0⟩ := hr.row
 have hl := hr.len
 obtain ⟨c0, c1, c2, f0, f1, f2⟩ := cells3 hv
 have hd : ¬ bs.length ≤ s := by omega
 obtain ⟨ad, rfl, ha⟩ := Kd.at_int hC0 (s : Int) (by omega) (by omega)
 rw [Int.toNat_natCast] at ha
 have hne : (ad.add s).block ≠ p := fun e => by
  have h1 := World.block_lt_of_cell? w0 _ ha
  have h2 := hr.old
  omega
 have HA := Aside0.mk (cell_from ha hb)
 have HN := Aside0.mk hne
 have hi1 : (0 : Int) ≤ (s : Int) := by omega
 have hi2 : (s : Int) < (bs.length : Int) := by omega
 have HH := Aside0.mk hr
 have HB := Aside0.mk hb
 have HV := Aside0.mk hv
 have HL := Aside0.mk hl
 have hw1 : wrap64 ((s : Int) + 1) = (s : Int) + 1 := by unfold wrap64; omega
 have hw2 : IntKind.i64.wrap (s : Int) = (s : Int) := by rw [show IntKind.i64.wrap (s : Int) = wrap64 (s : Int) from i64_w _]; unfold wrap64; omega
 clear hC0 hr hb ha hne hv hl
 go_enter Tryz.func29, Tryz.ntmps29
 go_wp2
 go_quiet (fail)
 go_wp2
 have hv1 : (w.drewN nq).heap[p]? = some (.cells #[.slice (some ad) bs.length c, .int .i64 (s : Int), .map (some m)] 76 (0, 0)) := HV.out
 have hv2 := three_set1 hv1 (.int .i64 ((s : Int) + 1))
 have ha2 := cell_far (j := 1) (u := .int .i64 ((s : Int) + 1)) (show (w.drewN nq).cell? (ad.add s) = _ from HA.out) HN.out
 have HR2 := Aside0.mk (show RSt w0 ((w.drewN nq).setCell ⟨p, 1, none⟩ (.int .i64 ((s : Int) + 1))) p bs (s + 1) m from RSt.move (w := w.drewN nq) (HH.out.below (pw_below_drewN (Below.refl _ _) nq)) (s + 1) (by omega))
 have HB2 := Aside0.mk ((pw_below_drewN HB.out nq).setCell (p := ⟨p, 1, none⟩) HH.out.old (.int .i64 ((s : Int) + 1)))
 have HK2 := Aside0.mk (((Kept.refl w (fun k => k = p)).drewN nq).setCell (p := ⟨p, 1, none⟩) (.inl rfl) (.int .i64 ((s : Int) + 1)))
 clear c0 c1 c2 f0 f1 f2 hw1 HV hv1 HA HB HH
 revert HR2 HB2 HK2 hv2 ha2
 generalize (w.drewN nq).setCell ⟨p, 1, none⟩ (.int .i64 ((s : Int) + 1)) = W
 intro hv2 ha2 HR2 HB2 HK2
 obtain ⟨c0, c1, c2, f0, f1, f2⟩ := cells3 hv2
 clear hv2
 go_quiet (fail)
 go_wp2
 go_ret
 exact ⟨rfl, HR2.out.below (pw_below_drewN (Below.refl _ _) nq), pw_below_drewN HB2.out nq, HK2.out.drewN nq⟩
def numG (bs : List Int) (a : Nat) : Nat → Nat → Nat → Nat → Except (Int × Int) (Nat × Nat)
 | 0, _, _, _ => .error ((a : Int), 61)
 | k + 1, n, i, s =>
  if s < bs.length then
   if 2147483647 < n + (rd bs s).toNat % 128 * 128 ^ i ∨ 4 < i ∨ (rd bs s).toNat = 0 ∧ 0 < i then .error ((a : Int), 61)
   else if (rd bs s).toNat < 128 then .ok (n + (rd bs s).toNat % 128 * 128 ^ i, s + 1)
   else numG bs a k (n + (rd bs s).toNat % 128 * 128 ^ i) (i + 1) (s + 1)
  else .error ((a : Int), 61)
def numS (bs : List Int) (s : Nat) : Except (Int × Int) (Nat × Nat) := numG bs s 6 0 0 s
def RPost {α : Type} (w0 w : World) (p m : Nat) (bs : List Int) (mk : α → World → Value → Prop) (r : Except (Int × Int) (α × Nat)) (e : Ending) (w' : World) : Prop :=
 Below w0.heap.size w0 w' ∧ Kept w w' (fun k => k = p) ∧ match r with
  | .ok (x, s) => RSt w0 w' p bs s m ∧ ∃ v, e = .returned v ∧ mk x w' v
  | .error (a, c) => e = refuse a c
def intV (n : Nat) (w : World) (v : Value) : Prop := v = .int .i64 (n : Int)
set_option maxRecDepth 100000 in
theorem and127 : ∀ r : Fin 256, bits .and .u8 ((r.val : Nat) : Int) 127 = ((r.val % 128 : Nat) : Int) := by decide
theorem wrap_u64n (n : Nat) (h : n < 18446744073709551616) : IntKind.u64.wrap (n : Int) = (n : Int) := by
 simp [IntKind.wrap, IntKind.bits, IntKind.signed]
 omega
theorem or_shl (n c i : Nat) (hn : n < 128 ^ i) (hc : c < 256) (hi : i < 6) :
  bits .or .u64 (n : Int) (IntKind.u64.wrap (IntKind.u64.wrap (bits .and .u8 (c : Int) 127) * 2 ^ (7 * i))) = ((n + c % 128 * 128 ^ i : Nat) : Int) := by
 have h1 : bits .and .u8 (c : Int) 127 = ((c % 128 : Nat) : Int) := and127 ⟨c, hc⟩
 have h2 : (128 : Nat) ^ i = 2 ^ (7 * i) := by rw [show (128 : Nat) = 2 ^ 7 from rfl, ← Nat.pow_mul]
 have h3 : (2 : Nat) ^ (7 * i) ≤ 2 ^ 35 := Nat.pow_le_pow_right (by omega) (by omega)
 have h4 : c % 128 * 2 ^ (7 * i) ≤ 127 * 2 ^ 35 := Nat.mul_le_mul (by omega) h3
 rw [h2] at hn ⊢
 rw [h1, wrap_u64n _ (by omega), show (((c % 128 : Nat) : Int) * 2 ^ (7 * i)) = ((c % 128 * 2 ^ (7 * i) : Nat) : Int) by rw [Int.natCast_mul]; congr 1, wrap_u64n _ (by omega)]
 have ha : n < 2 ^ 63 := by omega
 have hb : c % 128 * 2 ^ (7 * i) < 2 ^ 63 := by omega
 rw [(bits_nat .u64 63 (by decide) (fun m h0 h1 => by obtain ⟨a, rfl⟩ := Int.eq_ofNat_of_zero_le h0; exact wrap_u64n a (by omega)) n _ ha hb).2]
 congr 1
 rw [Nat.or_comm, Nat.mul_comm, ← Nat.two_pow_add_eq_or_of_lt hn, Nat.add_comm]
theorem RPost.no {α : Type} {w0 w w' : World} {p m : Nat} {bs : List Int} {mk : α → World → Value → Prop} {r : Except (Int × Int) (α × Nat)} {a c : Int} (hr : r = .error (a, c)) (hb : Below w0.heap.size w0 w') (hk : Kept w w' (fun k => k = p)) : RPost w0 w p m bs mk r (refuse a c) w' := by
 subst hr
 exact ⟨hb, hk, rfl⟩
theorem RPost.yes {α : Type} {w0 w w' : World} {p m : Nat} {bs : List Int} {mk : α → World → Value → Prop} {r : Except (Int × Int) (α × Nat)} {x : α} {s : Nat} {v : Value} (hr : r = .ok (x, s)) (hb : Below w0.heap.size w0 w') (hk : Kept w w' (fun k => k = p)) (hR : RSt w0 w' p bs s m) (hm : mk x w' v) : RPost w0 w p m bs mk r (.returned v) w' := by
 subst hr
 exact ⟨hb, hk, hR, v, rfl, hm⟩
set_option maxHeartbeats 1000000 in
set_option maxRecDepth 100000 in
theorem source_number (w0 : World) (p : Nat) (bs : List Int) (s m : Nat) (w : World) (hb : Below w0.heap.size w0 w) (hr : RSt w0 w p bs s m) :
  Calls Tryz.prog 31 #[.pointer (some ⟨p, 0, none⟩)] w (RPost w0 w p m bs intV (numS bs s)) := by
 obtain ⟨A, c, hv, hc, hC0⟩ := hr.row
 obtain ⟨c0, c1, c2, f0, f1, f2⟩ := cells3 hv
 have HR := Aside0.mk hr
 have HB := Aside0.mk hb
 clear hr hb hC0 hv
 go_enter Tryz.func31, Tryz.ntmps31
 go_wp2
 go_loopg [4, 5, 6] 6 (fun kq v4 v5 v6 w' => ∃ (n i s2 : Nat), v4 = .int .u64 (n : Int) ∧ v5 = .int .u64 ((7 * i : Nat) : Int) ∧ i + kq = 6 ∧ i ≤ 5 ∧ n ≤ 2147483647 ∧ Aside0 (n < 128 ^ i) ∧ Aside0 (numG bs s kq n i s2 = numS bs s) ∧ Aside0 (RSt w0 w' p bs s2 m) ∧ Aside0 (Below w0.heap.size w0 w') ∧ Aside0 (Kept w w' (fun k => k = p)))
 case atStart => exact ⟨0, 0, s, rfl, rfl, rfl, by omega, by omega, ⟨by decide⟩, ⟨rfl⟩, HR, HB, ⟨Kept.refl _ _⟩⟩
 case round =>
  clear HB HR c0 c1 c2 f0 f1 f2
  obtain ⟨n, i, s2, rfl, rfl, hk, hi5, hn, hni, HG, HR, HB, HK⟩ := hrel
  by_cases hs : s2 < bs.length
  ·have ho := rd_oct HR.out.oct (s2 : Int)
   obtain ⟨cN, hcN⟩ := Int.eq_ofNat_of_zero_le ho.1
   have hc6 : cN < 256 := by omega
   have hlt : i < 6 := by omega
   have hq := or_shl n cN i hni.out hc6 hlt
   obtain ⟨g2, rfl⟩ : ∃ g2, gk = g2 + 1 := ⟨gk - 1, by omega⟩
   have hG := HG.out
   rw [numG, if_pos hs, hcN, show ((cN : Int)).toNat = cN from rfl] at hG
   have HC := Aside0.mk hcN
   clear ho HG hcN
   generalize hqq : n + cN % 128 * 128 ^ i = q at hq hG
   by_cases h1 : 2147483647 < q
   ·rw [if_pos (.inl h1)] at hG
    have HG := Aside0.mk hG.symm
    clear hG hqq
    go_wp2_with (first | ((with_reducible refine (source_byte w0 p bs s2 m _ _ HB.out HR.out hs).mono ?_); rintro e w1 ⟨rfl, hr1, hb1, hk1⟩; rw [HC.out]; have HR1 := Aside0.mk hr1; have HB1 := Aside0.mk hb1; have HK1 := Aside0.mk (HK.out.then_ hk1 (fun _ h => .inl h)); clear hr1 hb1 hk1) | ((with_reducible refine (source_fail _ _ _ _).mono ?_); rintro e w2 ⟨rfl, rfl⟩))
    rename_i hq9; cases hq9; simp only [bodyPost]; exact ⟨trivial, RPost.no HG.out HB1.out HK1.out⟩
   ·by_cases h2 : 4 < i
    ·have h2' : (35 : Int) < 7 * (i : Int) + 7 := by omega
     rw [if_pos (.inr (.inl h2))] at hG
     have HG := Aside0.mk hG.symm
     clear hG hqq
     go_wp2_with (first | ((with_reducible refine (source_byte w0 p bs s2 m _ _ HB.out HR.out hs).mono ?_); rintro e w1 ⟨rfl, hr1, hb1, hk1⟩; rw [HC.out]; have HR1 := Aside0.mk hr1; have HB1 := Aside0.mk hb1; have HK1 := Aside0.mk (HK.out.then_ hk1 (fun _ h => .inl h)); clear hr1 hb1 hk1) | ((with_reducible refine (source_fail _ _ _ _).mono ?_); rintro e w2 ⟨rfl, rfl⟩))
     rename_i hq9; cases hq9; simp only [bodyPost]; exact ⟨trivial, RPost.no HG.out HB1.out HK1.out⟩
    ·have h2' : ¬ (35 : Int) < 7 * (i : Int) + 7 := by omega
     by_cases h4 : cN = 0
     ·by_cases h5 : 0 < i
      ·have h5' : (7 : Int) < 7 * (i : Int) + 7 := by omega
       rw [if_pos (.inr (.inr ⟨h4, h5⟩))] at hG
       subst h4
       have hq' : bits .or .u64 (n : Int) (IntKind.u64.wrap (IntKind.u64.wrap (bits .and .u8 0 127) * 2 ^ (7 * i))) = (q : Int) := hq
       have HG := Aside0.mk hG.symm
       clear hG hqq
       go_wp2_with (first | ((with_reducible refine (source_byte w0 p bs s2 m _ _ HB.out HR.out hs).mono ?_); rintro e w1 ⟨rfl, hr1, hb1, hk1⟩; rw [HC.out]; have HR1 := Aside0.mk hr1; have HB1 := Aside0.mk hb1; have HK1 := Aside0.mk (HK.out.then_ hk1 (fun _ h => .inl h)); clear hr1 hb1 hk1) | ((with_reducible refine (source_fail _ _ _ _).mono ?_); rintro e w2 ⟨rfl, rfl⟩))
       rename_i hq9; cases hq9; simp only [bodyPost]; exact ⟨trivial, RPost.no HG.out HB1.out HK1.out⟩
      ·have h5' : ¬ (7 : Int) < 7 * (i : Int) + 7 := by omega
       rw [if_neg (by omega), if_pos (by omega)] at hG
       subst h4
       have hq' : bits .or .u64 (n : Int) (IntKind.u64.wrap (IntKind.u64.wrap (bits .and .u8 0 127) * 2 ^ (7 * i))) = (q : Int) := hq
       have HG := Aside0.mk hG.symm
       clear hG hqq
       go_wp2_with (first | ((with_reducible refine (source_byte w0 p bs s2 m _ _ HB.out HR.out hs).mono ?_); rintro e w1 ⟨rfl, hr1, hb1, hk1⟩; rw [HC.out]; have HR1 := Aside0.mk hr1; have HB1 := Aside0.mk hb1; have HK1 := Aside0.mk (HK.out.then_ hk1 (fun _ h => .inl h)); clear hr1 hb1 hk1) | ((with_reducible refine (source_fail _ _ _ _).mono ?_); rintro e w2 ⟨rfl, rfl⟩))
       go_ret; exact RPost.yes HG.out HB1.out HK1.out HR1.out rfl
     ·by_cases h6 : cN < 128
      ·rw [if_neg (by omega), if_pos h6] at hG
       have HG := Aside0.mk hG.symm
       clear hG hqq
       go_wp2_with (first | ((with_reducible refine (source_byte w0 p bs s2 m _ _ HB.out HR.out hs).mono ?_); rintro e w1 ⟨rfl, hr1, hb1, hk1⟩; rw [HC.out]; have HR1 := Aside0.mk hr1; have HB1 := Aside0.mk hb1; have HK1 := Aside0.mk (HK.out.then_ hk1 (fun _ h => .inl h)); clear hr1 hb1 hk1) | ((with_reducible refine (source_fail _ _ _ _).mono ?_); rintro e w2 ⟨rfl, rfl⟩))
       go_ret; exact RPost.yes HG.out HB1.out HK1.out HR1.out rfl
      ·have hqb : q < 128 ^ (i + 1) := by
        rw [← hqq, Nat.pow_succ]
        have h7 : cN % 128 * 128 ^ i ≤ 127 * 128 ^ i := Nat.mul_le_mul_right _ (by omega)
        have h8 := hni.out
        omega
       have HQ := Aside0.mk hqb; rw [if_neg (by omega), if_neg h6] at hG; have HG := Aside0.mk hG; clear hG hqq hqb
       go_wp2_with (first | ((with_reducible refine (source_byte w0 p bs s2 m _ _ HB.out HR.out hs).mono ?_); rintro e w1 ⟨rfl, hr1, hb1, hk1⟩; rw [HC.out]; have HR1 := Aside0.mk hr1; have HB1 := Aside0.mk hb1; have HK1 := Aside0.mk (HK.out.then_ hk1 (fun _ h => .inl h)); clear hr1 hb1 hk1) | ((with_reducible refine (source_fail _ _ _ _).mono ?_); rintro e w2 ⟨rfl, rfl⟩))
       go_roundg g2
       case measure => omega
       case rel => exact ⟨q, i + 1, s2 + 1, rfl, rfl, by omega, by omega, by omega, HQ, HG, HR1, HB1, HK1⟩
  ·have hG := HG.out
   obtain ⟨g2, rfl⟩ : ∃ g2, gk = g2 + 1 := ⟨gk - 1, by omega⟩
   rw [numG, if_neg hs] at hG
   have HG := Aside0.mk hG.symm
   clear hG
   go_wp2_with ((with_reducible refine (source_byte_no w0 p bs s2 m _ _ HB.out HR.out hs).mono ?_); rintro e w1 ⟨rfl, hd1⟩)
   rename_i hq9; cases hq9; simp only [bodyPost]
   obtain ⟨m1, rfl⟩ := hd1
   exact ⟨trivial, RPost.no HG.out (pw_below_drewN HB.out m1) (HK.out.drewN m1)⟩
def Res3 (w : World) (g : Nat) (v : Value) (at_ e : Int) : Prop :=
 w.heap[g]? = some (.cells #[v] 29 (0, 0)) ∧ w.heap[g + 1]? = some (.cells #[.int .i64 at_] 3 (0, 0)) ∧ w.heap[g + 2]? = some (.cells #[.int .i64 e] 26 (0, 0))
theorem Res3.kept {w w1 : World} {g : Nat} {v : Value} {at_ e : Int} {S : Nat → Prop} (h : Res3 w g v at_ e) (hk : Kept w w1 S) (hS : ¬ S g ∧ ¬ S (g + 1) ∧ ¬ S (g + 2)) : Res3 w1 g v at_ e :=
 ⟨blk_kept h.1 hk hS.1, blk_kept h.2.1 hk hS.2.1, blk_kept h.2.2 hk hS.2.2⟩
theorem Res3.below {w w1 : World} {g : Nat} {v : Value} {at_ e : Int} (h : Res3 w g v at_ e) (hb : Below w.heap.size w w1) : Res3 w1 g v at_ e := h.kept (Kept.of_below hb (fun _ => False)) ⟨id, id, id⟩
theorem blk_set {w : World} {k p j : Nat} {o : Obj} (h : w.heap[k]? = some o) (hk : k ≠ p) (u : Value) : (w.setCell ⟨p, j, none⟩ u).heap[k]? = some o := (Below.heap_setCell w ⟨p, j, none⟩ u k hk).trans h
theorem Res3.set0 {w : World} {g : Nat} {v : Value} {at_ e : Int} (h : Res3 w g v at_ e) (u : Value) : Res3 (w.setCell ⟨g, 0, none⟩ u) g u at_ e := ⟨one_setCell h.1, blk_set h.2.1 (by omega) u, blk_set h.2.2 (by omega) u⟩
theorem Res3.set1 {w : World} {g : Nat} {v : Value} {at_ e : Int} (h : Res3 w g v at_ e) (a : Int) : Res3 (w.setCell ⟨g + 1, 0, none⟩ (.int .i64 a)) g v a e := ⟨blk_set h.1 (by omega) _, one_setCell h.2.1, blk_set h.2.2 (by omega) _⟩
theorem Res3.set2 {w : World} {g : Nat} {v : Value} {at_ e : Int} (h : Res3 w g v at_ e) (c : Int) : Res3 (w.setCell ⟨g + 2, 0, none⟩ (.int .i64 c)) g v at_ c := ⟨blk_set h.1 (by omega) _, blk_set h.2.1 (by omega) _, one_setCell h.2.2⟩
set_option maxHeartbeats 1000000 in
set_option maxRecDepth 100000 in
theorem decode_idle (g : Nat) (w : World) :
  CallsD Tryz.prog 28 #[.pointer (some ⟨g, 0, none⟩), .pointer (some ⟨g + 1, 0, none⟩), .pointer (some ⟨g + 2, 0, none⟩)] .returning w fun e u' w' => e = .returned (.tuple #[]) ∧ u' = .returning ∧ w' = w := by
 refine callsD_of_wpS Tryz.func28 rfl fun c₀ cs hu => ?_
 rw [show (#[Value.pointer (some ⟨g, 0, none⟩), Value.pointer (some ⟨g + 1, 0, none⟩), Value.pointer (some ⟨g + 2, 0, none⟩)] ++ Array.replicate (Tryz.f28.ntmps - (#[Value.pointer (some ⟨g, 0, none⟩), Value.pointer (some ⟨g + 1, 0, none⟩), Value.pointer (some ⟨g + 2, 0, none⟩)] : Array Value).size) undef : Array Value) = #[.pointer (some ⟨g, 0, none⟩), .pointer (some ⟨g + 1, 0, none⟩), .pointer (some ⟨g + 2, 0, none⟩), undef, undef, undef, undef, undef, undef, undef, undef, undef, undef, undef, undef, undef, undef, undef, undef] by rw [Tryz.ntmps28]; rfl]
 apply wpS_seq
 apply wpS_region
 simp [wpOpsS, go_sem, recoverD, hu, Tryz.ntmps28, Exit.thenS]
 refine wpS_of_wp ?_
 go_wp2
 cases c₀
 simp_all [bodyPostS, results, Tryz.results28]
end Go.Proofs.YtahdjajdaggmjaaGreatDoor.XPa
end
