/-
Walks: formula.fold, not, Not (written by wip/mkfo.py).
-/
import Derived.Test.YtfbcgjkagdbckaaDoorFo
import Derived.Test.YtfbcgjkagdbckaaDoorLz
namespace Go.Proofs.YtfbcgjkagdbckaaDoor
open Go.RowKit H

set_option maxRecDepth 100000 in
set_option maxHeartbeats 4000000 in
theorem fold_plain (F : FuncId) (step : List C → C → List C × Int) (Q : List C → Prop) (cap : Nat) (A : Option Addr) (l L0 : List C) (v0 : Value) (w0 w : World) (hR : Rd w0 A l) (hlen : l.length ≤ 1000000) (hb0 : Below w0.heap.size w0 w) (ho0 : Own w w0.heap.size v0 L0) (hQ0 : Q L0)
    (hQ : ∀ L c, c ∈ l → Q L → (step L c).2 = 0 → Q (step L c).1)
    (eg : ∀ args w, (callFunc F args).run Tryd.prog w = .ok (.enter F args) w)
    (hp : ∀ (L : List C) (c : C) (v : Value) (w1 : World), c ∈ l → Q L → Own w1 w0.heap.size v L → Below w0.heap.size w0 w1 → Calls Tryd.prog F #[v, .agg #[.int .u32 (un c.1), .int .u32 (un c.2)]] w1 fun e w' => ∃ v', e = .returned (.tuple #[v', .int .i64 (step L c).2]) ∧ Own w' w0.heap.size v' (step L c).1 ∧ Below w0.heap.size w1 w') :
    Calls Tryd.prog 81 #[.slice A l.length cap, v0, .func (.func F) #[] #[]] w fun e w' => ∃ v, e = .returned (.tuple #[v, .int .i64 (foldE [] step l L0).2]) ∧ Own w' w0.heap.size v (foldE [] step l L0).1 ∧ Below w0.heap.size w0 w' := by
  go_enter Tryd.func81, Tryd.ntmps81
  go_wp2
  go_loopg [1, 15] (l.length + 1) (fun kq v1 v15 w' => ∃ (j : Nat) (L : List C), v15 = .int .i64 (j : Int) ∧ j ≤ l.length ∧ kq + j = l.length + 1 ∧ Hid (foldE [] step (l.drop j) L = foldE [] step l L0) ∧ Hid (Q L) ∧ Own w' w0.heap.size v1 L ∧ Below w0.heap.size w0 w')
  case atStart => exact ⟨0, L0, rfl, Nat.zero_le _, rfl, Lib.hid rfl, Lib.hid hQ0, ho0, hb0⟩
  case round =>
    obtain ⟨j, L, rfl, hj, hk, hf, hq, ho, hb⟩ := hrel
    by_cases hlt : j < l.length
    · obtain ⟨b0, off, rfl, h1, h2⟩ := (hR.below hb).at_ hlt
      have hdrop : l.drop j = l[j] :: l.drop (j + 1) := List.drop_eq_getElem_cons hlt
      have hb1 := hb.alloc hb.size (.cells #[.int .u32 (un l[j].1), .int .u32 (un l[j].2)] 60)
      have hpj := hp L l[j] _ (wr.alloc (.cells #[.int .u32 (un l[j].1), .int .u32 (un l[j].2)] 60)) (List.getElem_mem _) hq ⟨ho.1.alloc _, ho.2⟩ hb1
      have HB1 := Lib.hid hb1
      rw [hdrop] at hf
      by_cases he : (step L l[j]).2 = 0
      · have HQ2 := Lib.hid (hQ L l[j] (List.getElem_mem _) hq he)
        have HF2 : Hid (foldE [] step (l.drop (j + 1)) (step L l[j]).1 = foldE [] step l L0) := Lib.hid (by
          rw [← (show _ = _ from hf), foldE, if_pos he])
        rw [he] at hpj
        clear hf hb hb1 ho hdrop hp he hQ hQ0 ho0
        generalize (step L l[j]).1 = L2 at *
        go_wp2_with (go_at_fn F; refine hpj.mono ?_; rintro e w2 ⟨v2, rfl, ho2, hb2⟩)
        go_roundg (gk - 1)
        case measure => omega
        case rel => exact ⟨j + 1, L2, by simp, by omega, by omega, HF2, HQ2, ho2, (show Below _ _ _ from HB1).trans hb2⟩
      · have HF2 : Hid (foldE [] step l L0 = ([], (step L l[j]).2)) := Lib.hid (by
          rw [← (show _ = _ from hf), foldE, if_neg he])
        clear hf hb hb1 ho hdrop hp hQ hQ0 ho0
        have hne : ((step L l[j]).2 != 0) = true := by simpa using he
        generalize (step L l[j]).2 = ev at *
        generalize (step L l[j]).1 = L2 at *
        go_wp2_with (go_at_fn F; refine hpj.mono ?_; rintro e w2 ⟨v2, rfl, ho2, hb2⟩)
        go_ret2
        rw [show foldE [] step l L0 = _ from HF2]
        exact ⟨_, rfl, Own.nil _ _, (show Below _ _ _ from HB1).trans hb2⟩
    · have hfin : Hid (foldE [] step l L0 = (L, 0)) := Lib.hid (by
        rw [← (show _ = _ from hf), List.drop_eq_nil_of_le (by omega)]
        rfl)
      clear hp hf hQ hq ho0 hQ0
      go_wp2
      go_ret2
      rw [show foldE [] step l L0 = _ from hfin]
      exact ⟨_, rfl, ho, hb⟩
set_option maxRecDepth 100000 in
set_option maxHeartbeats 4000000 in
theorem fold_two (F : FuncId) (p q : Value) (step : List C → C → List C × Int) (Q : List C → Prop) (cap : Nat) (A : Option Addr) (l L0 : List C) (v0 : Value) (w0 w : World) (hR : Rd w0 A l) (hlen : l.length ≤ 1000000) (hb0 : Below w0.heap.size w0 w) (ho0 : Own w w0.heap.size v0 L0) (hQ0 : Q L0)
    (hQ : ∀ L c, c ∈ l → Q L → (step L c).2 = 0 → Q (step L c).1)
    (eg : ∀ args w, (callFunc F args).run Tryd.prog w = .ok (.enter F args) w)
    (hp : ∀ (L : List C) (c : C) (v : Value) (w1 : World), c ∈ l → Q L → Own w1 w0.heap.size v L → Below w0.heap.size w0 w1 → Calls Tryd.prog F #[v, .agg #[.int .u32 (un c.1), .int .u32 (un c.2)], p, q] w1 fun e w' => ∃ v', e = .returned (.tuple #[v', .int .i64 (step L c).2]) ∧ Own w' w0.heap.size v' (step L c).1 ∧ Below w0.heap.size w1 w') :
    Calls Tryd.prog 81 #[.slice A l.length cap, v0, .func (.func F) #[] #[p, q]] w fun e w' => ∃ v, e = .returned (.tuple #[v, .int .i64 (foldE [] step l L0).2]) ∧ Own w' w0.heap.size v (foldE [] step l L0).1 ∧ Below w0.heap.size w0 w' := by
  go_enter Tryd.func81, Tryd.ntmps81
  go_wp2
  go_loopg [1, 15] (l.length + 1) (fun kq v1 v15 w' => ∃ (j : Nat) (L : List C), v15 = .int .i64 (j : Int) ∧ j ≤ l.length ∧ kq + j = l.length + 1 ∧ Hid (foldE [] step (l.drop j) L = foldE [] step l L0) ∧ Hid (Q L) ∧ Own w' w0.heap.size v1 L ∧ Below w0.heap.size w0 w')
  case atStart => exact ⟨0, L0, rfl, Nat.zero_le _, rfl, Lib.hid rfl, Lib.hid hQ0, ho0, hb0⟩
  case round =>
    obtain ⟨j, L, rfl, hj, hk, hf, hq, ho, hb⟩ := hrel
    by_cases hlt : j < l.length
    · obtain ⟨b0, off, rfl, h1, h2⟩ := (hR.below hb).at_ hlt
      have hdrop : l.drop j = l[j] :: l.drop (j + 1) := List.drop_eq_getElem_cons hlt
      have hb1 := hb.alloc hb.size (.cells #[.int .u32 (un l[j].1), .int .u32 (un l[j].2)] 60)
      have hpj := hp L l[j] _ (wr.alloc (.cells #[.int .u32 (un l[j].1), .int .u32 (un l[j].2)] 60)) (List.getElem_mem _) hq ⟨ho.1.alloc _, ho.2⟩ hb1
      have HB1 := Lib.hid hb1
      rw [hdrop] at hf
      by_cases he : (step L l[j]).2 = 0
      · have HQ2 := Lib.hid (hQ L l[j] (List.getElem_mem _) hq he)
        have HF2 : Hid (foldE [] step (l.drop (j + 1)) (step L l[j]).1 = foldE [] step l L0) := Lib.hid (by
          rw [← (show _ = _ from hf), foldE, if_pos he])
        rw [he] at hpj
        clear hf hb hb1 ho hdrop hp he hQ hQ0 ho0
        generalize (step L l[j]).1 = L2 at *
        go_wp2_with (go_at_fn F; refine hpj.mono ?_; rintro e w2 ⟨v2, rfl, ho2, hb2⟩)
        go_roundg (gk - 1)
        case measure => omega
        case rel => exact ⟨j + 1, L2, by simp, by omega, by omega, HF2, HQ2, ho2, (show Below _ _ _ from HB1).trans hb2⟩
      · have HF2 : Hid (foldE [] step l L0 = ([], (step L l[j]).2)) := Lib.hid (by
          rw [← (show _ = _ from hf), foldE, if_neg he])
        clear hf hb hb1 ho hdrop hp hQ hQ0 ho0
        have hne : ((step L l[j]).2 != 0) = true := by simpa using he
        generalize (step L l[j]).2 = ev at *
        generalize (step L l[j]).1 = L2 at *
        go_wp2_with (go_at_fn F; refine hpj.mono ?_; rintro e w2 ⟨v2, rfl, ho2, hb2⟩)
        go_ret2
        rw [show foldE [] step l L0 = _ from HF2]
        exact ⟨_, rfl, Own.nil _ _, (show Below _ _ _ from HB1).trans hb2⟩
    · have hfin : Hid (foldE [] step l L0 = (L, 0)) := Lib.hid (by
        rw [← (show _ = _ from hf), List.drop_eq_nil_of_le (by omega)]
        rfl)
      clear hp hf hQ hq ho0 hQ0
      go_wp2
      go_ret2
      rw [show foldE [] step l L0 = _ from hfin]
      exact ⟨_, rfl, ho, hb⟩
structure SmallN : Prop extends SmallP where
  opp : ∀ (c : C) (w : World), Tab w → Calls Tryd.prog 109 #[.agg #[.int .u32 (un c.1), .int .u32 (un c.2)]] w fun e w' => ∃ v, e = .returned (.tuple #[v, .int .i64 0]) ∧ Own w' w.heap.size v (least (opps c)).1 ∧ Below w.heap.size w w'
set_option maxRecDepth 100000 in
set_option maxHeartbeats 2000000 in
theorem not_pred (S : SmallN) (L : List C) (c : C) (v : Value) (w0 w : World) (ho : Own w w0.heap.size v L) (hb : Below w0.heap.size w0 w) (hL : L.length ≤ 64) (HT : Tab w) :
    Calls Tryd.prog 108 #[v, .agg #[.int .u32 (un c.1), .int .u32 (un c.2)]] w fun e w' => ∃ v', e = .returned (.tuple #[v', .int .i64 (notStep L c).2]) ∧ Own w' w0.heap.size v' (notStep L c).1 ∧ Below w0.heap.size w w' := by
  obtain ⟨A, cp, rfl, hR⟩ := ho.slice
  have hb1 : Below w.heap.size w (w.alloc (.cells #[.int .u32 (un c.1), .int .u32 (un c.2)] 60)) := (Below.refl _ _).alloc (Nat.le_refl _) _
  have hA1 : At2 (w.alloc (.cells #[.int .u32 (un c.1), .int .u32 (un c.2)] 60)) w.heap.size c := ⟨World.cell?_alloc_new .., World.cell?_alloc_new ..⟩
  have e1 := hA1.1
  have e2 := hA1.2
  have hopp := S.opp c _ (HT.below hb1)
  have hk64 := least_len (opps c)
  have hm := fun A1 c1 w1 (h0 : Rd w1 A L) (h1 : Rd w1 A1 (least (opps c)).1) => form_meet S.toSmallP A A1 cp c1 L (least (opps c)).1 w1 h0 h1 (Nat.le_trans (Nat.mul_le_mul hL hk64) (by decide)) (by omega) (by omega)
  rw [notStep_eq]
  unfold H.meetF
  have HS := Lib.hid hb.size
  have HB1 := Lib.hid hb1
  clear hA1 hb1 ho HT
  generalize least (meets L (least (opps c)).1) = R at *
  generalize (least (opps c)).1 = K at *
  go_enter Tryd.func108, Tryd.ntmps108
  go_wp2_with (first
    | (go_at_call 109; refine hopp.mono ?_; rintro e w2 ⟨v2, rfl, ho2, hb2⟩; obtain ⟨A2, c2, rfl, hR2⟩ := ho2.slice; have hb3 := below_then HB1 (Below.size HB1) hb2)
    | (go_at_call 65; refine (hm _ _ _ (hR.below hb3) hR2).mono ?_; rintro e w4 ⟨v4, rfl, ho4, hb4⟩))
  go_ret2
  have hs2 := (hb3.size)
  exact ⟨_, rfl, ho4.mono (Nat.le_trans HS hs2), (below_then hb3 hs2 hb4).mono HS⟩
set_option maxRecDepth 100000 in
set_option maxHeartbeats 2000000 in
theorem form_not (S : SmallN) (A : Option Addr) (cap : Nat) (l : List C) (w : World) (hR : Rd w A l) (hlen : l.length ≤ 1000000) (HT : Tab w) :
    Calls Tryd.prog 72 #[.slice A l.length cap] w fun e w' => ∃ v, e = .returned (.tuple #[v, .int .i64 (H.notF l).2]) ∧ Own w' w.heap.size v (H.notF l).1 ∧ Below w.heap.size w w' := by
  have eg : ∀ args w, (callFunc 108 args).run Tryd.prog w = .ok (.enter 108 args) w := enters_of Tryd.func108 (by kernel_rfl) rfl
  have h1 := form_One w
  have h2 : ∀ v1 w1, Own w1 w.heap.size v1 [top] → Below w.heap.size w w1 → Calls Tryd.prog 81 #[.slice A l.length cap, v1, .func (.func 108) #[] #[]] w1 fun e w' => ∃ v, e = .returned (.tuple #[v, .int .i64 (H.notF l).2]) ∧ Own w' w.heap.size v (H.notF l).1 ∧ Below w.heap.size w w' :=
    fun v1 w1 ho hb => fold_plain 108 notStep (fun L => L.length ≤ 64) cap A l [top] v1 w w1 hR hlen hb ho (by simp) (fun L c _ _ _ => by rw [notStep_eq]; exact least_len _) eg fun L c v w2 _ hQ ho2 hb2 => not_pred S L c v w w2 ho2 hb2 hQ (HT.below hb2)
  clear eg
  generalize H.notF l = R at *
  go_enter Tryd.func72, Tryd.ntmps72
  go_wp2_with (first
    | (go_at_call 56; refine h1.mono ?_; rintro e w2 ⟨v2, rfl, ho2, hb2⟩)
    | (go_at_call 81; refine (h2 _ _ ho2 hb2).mono ?_; rintro e w3 ⟨v3, rfl, ho3, hb3⟩))
  go_ret2
  exact ⟨_, rfl, ho3, hb3⟩
set_option maxRecDepth 100000 in
set_option maxHeartbeats 2000000 in
theorem form_Not (S : SmallN) (A0 : Option Addr) (c0 : Nat) (l0 : List C) (w : World) (hR0 : Rd w A0 l0) (hc0 : l0.length ≤ c0) (hl0 : l0.length ≤ 1000000) (HT : Tab w) :
    Calls Tryd.prog 40 #[.slice A0 l0.length c0] w fun e w' => ∃ v, e = .returned (.tuple #[v, .int .i64 (fNot l0).2]) ∧ Own w' w.heap.size v (fNot l0).1 ∧ Below w.heap.size w w' := by
  have h1 := form_right S.toSmallP _ _ _ (ArgsC.one hR0 hc0 hl0) (by simp)
  have hb1 : Below w.heap.size w (w.alloc (.cells #[.slice A0 l0.length c0] 26)) := (Below.refl _ _).alloc (Nat.le_refl _) _
  have h2 := fun w1 (hb : Below w.heap.size w w1) => form_not S A0 c0 l0 w1 (hR0.below hb) hl0 (HT.below hb)
  have HB1 := Lib.hid hb1
  clear hb1
  unfold fNot
  generalize H.notF l0 = R at *
  by_cases hf : H.right l0 = true
  · rw [show rightG [(A0, c0, l0)] = 0 by unfold rightG; simp [hf]] at h1
    rw [if_pos hf]
    clear hf
    go_enter Tryd.func40, Tryd.ntmps40
    go_wp2_with (first
      | (go_at_call 62; refine h1.mono ?_; rintro e w2 ⟨rfl, hb2⟩; have HB2 := below_then HB1 (Below.size HB1) hb2)
      | (go_at_call 72; refine (h2 _ HB2).mono ?_; rintro e w3 ⟨v3, rfl, ho3, hb3⟩))
    go_ret2
    exact ⟨_, rfl, ho3.mono HB2.size, below_then HB2 HB2.size hb3⟩
  · rw [show rightG [(A0, c0, l0)] = 2 by unfold rightG; rw [if_neg]; simpa using hf] at h1
    rw [if_neg hf]
    clear hf h2
    go_enter Tryd.func40, Tryd.ntmps40
    go_wp2_with (go_at_call 62; refine h1.mono ?_; rintro e w2 ⟨rfl, hb2⟩)
    go_ret2
    exact ⟨_, rfl, Own.nil _ _, below_then HB1 (Below.size HB1) hb2⟩
end Go.Proofs.YtfbcgjkagdbckaaDoor
