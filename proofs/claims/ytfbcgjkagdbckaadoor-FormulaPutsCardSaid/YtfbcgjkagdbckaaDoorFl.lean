/-
Walks: formula.Lift with its inner function (written by wip/mkfo.py).
-/
import Derived.Test.YtfbcgjkagdbckaaDoorFpv
namespace Go.Proofs.YtfbcgjkagdbckaaDoor
open Go.RowKit H

set_option maxRecDepth 100000 in
set_option maxHeartbeats 4000000 in
theorem fold_twoN (F : FuncId) (p q : Value) (step : List C → C → List C × Int) (Q : Nat → List C → Prop) (cap : Nat) (A : Option Addr) (l L0 : List C) (v0 : Value) (w0 w : World) (hR : Rd w0 A l) (hlen : l.length ≤ 1000000) (hb0 : Below w0.heap.size w0 w) (ho0 : Own w w0.heap.size v0 L0) (hQ0 : Q 0 L0)
    (hQ : ∀ j L c, j < l.length → c ∈ l → Q j L → (step L c).2 = 0 → Q (j + 1) (step L c).1)
    (eg : ∀ args w, (callFunc F args).run Tryd.prog w = .ok (.enter F args) w)
    (hp : ∀ (j : Nat) (L : List C) (c : C) (v : Value) (w1 : World), j < l.length → c ∈ l → Q j L → Own w1 w0.heap.size v L → Below w0.heap.size w0 w1 → Calls Tryd.prog F #[v, .agg #[.int .u32 (un c.1), .int .u32 (un c.2)], p, q] w1 fun e w' => ∃ v', e = .returned (.tuple #[v', .int .i64 (step L c).2]) ∧ Own w' w0.heap.size v' (step L c).1 ∧ Below w0.heap.size w1 w') :
    Calls Tryd.prog 81 #[.slice A l.length cap, v0, .func (.func F) #[] #[p, q]] w fun e w' => ∃ v, e = .returned (.tuple #[v, .int .i64 (foldE [] step l L0).2]) ∧ Own w' w0.heap.size v (foldE [] step l L0).1 ∧ Below w0.heap.size w0 w' := by
  go_enter Tryd.func81, Tryd.ntmps81
  go_wp2
  go_loopg [1, 15] (l.length + 1) (fun kq v1 v15 w' => ∃ (j : Nat) (L : List C), v15 = .int .i64 (j : Int) ∧ j ≤ l.length ∧ kq + j = l.length + 1 ∧ Hid (foldE [] step (l.drop j) L = foldE [] step l L0) ∧ Hid (Q j L) ∧ Own w' w0.heap.size v1 L ∧ Below w0.heap.size w0 w')
  case atStart => exact ⟨0, L0, rfl, Nat.zero_le _, rfl, Lib.hid rfl, Lib.hid hQ0, ho0, hb0⟩
  case round =>
    obtain ⟨j, L, rfl, hj, hk, hf, hq, ho, hb⟩ := hrel
    by_cases hlt : j < l.length
    · obtain ⟨b0, off, rfl, h1, h2⟩ := (hR.below hb).at_ hlt
      have hdrop : l.drop j = l[j] :: l.drop (j + 1) := List.drop_eq_getElem_cons hlt
      have hb1 := hb.alloc hb.size (.cells #[.int .u32 (un l[j].1), .int .u32 (un l[j].2)] 60)
      have hpj := hp j L l[j] _ (wr.alloc (.cells #[.int .u32 (un l[j].1), .int .u32 (un l[j].2)] 60)) hlt (List.getElem_mem _) hq ⟨ho.1.alloc _, ho.2⟩ hb1
      have HB1 := Lib.hid hb1
      rw [hdrop] at hf
      by_cases he : (step L l[j]).2 = 0
      · have HQ2 := Lib.hid (hQ j L l[j] hlt (List.getElem_mem _) hq he)
        have HF2 : Hid (foldE [] step (l.drop (j + 1)) (step L l[j]).1 = foldE [] step l L0) := Lib.hid (by
          rw [← (show _ = _ from hf), foldE, if_pos he])
        rw [he] at hpj
        clear hf hb hb1 ho hdrop hp he hQ hQ0 ho0
        generalize (step L l[j]).1 = L2 at *
        go_wp2_with (go_at_fn F; refine hpj.mono ?_; rintro e w2 ⟨v2, rfl, ho2, hb2⟩)
        go_roundg (gk - 1)
        case measure => omega
        case rel => exact ⟨j + 1, L2, by simp, by omega, by omega, HF2, HQ2, ho2, (show Below _ _ _ from HB1).trans hb2⟩
      · have HF2 : Hid (foldE [] step l L0 = ([], (step L l[j]).2)) := Lib.hid (by
          rw [← (show _ = _ from hf), foldE, if_neg he])
        clear hf hb hb1 ho hdrop hp hQ hQ0 ho0
        have hne : ((step L l[j]).2 != 0) = true := by simpa using he
        generalize (step L l[j]).2 = ev at *
        generalize (step L l[j]).1 = L2 at *
        go_wp2_with (go_at_fn F; refine hpj.mono ?_; rintro e w2 ⟨v2, rfl, ho2, hb2⟩)
        go_ret2
        rw [show foldE [] step l L0 = _ from HF2]
        exact ⟨_, rfl, Own.nil _ _, (show Below _ _ _ from HB1).trans hb2⟩
    · have hfin : Hid (foldE [] step l L0 = (L, 0)) := Lib.hid (by
        rw [← (show _ = _ from hf), List.drop_eq_nil_of_le (by omega)]
        rfl)
      clear hp hf hQ hq ho0 hQ0
      go_wp2
      go_ret2
      rw [show foldE [] step l L0 = _ from hfin]
      exact ⟨_, rfl, ho, hb⟩
def liftStep (lf : C → C × Int) (L : List C) (c : C) : List C × Int := (L ++ [(lf c).1], (lf c).2)
def liftF (lf : C → C × Int) (f : List C) : List C × Int := foldE [] (liftStep lf) f []
def fLift (lf : C → C × Int) (f : List C) : List C × Int := if H.right f = true then (if (liftF lf f).2 = 0 then least (liftF lf f).1 else ([], (liftF lf f).2)) else ([], 2)
set_option maxRecDepth 100000 in
set_option maxHeartbeats 2000000 in
theorem lift_pred (lf : C → C × Int) (a b : Int) (L : List C) (c : C) (v : Value) (bi bj : Nat) (w0 w : World)
    (hlf : ∀ w, Calls Tryd.prog 89 #[.agg #[.int .u32 (un c.1), .int .u32 (un c.2)], .int .i64 a, .int .i64 b] w fun e w' => e = .returned (.tuple #[.agg #[.int .u32 (un (lf c).1.1), .int .u32 (un (lf c).1.2)], .int .i64 (lf c).2]) ∧ Below w.heap.size w w')
    (ho : Own w w0.heap.size v L) (hsz : w0.heap.size ≤ w.heap.size) (hL : L.length + 1 ≤ 1000000) (hi : w.cell? ⟨bi, 0, none⟩ = some (.int .i64 a)) (hj : w.cell? ⟨bj, 0, none⟩ = some (.int .i64 b)) :
    Calls Tryd.prog 88 #[v, .agg #[.int .u32 (un c.1), .int .u32 (un c.2)], .pointer (some ⟨bi, 0, none⟩), .pointer (some ⟨bj, 0, none⟩)] w fun e w' => ∃ v', e = .returned (.tuple #[v', .int .i64 (liftStep lf L c).2]) ∧ Own w' w0.heap.size v' (liftStep lf L c).1 ∧ Below w0.heap.size w w' := by
  have hb0 : Below w.heap.size w (w.alloc (.cells #[.int .u32 (un c.1), .int .u32 (un c.2)] 60)) := (Below.refl _ _).alloc (Nat.le_refl _) _
  have hA : At2 (w.alloc (.cells #[.int .u32 (un c.1), .int .u32 (un c.2)] 60)) w.heap.size c := ⟨World.cell?_alloc_new .., World.cell?_alloc_new ..⟩
  have e1 := hA.1
  have e2 := hA.2
  have e3 := (hb0.cell (World.block_lt_of_cell? w _ hi)).trans hi
  have e4 := (hb0.cell (World.block_lt_of_cell? w _ hj)).trans hj
  have HO := Lib.hid (ho.below hb0)
  have HB0 := Lib.hid hb0
  have HS := Lib.hid hsz
  clear ho hb0 hA hi hj
  go_enter Tryd.func88, Tryd.ntmps88
  go_wp2_with (first
    | (go_at_call 89; refine (hlf _).mono ?_; rintro e w2 ⟨rfl, hb2⟩; have hb3 := below_then HB0 (Below.size HB0) hb2; have ho2 := (show Own _ _ _ _ from HO).below hb2; have ho4 : Own ((w2.alloc (.cells #[.int .u32 (un (lf c).1.1), .int .u32 (un (lf c).1.2)] 60)).alloc (.cells #[.int .u32 (un (lf c).1.1), .int .u32 (un (lf c).1.2)] 60)) w0.heap.size v L := ⟨(ho2.1.alloc _).alloc _, ho2.2⟩; obtain ⟨A6, c6, e6, hR6⟩ := (Own.lit (w := w2.alloc (.cells #[.int .u32 (un (lf c).1.1), .int .u32 (un (lf c).1.2)] 60)) (Nat.zero_le _) (lf c).1).slice; cases e6; rw [World.size_alloc] at hR6; have hb4 := (hb3.alloc hb3.size (.cells #[.int .u32 (un (lf c).1.1), .int .u32 (un (lf c).1.2)] 60)).alloc (by have := hb3.size; simp; omega) (.cells #[.int .u32 (un (lf c).1.1), .int .u32 (un (lf c).1.2)] 60))
    | (at_builtin; refine wpList_append_rd rfl (.tmp 17) (.tmp 19) rfl rfl ho4 (l := [(lf c).1]) rfl hR6 (by simpa using hL) (Nat.le_trans HS hb4.size) ?_; intro v5 w5 ho5 hb5 _))
  go_ret2
  exact ⟨_, rfl, ho5, (hb4.mono HS).trans hb5⟩
theorem liftF_len (lf : C → C × Int) (f : List C) : (liftF lf f).1.length ≤ f.length := by
  have key : ∀ (l L : List C), (foldE [] (liftStep lf) l L).1.length ≤ L.length + l.length := by
    intro l
    induction l with
    | nil => intro L; exact Nat.le_refl _
    | cons c l ih =>
      intro L
      unfold foldE
      split
      · have := ih (liftStep lf L c).1
        have e : (liftStep lf L c).1.length = L.length + 1 := by
          show (L ++ [(lf c).1]).length = _
          rw [List.length_append]
          rfl
        rw [List.length_cons]
        omega
      · simp
  have := key f []
  rw [List.length_nil, Nat.zero_add] at this
  exact this
set_option maxRecDepth 100000 in
set_option maxHeartbeats 4000000 in
theorem form_Lift (S : SmallP) (lf : C → C × Int) (A0 : Option Addr) (c0 : Nat) (l0 : List C) (a b : Int) (w : World)
    (hlf : ∀ c ∈ l0, ∀ w, Calls Tryd.prog 89 #[.agg #[.int .u32 (un c.1), .int .u32 (un c.2)], .int .i64 a, .int .i64 b] w fun e w' => e = .returned (.tuple #[.agg #[.int .u32 (un (lf c).1.1), .int .u32 (un (lf c).1.2)], .int .i64 (lf c).2]) ∧ Below w.heap.size w w')
    (hR0 : Rd w A0 l0) (hc0 : l0.length ≤ c0) (hl0 : l0.length ≤ 900000) :
    Calls Tryd.prog 50 #[.slice A0 l0.length c0, .int .i64 a, .int .i64 b] w fun e w' => ∃ v, e = .returned (.tuple #[v, .int .i64 (fLift lf l0).2]) ∧ Own w' w.heap.size v (fLift lf l0).1 ∧ Below w.heap.size w w' := by
  have hb0 : Below w.heap.size w (w.alloc (.cells #[.int .i64 a] 3)) := (Below.refl _ _).alloc (Nat.le_refl _) _
  have hbx : Below w.heap.size w ((w.alloc (.cells #[.int .i64 a] 3)).alloc (.cells #[.int .i64 b] 3)) := hb0.alloc (by simp) _
  have hi0 : (w.alloc (.cells #[.int .i64 a] 3)).cell? ⟨w.heap.size, 0, none⟩ = some (.int .i64 a) := World.cell?_alloc_new ..
  have hix : ((w.alloc (.cells #[.int .i64 a] 3)).alloc (.cells #[.int .i64 b] 3)).cell? ⟨w.heap.size, 0, none⟩ = some (.int .i64 a) := (World.cell?_alloc_lt _ _ ⟨w.heap.size, 0, none⟩ (by simp)).trans hi0
  have hrx : ((w.alloc (.cells #[.int .i64 a] 3)).alloc (.cells #[.int .i64 b] 3)).cell? ⟨w.heap.size + 1, 0, none⟩ = some (.int .i64 b) := by
    have := World.cell?_alloc_new (w.alloc (.cells #[.int .i64 a] 3)) #[.int .i64 b] 3 0
    rw [World.size_alloc] at this
    exact this
  have h1 := form_right S _ _ _ (ArgsC.one (hR0.below hbx) hc0 (by omega)) (by simp)
  rw [World.size_alloc, World.size_alloc] at h1
  have hby : Below w.heap.size w (((w.alloc (.cells #[.int .i64 a] 3)).alloc (.cells #[.int .i64 b] 3)).alloc (.cells #[.slice A0 l0.length c0] 26)) := hbx.alloc (by simp; omega) _
  have hbxy : Below (w.heap.size + 2) ((w.alloc (.cells #[.int .i64 a] 3)).alloc (.cells #[.int .i64 b] 3)) (((w.alloc (.cells #[.int .i64 a] 3)).alloc (.cells #[.int .i64 b] 3)).alloc (.cells #[.slice A0 l0.length c0] 26)) := (Below.refl _ _).alloc (by simp) _
  have hiy := (hbxy.cell (p := ⟨w.heap.size, 0, none⟩) (by simp)).trans hix
  have hry := (hbxy.cell (p := ⟨w.heap.size + 1, 0, none⟩) (by simp)).trans hrx
  have hz := form_Zero
  have eg : ∀ args w, (callFunc 88 args).run Tryd.prog w = .ok (.enter 88 args) w := enters_of Tryd.func88 (by kernel_rfl) rfl
  have h2 : ∀ w1, Below w.heap.size w w1 → w1.cell? ⟨w.heap.size, 0, none⟩ = some (.int .i64 a) → w1.cell? ⟨w.heap.size + 1, 0, none⟩ = some (.int .i64 b) →
      Calls Tryd.prog 81 #[.slice A0 l0.length c0, .slice none 0 0, .func (.func 88) #[] #[.pointer (some ⟨w.heap.size, 0, none⟩), .pointer (some ⟨w.heap.size + 1, 0, none⟩)]] w1 fun e w' => ∃ v, e = .returned (.tuple #[v, .int .i64 (liftF lf l0).2]) ∧ Own w' w1.heap.size v (liftF lf l0).1 ∧ Below w1.heap.size w1 w' :=
    fun w1 hb1 hi1 hr1 => fold_twoN 88 (.pointer (some ⟨w.heap.size, 0, none⟩)) (.pointer (some ⟨w.heap.size + 1, 0, none⟩)) (liftStep lf) (fun j L => L.length = j) c0 A0 l0 [] (.slice none 0 0) w1 w1 (hR0.below hb1) (by omega) (Below.refl _ _) (Own.nil _ _) rfl (fun j L c _ _ hq _ => by show (L ++ [(lf c).1]).length = j + 1; rw [List.length_append, hq]; rfl) eg
      fun j L c v w2 hj hc hQ ho2 hb2 => lift_pred lf a b L c v w.heap.size (w.heap.size + 1) w1 w2 (hlf c hc) ho2 hb2.size (by omega) ((hb2.cell (World.block_lt_of_cell? _ _ hi1)).trans hi1) ((hb2.cell (World.block_lt_of_cell? _ _ hr1)).trans hr1)
  have hlen := liftF_len lf l0
  have h3 : ∀ A1 c1 w1, Rd w1 A1 (liftF lf l0).1 → Calls Tryd.prog 70 #[.slice A1 (liftF lf l0).1.length c1] w1 fun e w' => ∃ v, e = .returned (.tuple #[v, .int .i64 (least (liftF lf l0).1).2]) ∧ Own w' w1.heap.size v (least (liftF lf l0).1).1 ∧ Below w1.heap.size w1 w' :=
    fun A1 c1 w1 h => clause_Least S.toSmall A1 c1 _ w1 h (by omega)
  have HBY := Lib.hid hby
  have HIY := Lib.hid hiy
  have HRY := Lib.hid hry
  clear hb0 hbx hi0 hix hbxy eg hby hiy hry hlf hlen
  have hcells : ∀ (w1 w2 : World), Below w1.heap.size w1 w2 → w1.cell? ⟨w.heap.size, 0, none⟩ = some (.int .i64 a) → w1.cell? ⟨w.heap.size + 1, 0, none⟩ = some (.int .i64 b) → w2.cell? ⟨w.heap.size, 0, none⟩ = some (.int .i64 a) ∧ w2.cell? ⟨w.heap.size + 1, 0, none⟩ = some (.int .i64 b) :=
    fun _ _ hb h3 h4 => ⟨(hb.cell (World.block_lt_of_cell? _ _ h3)).trans h3, (hb.cell (World.block_lt_of_cell? _ _ h4)).trans h4⟩
  have HCL := Lib.hid hcells
  clear hcells
  unfold fLift
  by_cases hf : H.right l0 = true
  · rw [show rightG [(A0, c0, l0)] = 0 by unfold rightG; simp [hf]] at h1
    rw [if_pos hf]
    clear hf
    by_cases he : (liftF lf l0).2 = 0
    · rw [if_pos he]
      rw [he] at h2
      clear he
      generalize least (liftF lf l0).1 = R at *
      generalize (liftF lf l0).1 = K at *
      go_enter Tryd.func50, Tryd.ntmps50
      go_wp2_with (first
        | (go_at_call 62; refine h1.mono ?_; rintro e w2 ⟨rfl, hb2⟩; have HB2 := below_then HBY (Below.size HBY) hb2; obtain ⟨g1, g2⟩ := (show ∀ (w1 w2 : World), _ from HCL) _ _ hb2 HIY HRY)
        | (go_at_call 61; refine (hz _).mono ?_; rintro e w4 ⟨rfl, hb4⟩; have HB4 := below_then HB2 HB2.size hb4; obtain ⟨g5, g6⟩ := (show ∀ (w1 w2 : World), _ from HCL) _ _ hb4 g1 g2)
        | (go_at_call 81; refine (h2 _ HB4 g5 g6).mono ?_; rintro e w5 ⟨v5, rfl, ho5, hb5⟩; have HB5 := below_then HB4 HB4.size hb5; obtain ⟨A5, c5, rfl, hR5⟩ := ho5.slice)
        | (go_at_call 70; refine (h3 _ _ _ hR5).mono ?_; rintro e w6 ⟨v6, rfl, ho6, hb6⟩))
      go_ret2
      exact ⟨_, rfl, ho6.mono HB5.size, below_then HB5 HB5.size hb6⟩
    · rw [if_neg he]
      have hne : ((liftF lf l0).2 != 0) = true := by simpa using he
      clear h3
      generalize (liftF lf l0).2 = ev at *
      generalize (liftF lf l0).1 = K at *
      go_enter Tryd.func50, Tryd.ntmps50
      go_wp2_with (first
        | (go_at_call 62; refine h1.mono ?_; rintro e w2 ⟨rfl, hb2⟩; have HB2 := below_then HBY (Below.size HBY) hb2; obtain ⟨g1, g2⟩ := (show ∀ (w1 w2 : World), _ from HCL) _ _ hb2 HIY HRY)
        | (go_at_call 61; refine (hz _).mono ?_; rintro e w4 ⟨rfl, hb4⟩; have HB4 := below_then HB2 HB2.size hb4; obtain ⟨g5, g6⟩ := (show ∀ (w1 w2 : World), _ from HCL) _ _ hb4 g1 g2)
        | (go_at_call 81; refine (h2 _ HB4 g5 g6).mono ?_; rintro e w5 ⟨v5, rfl, ho5, hb5⟩))
      go_ret2
      exact ⟨_, rfl, Own.nil _ _, below_then HB4 HB4.size hb5⟩
  · rw [show rightG [(A0, c0, l0)] = 2 by unfold rightG; rw [if_neg]; simpa using hf] at h1
    rw [if_neg hf]
    clear hf h2 h3
    go_enter Tryd.func50, Tryd.ntmps50
    go_wp2_with (go_at_call 62; refine h1.mono ?_; rintro e w2 ⟨rfl, hb2⟩)
    go_ret2
    exact ⟨_, rfl, Own.nil _ _, below_then HBY (Below.size HBY) hb2⟩
end Go.Proofs.YtfbcgjkagdbckaaDoor
