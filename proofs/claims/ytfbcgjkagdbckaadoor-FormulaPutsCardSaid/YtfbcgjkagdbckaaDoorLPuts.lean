/-
Walks: law03's great, FormulaPuts.
-/
import Derived.Test.YtfbcgjkagdbckaaDoorXFvx0
import Derived.Test.YtfbcgjkagdbckaaDoorXFvx1
import Derived.Test.YtfbcgjkagdbckaaDoorXFvx2
import Derived.Test.YtfbcgjkagdbckaaDoorXFvx3
import Derived.Test.YtfbcgjkagdbckaaDoorXFvx4
import Derived.Test.YtfbcgjkagdbckaaDoorXFvx5
import Derived.Test.YtfbcgjkagdbckaaDoorXFvx6
import Derived.Test.YtfbcgjkagdbckaaDoorXFvx7
import Derived.Test.YtfbcgjkagdbckaaDoorXFvx8
import Derived.Test.YtfbcgjkagdbckaaDoorXFvx9
import Derived.Test.YtfbcgjkagdbckaaDoorXFvx10
import Derived.Test.YtfbcgjkagdbckaaDoorXFvx11
namespace Go.Proofs.YtfbcgjkagdbckaaDoor.XFv
open Go.RowKit Go.Proofs.YtfbcgjkagdbckaaDoorW.PrintWords Go.Proofs.YtfbcgjkagdbckaaDoorW.PrintLast Go.Proofs.YtfbcgjkagdbckaaDoorW.PrintMore H

/-- The arguments of 'great': rows of any kind, by their lengths. -/
structure ArgsN (w : World) (b : Nat) (L : List (Option Addr × Nat × Nat)) : Prop where
  at_ : ∀ j (h : j < L.length), w.cell? ⟨b, j, none⟩ = some (.slice L[j].1 L[j].2.1 L[j].2.2)
theorem ArgsN.below {w w1 : World} {b : Nat} {L : List (Option Addr × Nat × Nat)} (h : ArgsN w b L) (hb : Below w.heap.size w w1) : ArgsN w1 b L :=
  ⟨fun j hj => (hb.cell (World.block_lt_of_cell? w _ (h.at_ j hj))).trans (h.at_ j hj)⟩
theorem ArgsN.one (w : World) (A : Option Addr) (n c : Nat) : ArgsN (w.alloc (.cells #[.slice A n c] 26)) w.heap.size [(A, n, c)] :=
  ⟨fun j hj => by
    match j, hj with
    | 0, _ => exact World.cell?_alloc_new ..⟩
theorem ArgsN.two (w : World) (A B : Option Addr) (n c m d : Nat) : ArgsN (w.alloc (.cells #[.slice A n c, .slice B m d] 26)) w.heap.size [(A, n, c), (B, m, d)] :=
  ⟨fun j hj => by
    match j, hj with
    | 0, _ => exact World.cell?_alloc_new ..
    | 1, _ => exact World.cell?_alloc_new ..⟩
def greatB (L : List (Option Addr × Nat × Nat)) : Bool := L.any fun x => decide (24 < x.2.1)
set_option maxRecDepth 100000 in
set_option maxHeartbeats 1000000 in
theorem law_great (b : Nat) (L : List (Option Addr × Nat × Nat)) (w : World) (hA : ArgsN w b L) (hlen : L.length ≤ 1000) :
    Calls Tryd.prog 28 #[.slice (some ⟨b, 0, none⟩) L.length L.length] w fun e w' => e = .returned (.bool (greatB L)) ∧ Below w.heap.size w w' := by
  go_enter Tryd.func28, Tryd.ntmps28
  go_wp2
  go_loopg [7] (L.length + 1) (fun kq v7 w' => ∃ j : Nat, v7 = .int .i64 (j : Int) ∧ j ≤ L.length ∧ kq + j = L.length + 1 ∧ Hid (∀ x ∈ L.take j, ¬ 24 < x.2.1) ∧ Below w.heap.size w w')
  case atStart => exact ⟨0, rfl, Nat.zero_le _, rfl, Lib.hid (by simp), Below.refl _ _⟩
  case round =>
    obtain ⟨j, rfl, hj, hk, hno, hb⟩ := hrel
    by_cases hlt : j < L.length
    · have h1 := (hA.below hb).at_ j hlt
      have HB := Lib.hid hb
      by_cases hp : 24 < L[j].2.1
      · have HP := Lib.hid hp
        have hpi : (24 : Int) < (L[j].2.1 : Int) := by omega
        clear hno hb hp
        go_wp2
        go_ret
        have hf : greatB L = true := by
          unfold greatB
          rw [List.any_eq_true]
          exact ⟨L[j], List.getElem_mem _, decide_eq_true HP⟩
        exact ⟨by rw [hf]; rfl, HB⟩
      · have HP := Lib.hid hp
        have hpi : ¬ (24 : Int) < (L[j].2.1 : Int) := by omega
        have HN := hno
        clear hno hb hp
        go_wp2
        go_roundg (gk - 1)
        case measure => omega
        case rel =>
          refine ⟨j + 1, by simp, by omega, by omega, Lib.hid fun d hd => ?_, HB⟩
          rw [List.take_succ_eq_append_getElem hlt] at hd
          rcases List.mem_append.1 hd with h3 | h3
          · exact HN d h3
          · rw [List.mem_singleton.1 h3]
            exact HP
    · have HB := Lib.hid hb
      have hany : Hid (greatB L = false) := by
        refine Lib.hid ?_
        unfold greatB
        rw [List.any_eq_false]
        intro x hx
        rw [decide_eq_true_iff]
        exact hno x (by rw [List.take_of_length_le (by omega)]; exact hx)
      clear hb hno
      go_wp2
      go_ret
      exact ⟨by rw [hany]; rfl, HB⟩
/-- A row of the call's own, in a block of [lo, hi). -/
def IR (w : World) (lo hi : Nat) (v : Value) (l : List S60) : Prop := Kd.R k60 60 w lo (fun q => lo ≤ q ∧ q < hi) v l
theorem IR.of {w : World} {lo : Nat} {v : Value} {l : List S60} (h : Kd.R k60 60 w lo (fun _ => True) v l) : IR w lo w.heap.size v l := Kd.R_mono (Kd.R_bound h) fun _ hq => ⟨hq.2.1, hq.2.2.1⟩
theorem IR.below {w w1 : World} {lo hi : Nat} {v : Value} {l : List S60} (h : IR w lo hi v l) (hb : Below w.heap.size w w1) : IR w1 lo hi v l := Kd.R_below h hb
theorem IR.kept {w w1 : World} {lo hi a b : Nat} {v : Value} {l : List S60} (h : IR w lo hi v l) (hk : Kept w w1 (fun q => a ≤ q ∧ q < b)) (hd : hi ≤ a ∨ b ≤ lo) : IR w1 lo hi v l :=
  Kd.R_step h fun q hq hlt => hk.2 q hlt fun hs => by
    have h1 := hq.1
    have h2 := hq.2
    have h3 := hs.1
    have h4 := hs.2
    omega
theorem IR.slice {w : World} {lo hi : Nat} {v : Value} {l : List S60} (h : IR w lo hi v l) : ∃ A c, v = .slice A l.length c ∧ l.length ≤ c ∧ Kd.C k60 w A l.length l := by
  obtain ⟨A, c, rfl⟩ := Kd.R_slice h
  exact ⟨A, c, rfl, (Kd.R_reads' h).2⟩
theorem IR.own {w : World} {lo : Nat} {v : Value} {l : List C} (h : Own w lo v ([] ++ l)) : IR w lo w.heap.size v (l.map ofC24) := IR.of (own24 (by rw [List.nil_append] at h; exact h))
theorem same_IR (k : Nat) (w0 w : World) {a1 a2 b1 b2 : Nat} (va : Value) (l l2 : List S60) (e e2 : Int) (y : List S60) (A2 : Option Addr) (c2 : Nat) (hB : Below w0.heap.size w0 w) (h0 : w0.heap.size ≤ a1) (ha : IR w a1 a2 va l)
    (hb : IR w b1 b2 (.slice A2 l2.length c2) l2) (hd : a2 ≤ b1 ∨ b2 ≤ a1) (h : hypercubelaw03_same.f k l e l2 e2 = some (true, y)) :
    Calls Tryd.prog 36 #[va, .int .i64 e, .slice A2 l2.length c2, .int .i64 e2] w fun e' w' => e' = .returned (.bool true) ∧ Below w0.heap.size w0 w' ∧ Kept w w' (fun q => a1 ≤ q ∧ q < a2) := by
  refine (hypercubelaw03_same.calls k (fun q => a1 ≤ q ∧ q < a2) va l e A2 c2 l2 e2 true y w0 w hB (Kd.R_lower ha h0) (Kd.C_kept_own hb fun q hq hs => ?_) (Kd.R_reads' hb).2.1 h).mono ?_
  · have h1 := hq.1
    have h2 := hq.2
    have h3 := hs.1
    have h4 := hs.2
    omega
  · rintro e' w' ⟨rfl, _, h1, h2⟩
    exact ⟨rfl, h1, h2⟩
/-- What the law's calls tell of the rows at hand. -/
structure PutsSays (k : Nat) (L M : List S60) (i m n : Int) where
  (pa pb la lb y1 y2 : List S60) (pe pf le lf d : Int)
  h1 : formula_Put.f L i M = some (pa, pe)
  h2 : hypercuberef03_Put.f k L i M = some (pb, pf)
  h3 : formula_Lift.f k L m n = some (la, le)
  h4 : hypercuberef03_Lift.f k L m n = some (lb, lf)
  s1 : hypercubelaw03_same.f k pa pe pb pf = some (true, y1)
  s2 : hypercubelaw03_same.f k la le lb lf = some (true, y2)
  d1 : formula_Dims.f k L = some d
  d2 : hypercuberef03_Dims.f k L = some d
  hw : hypercubelaw03_works.f k = some true
set_option maxRecDepth 100000 in
set_option maxHeartbeats 1000000 in
theorem puts_great (k : Nat) (A0 A1 : Option Addr) (c0 n c1 m : Nat) (i a b : Int) (w : World) (HT : Aside0 (Tab w)) (h : 24 < n ∨ 24 < m) (hw : hypercubelaw03_works.f k = some true) :
    Calls Tryd.prog 13 #[.slice A0 n c0, .int .i64 i, .slice A1 m c1, .int .i64 a, .int .i64 b] w fun e w' => e = .returned (.bool true) ∧ Below w.heap.size w w' := by
  have hb0 : Below w.heap.size w (w.alloc (.cells #[.slice A0 n c0, .slice A1 m c1] 26)) := (Below.refl _ _).alloc (Nat.le_refl _) _
  have h1 := law_great _ _ _ (ArgsN.two w A0 A1 n c0 m c1) (by simp)
  rw [show greatB [(A0, n, c0), (A1, m, c1)] = true by simpa [greatB] using h] at h1
  have HB0 := Lib.hid hb0
  have h2 : ∀ w2, Below w.heap.size w w2 → Calls Tryd.prog 29 #[] w2 fun e w' => e = .returned (.bool true) ∧ Below w2.heap.size w2 w' :=
    fun w2 hb => hypercubelaw03_works.calls k true w2 ⟨Tab.below HT.out hb⟩ hw
  clear hb0 h
  go_enter Tryd.func13, Tryd.ntmps13
  go_wp2_with (first
    | (go_at_call 28; refine h1.mono ?_; rintro e w2 ⟨rfl, hb2⟩; have HB2 := below_then HB0 HB0.size hb2)
    | (go_at_call 29; refine (h2 _ HB2).mono ?_; rintro e w3 ⟨rfl, hb3⟩))
  go_ret
  exact ⟨rfl, below_then HB2 HB2.size hb3⟩
set_option maxRecDepth 100000 in
set_option maxHeartbeats 4000000 in
theorem puts_small (k : Nat) (A0 A1 : Option Addr) (c0 c1 : Nat) (f g : List S60) (i a b : Int) (w : World) (HT : Aside0 (Tab w)) (hr0 : Kd.C k60 w A0 f.length f) (hc0 : f.length ≤ c0) (hr1 : Kd.C k60 w A1 g.length g) (hc1 : g.length ≤ c1)
    (hlf : ¬ 24 < f.length) (hlg : ¬ 24 < g.length) (T : PutsSays k f g i a b) :
    Calls Tryd.prog 13 #[.slice A0 f.length c0, .int .i64 i, .slice A1 g.length c1, .int .i64 a, .int .i64 b] w fun e w' => e = .returned (.bool true) ∧ Below w.heap.size w w' := by
  obtain ⟨pa, pb, la, lb, y1, y2, pe, pf, le, lf, d, h1, h2, h3, h4, s1, s2, d1, d2, hw⟩ := T
  have hb0 : Below w.heap.size w (w.alloc (.cells #[.slice A0 f.length c0, .slice A1 g.length c1] 26)) := (Below.refl _ _).alloc (Nat.le_refl _) _
  have hG := law_great _ _ _ (ArgsN.two w A0 A1 f.length c0 g.length c1) (by simp)
  rw [show greatB [(A0, f.length, c0), (A1, g.length, c1)] = false by simpa [greatB] using ⟨Nat.le_of_not_lt hlf, Nat.le_of_not_lt hlg⟩] at hG
  have hW : ∀ w2, Below w.heap.size w w2 → Calls Tryd.prog 29 #[] w2 fun e w' => e = .returned (.bool true) ∧ Below w2.heap.size w2 w' :=
    fun w2 hb => hypercubelaw03_works.calls k true w2 ⟨Tab.below HT.out hb⟩ hw
  have hP := fun w2 (hb : Below w.heap.size w w2) => formula_Put.calls A0 c0 _ i A1 c1 _ pa pe w2 ⟨Tab.below HT.out hb⟩ (Kd.C_below hr0 hb) hc0 (Kd.C_below hr1 hb) hc1 h1
  have hP' := fun w2 (hb : Below w.heap.size w w2) => hypercuberef03_Put.calls k A0 c0 _ i A1 c1 _ pb pf w2 (Kd.C_below hr0 hb) hc0 (Kd.C_below hr1 hb) hc1 h2
  have hL := fun w2 (hb : Below w.heap.size w w2) => formula_Lift.calls k A0 c0 _ a b la le w2 (Kd.C_below hr0 hb) hc0 h3
  have hL' := fun w2 (hb : Below w.heap.size w w2) => hypercuberef03_Lift.calls k A0 c0 _ a b lb lf w2 (Kd.C_below hr0 hb) hc0 h4
  have hD := fun w2 (hb : Below w.heap.size w w2) => formula_Dims.calls k A0 c0 _ d w2 (Kd.C_below hr0 hb) hc0 d1
  have hD' := fun w2 (hb : Below w.heap.size w w2) => hypercuberef03_Dims.calls k A0 c0 _ d w2 (Kd.C_below hr0 hb) hc0 d2
  have HB0 := Lib.hid hb0
  clear hb0 hlf hlg hr0 hr1 hc0 hc1 HT h1 h2 h3 h4 d1 d2 hw
  generalize f.length = nf at *
  generalize g.length = ng at *
  go_enter Tryd.func13, Tryd.ntmps13
  go_wp2_with (first
    | (go_at_call 28; refine hG.mono ?_; rintro e w2 ⟨rfl, hb2⟩; have HB2 := Lib.hid (below_then HB0 HB0.size hb2); have S0 : Hid (w.heap.size ≤ w2.heap.size) := Lib.hid HB2.size; clear hb2 HB0 hG)
    | (go_at_call 48; refine (hP _ HB2).mono ?_; rintro e w3 ⟨va, rfl, ha, hb⟩; have HB3 := Lib.hid (below_then HB2 HB2.size hb); have HA3 := Lib.hid (IR.of ha); have S3 := Lib.hid hb.size; clear ha hb  HB2)
    | (go_at_call 49; refine (hP' _ HB3).mono ?_; rintro e w4 ⟨vb, rfl, ha, hb⟩; have HB4 := Lib.hid (below_then HB3 HB3.size hb); have HA4 := Lib.hid (IR.below HA3 hb); have HC4 := Lib.hid (IR.of ha); have S4 := Lib.hid hb.size; clear ha hb HA3 HB3; obtain ⟨A2, c2, rfl, _, _⟩ := IR.slice HC4)
    | (go_at_call 50; refine (hL _ HB4).mono ?_; rintro e w5 ⟨vc, rfl, ha, hb⟩; have HB5 := Lib.hid (below_then HB4 HB4.size hb); have HA5 := Lib.hid (IR.below HA4 hb); have HC5 := Lib.hid (IR.below HC4 hb); have HD5 := Lib.hid (IR.of ha); have S5 := Lib.hid hb.size; clear ha hb HA4 HC4 HB4)
    | (go_at_call 51; refine (hL' _ HB5).mono ?_; rintro e w6 ⟨vd, rfl, ha, hb⟩; have HB6 := Lib.hid (below_then HB5 HB5.size hb); have HA6 := Lib.hid (IR.below HA5 hb); have HC6 := Lib.hid (IR.below HC5 hb); have HD6 := Lib.hid (IR.below HD5 hb); have HE6 := Lib.hid (IR.of ha); have S6 := Lib.hid hb.size; clear ha hb HA5 HC5 HD5 HB5; obtain ⟨A4, c4, rfl, _, _⟩ := IR.slice HE6)
    | (go_at_call 36; refine (same_IR k w _ va pa pb pe pf y1 A2 c2 HB6 S0 HA6 HC6 (.inl (Nat.le_refl _)) s1).mono ?_; rintro e w7 ⟨rfl, hb, hk⟩; have HB7 := Lib.hid hb; have HD7 := Lib.hid (IR.kept HD6 hk (.inr S4)); have HE7 := Lib.hid (IR.kept HE6 hk (.inr (Nat.le_trans S4 S5))); clear hb hk HD6 HE6 HA6 HC6 HB6)
    | (go_at_call 36; refine (same_IR k w _ vc la lb le lf y2 A4 c4 HB7 (Nat.le_trans S0 (Nat.le_trans S3 S4)) HD7 HE7 (.inl (Nat.le_refl _)) s2).mono ?_; rintro e w8 ⟨rfl, hb, hk⟩; have HB8 := Lib.hid hb; clear hb hk  HD7 HE7 HB7)
    | (go_at_call 52; refine (hD _ HB8).mono ?_; rintro e w9 ⟨rfl, hb⟩; have HB9 := Lib.hid (below_then HB8 HB8.size hb); clear hb  HB8)
    | (go_at_call 53; refine (hD' _ HB9).mono ?_; rintro e w10 ⟨rfl, hb⟩; have HB10 := Lib.hid (below_then HB9 HB9.size hb); clear hb  HB9)
    | (go_at_call 29; refine (hW _ HB10).mono ?_; rintro e w11 ⟨rfl, hb11⟩))
  go_ret
  exact ⟨rfl, below_then HB10 HB10.size hb11⟩
/-- FormulaPuts, for the answer true. -/
def hypercubelaw03_FormulaPuts.f (k : Nat) (l0 : List S60) (i : Int) (l2 : List S60) (a b : Int) : Option Bool :=
  if 24 < l0.length ∨ 24 < l2.length then hypercubelaw03_works.f k
  else (formula_Put.f l0 i l2).bind fun p => (hypercuberef03_Put.f k l0 i l2).bind fun q => (formula_Lift.f k l0 a b).bind fun x => (hypercuberef03_Lift.f k l0 a b).bind fun y =>
    (hypercubelaw03_same.f k p.1 p.2 q.1 q.2).bind fun s => (hypercubelaw03_same.f k x.1 x.2 y.1 y.2).bind fun t => (formula_Dims.f k l0).bind fun m => (hypercuberef03_Dims.f k l0).bind fun n => if s.1 = true ∧ t.1 = true ∧ m = n then hypercubelaw03_works.f k else some false
set_option maxRecDepth 100000 in
theorem hypercubelaw03_FormulaPuts.calls (k : Nat) (A0 : Option Addr) (c0 : Nat) (l0 : List S60) (a1 : Int) (A2 : Option Addr) (c2 : Nat) (l2 : List S60) (a3 a4 : Int) (r : Bool) (w : World) (hr_ : Aside0 (r = true)) (HT : Aside0 (Tab w)) (hr0 : Kd.C k60 w A0 l0.length l0) (hc0 : l0.length ≤ c0) (hr2 : Kd.C k60 w A2 l2.length l2) (hc2 : l2.length ≤ c2) (h : hypercubelaw03_FormulaPuts.f k l0 a1 l2 a3 a4 = some r) :
    Calls Tryd.prog 13 #[.slice A0 l0.length c0, .int .i64 a1, .slice A2 l2.length c2, .int .i64 a3, .int .i64 a4] w fun e w' => e = .returned (.bool r) ∧ Below w.heap.size w w' := by
  obtain rfl := hr_.out
  unfold hypercubelaw03_FormulaPuts.f at h
  by_cases hl : 24 < l0.length ∨ 24 < l2.length
  · rw [if_pos hl] at h
    exact puts_great k A0 A2 c0 _ c2 _ a1 a3 a4 w HT hl h
  · rw [if_neg hl] at h
    obtain ⟨p, h1, h⟩ := Option.bind_eq_some_iff.mp h
    obtain ⟨q, h2, h⟩ := Option.bind_eq_some_iff.mp h
    obtain ⟨x, h3, h⟩ := Option.bind_eq_some_iff.mp h
    obtain ⟨y, h4, h⟩ := Option.bind_eq_some_iff.mp h
    obtain ⟨s, s1, h⟩ := Option.bind_eq_some_iff.mp h
    obtain ⟨t, s2, h⟩ := Option.bind_eq_some_iff.mp h
    obtain ⟨m, d1, h⟩ := Option.bind_eq_some_iff.mp h
    obtain ⟨n, d2, h⟩ := Option.bind_eq_some_iff.mp h
    by_cases hq : s.1 = true ∧ t.1 = true ∧ m = n
    · have hw : hypercubelaw03_works.f k = some true := by
        rw [if_pos hq] at h
        exact h
      clear h
      obtain ⟨q1, q2, rfl⟩ := hq
      exact puts_small k A0 A2 c0 c2 l0 l2 a1 a3 a4 w HT hr0 hc0 hr2 hc2 (fun z => hl (.inl z)) (fun z => hl (.inr z))
        ⟨p.1, q.1, x.1, y.1, s.2, t.2, p.2, q.2, x.2, y.2, m, h1, h2, h3, h4, s1.trans (congrArg some (Prod.ext q1 rfl)), s2.trans (congrArg some (Prod.ext q2 rfl)), d1, d2, hw⟩
    · rw [if_neg hq] at h
      exact absurd (Option.some.inj h) (by simp)
end Go.Proofs.YtfbcgjkagdbckaaDoor.XFv
