/-
Walk: FormulaJoins.
-/
import Derived.Test.YtfbcgjkagdbckaaDoorLGreat
namespace Go.Proofs.YtfbcgjkagdbckaaDoor.XFn
open Go.RowKit Go.Proofs.YtfbcgjkagdbckaaDoorW.PrintWords Go.Proofs.YtfbcgjkagdbckaaDoorW.PrintLast Go.Proofs.YtfbcgjkagdbckaaDoorW.PrintMore H

/-- A row of the call's own, in a block of [lo, hi). -/
def IR (w : World) (lo hi : Nat) (v : Value) (l : List S60) : Prop := Kd.R k60 60 w lo (fun q => lo ≤ q ∧ q < hi) v l
theorem IR.of {w : World} {lo : Nat} {v : Value} {l : List S60} (h : Kd.R k60 60 w lo (fun _ => True) v l) : IR w lo w.heap.size v l := Kd.R_mono (Kd.R_bound h) fun _ hq => ⟨hq.2.1, hq.2.2.1⟩
theorem IR.below {w w1 : World} {lo hi : Nat} {v : Value} {l : List S60} (h : IR w lo hi v l) (hb : Below w.heap.size w w1) : IR w1 lo hi v l := Kd.R_below h hb
theorem IR.kept {w w1 : World} {lo hi a b : Nat} {v : Value} {l : List S60} (h : IR w lo hi v l) (hk : Kept w w1 (fun q => a ≤ q ∧ q < b)) (hd : hi ≤ a ∨ b ≤ lo) : IR w1 lo hi v l :=
  Kd.R_step h fun q hq hlt => hk.2 q hlt fun hs => by
    have h1 := hq.1
    have h2 := hq.2
    have h3 := hs.1
    have h4 := hs.2
    omega
theorem IR.slice {w : World} {lo hi : Nat} {v : Value} {l : List S60} (h : IR w lo hi v l) : ∃ A c, v = .slice A l.length c ∧ l.length ≤ c ∧ Kd.C k60 w A l.length l := by
  obtain ⟨A, c, rfl⟩ := Kd.R_slice h
  exact ⟨A, c, rfl, (Kd.R_reads' h).2⟩
theorem IR.own {w : World} {lo : Nat} {v : Value} {l : List C} (h : Own w lo v ([] ++ l)) : IR w lo w.heap.size v (l.map ofC24) := IR.of (own24 (by rw [List.nil_append] at h; exact h))
theorem same_IR (k : Nat) (w0 w : World) {a1 a2 b1 b2 : Nat} (va : Value) (l l2 : List S60) (e e2 : Int) (y : List S60) (A2 : Option Addr) (c2 : Nat) (hB : Below w0.heap.size w0 w) (h0 : w0.heap.size ≤ a1) (ha : IR w a1 a2 va l)
    (hb : IR w b1 b2 (.slice A2 l2.length c2) l2) (hd : a2 ≤ b1 ∨ b2 ≤ a1) (h : hypercubelaw03_same.f k l e l2 e2 = some (true, y)) :
    Calls Tryd.prog 36 #[va, .int .i64 e, .slice A2 l2.length c2, .int .i64 e2] w fun e' w' => e' = .returned (.bool true) ∧ Below w0.heap.size w0 w' ∧ Kept w w' (fun q => a1 ≤ q ∧ q < a2) := by
  refine (hypercubelaw03_same.calls k (fun q => a1 ≤ q ∧ q < a2) va l e A2 c2 l2 e2 true y w0 w hB (Kd.R_lower ha h0) (Kd.C_kept_own hb fun q hq hs => ?_) (Kd.R_reads' hb).2.1 h).mono ?_
  · have h1 := hq.1
    have h2 := hq.2
    have h3 := hs.1
    have h4 := hs.2
    omega
  · rintro e' w' ⟨rfl, _, h1, h2⟩
    exact ⟨rfl, h1, h2⟩
theorem IR.readC {w : World} {lo hi : Nat} {A : Option Addr} {c : Nat} {f : List C} (h : IR w lo hi (.slice A f.length c) (f.map ofC24)) : Kd.C k60 w A f.length (f.map ofC24) ∧ f.length ≤ c := by
  have h2 := Kd.R_reads' h
  rw [List.length_map] at h2
  exact ⟨h2.2.2, h2.2.1⟩
theorem IR.sliceC {w : World} {lo hi : Nat} {v : Value} {f : List C} (h : IR w lo hi v (f.map ofC24)) : ∃ A c, v = .slice A f.length c := by
  obtain ⟨A, c, e⟩ := Kd.R_slice h
  rw [List.length_map] at e
  exact ⟨A, c, e⟩
theorem drawn_below {w w1 : World} (h : Drawn0 w w1) : Below w.heap.size w w1 := by
  obtain ⟨n, rfl⟩ := h
  apply pw_below_drewN
  exact Below.refl _ _
theorem okC24 (l : List C) (h : l.length ≤ 1000000) : okL24 (l.map ofC24) := ⟨by rw [List.all_map, List.all_eq_true]; intro c _; rw [Function.comp_apply, inR_ofC24], by rw [List.length_map]; exact h⟩
theorem backC24 (l : List C) : (l.map ofC24).map toC24 = l := by
  rw [List.map_map, show toC24 ∘ ofC24 = id from funext toC_ofC24, List.map_id]
/-- What the law's calls tell of the rows at hand. -/
structure JoinsSays (k : Nat) (L M : List S60) (i : Int) where
  (ja jb ma mb da db y1 y2 y3 : List S60) (je jf me mf de df : Int) (rb : Bool)
  h1 : formula_Join.f L M = some (ja, je)
  h2 : hypercuberef03_Join.f k L M = some (jb, jf)
  h3 : formula_Meet.f L M = some (ma, me)
  h4 : hypercuberef03_Meet.f k L M = some (mb, mf)
  h5 : formula_Dim.f i = some (da, de)
  h6 : hypercuberef03_Dim.f k i = some (db, df)
  s1 : hypercubelaw03_same.f k ja je jb jf = some (true, y1)
  s2 : hypercubelaw03_same.f k ma me mb mf = some (true, y2)
  s3 : hypercubelaw03_same.f k da de db df = some (true, y3)
  r1 : formula_Right.f k L = some rb
  r2 : hypercuberef03_Right.f k L = some rb
  t1 : hypercuberef02_Same.f k L L = some true
  t2 : hypercuberef02_Same.f k M M = some true
  hw : hypercubelaw03_works.f k = some true
set_option maxRecDepth 100000 in
set_option maxHeartbeats 1000000 in
theorem joins_great (k : Nat) (A0 A1 : Option Addr) (c0 n c1 m : Nat) (i : Int) (w : World) (HT : Aside0 (Tab w)) (h : 24 < n ∨ 24 < m) (hw : hypercubelaw03_works.f k = some true) :
    Calls Tryd.prog 8 #[.slice A0 n c0, .slice A1 m c1, .int .i64 i] w fun e w' => e = .returned (.bool true) ∧ Below w.heap.size w w' := by
  have hb0 : Below w.heap.size w (w.alloc (.cells #[.slice A0 n c0, .slice A1 m c1] 26)) := (Below.refl _ _).alloc (Nat.le_refl _) _
  have h1 := law_great _ _ _ (ArgsN.two w A0 A1 n c0 m c1) (by simp)
  rw [show greatB [(A0, n, c0), (A1, m, c1)] = true by simpa [greatB] using h] at h1
  have HB0 := Lib.hid hb0
  have h2 : ∀ w2, Below w.heap.size w w2 → Calls Tryd.prog 29 #[] w2 fun e w' => e = .returned (.bool true) ∧ Below w2.heap.size w2 w' :=
    fun w2 hb => hypercubelaw03_works.calls k true w2 ⟨Tab.below HT.out hb⟩ hw
  clear hb0 h
  go_enter Tryd.func8, Tryd.ntmps8
  go_wp2_with (first
    | (go_at_call 28; refine h1.mono ?_; rintro e w2 ⟨rfl, hb2⟩; have HB2 := below_then HB0 HB0.size hb2)
    | (go_at_call 29; refine (h2 _ HB2).mono ?_; rintro e w3 ⟨rfl, hb3⟩))
  go_ret
  exact ⟨rfl, below_then HB2 HB2.size hb3⟩
set_option maxRecDepth 100000 in
set_option maxHeartbeats 4000000 in
theorem joins_small (k : Nat) (A0 A1 : Option Addr) (c0 c1 : Nat) (f g : List C) (i : Int) (w : World) (HT : Aside0 (Tab w)) (hr0 : Kd.C k60 w A0 (f.map ofC24).length (f.map ofC24)) (hc0 : f.length ≤ c0) (hr1 : Kd.C k60 w A1 (g.map ofC24).length (g.map ofC24)) (hc1 : g.length ≤ c1)
    (hlf : ¬ 24 < f.length) (hlg : ¬ 24 < g.length) (T : JoinsSays k (f.map ofC24) (g.map ofC24) i) :
    Calls Tryd.prog 8 #[.slice A0 f.length c0, .slice A1 g.length c1, .int .i64 i] w fun e w' => e = .returned (.bool true) ∧ Below w.heap.size w w' := by
  obtain ⟨ja, jb, ma, mb, da, db, y1, y2, y3, je, jf, me, mf, de, df, rb, h1, h2, h3, h4, h5, h6, s1, s2, s3, r1, r2, t1, t2, hw⟩ := T
  have hb0 : Below w.heap.size w (w.alloc (.cells #[.slice A0 f.length c0, .slice A1 g.length c1] 26)) := (Below.refl _ _).alloc (Nat.le_refl _) _
  have hG := law_great _ _ _ (ArgsN.two w A0 A1 f.length c0 g.length c1) (by simp)
  rw [show greatB [(A0, f.length, c0), (A1, g.length, c1)] = false by simpa [greatB] using ⟨Nat.le_of_not_lt hlf, Nat.le_of_not_lt hlg⟩] at hG
  have hRd0 : Rd w A0 f := by
    have h := rd24 hr0 (okC24 f (by omega)).1 (okC24 f (by omega)).2
    rw [backC24] at h
    exact h
  have hRd1 : Rd w A1 g := by
    have h := rd24 hr1 (okC24 g (by omega)).1 (okC24 g (by omega)).2
    rw [backC24] at h
    exact h
  have ef : (f.map ofC24).length = f.length := List.length_map ..
  have eg : (g.map ofC24).length = g.length := List.length_map ..
  have hW : ∀ w2, Below w.heap.size w w2 → Calls Tryd.prog 29 #[] w2 fun e w' => e = .returned (.bool true) ∧ Below w2.heap.size w2 w' :=
    fun w2 hb => hypercubelaw03_works.calls k true w2 ⟨Tab.below HT.out hb⟩ hw
  have hJ := fun A B c d w2 (ha : Kd.C k60 w2 A (f.map ofC24).length (f.map ofC24)) (hc : (f.map ofC24).length ≤ c) (hb : Kd.C k60 w2 B (g.map ofC24).length (g.map ofC24)) (hd : (g.map ofC24).length ≤ d) => formula_Join.calls A c _ B d _ ja je w2 ha hc hb hd h1
  have hJ' := fun w2 (hb : Below w.heap.size w w2) => hypercuberef03_Join.calls k A0 c0 _ A1 c1 _ jb jf w2 (Kd.C_below hr0 hb) (by omega) (Kd.C_below hr1 hb) (by omega) h2
  have hM := fun A B c d w2 (ha : Kd.C k60 w2 A (f.map ofC24).length (f.map ofC24)) (hc : (f.map ofC24).length ≤ c) (hb : Kd.C k60 w2 B (g.map ofC24).length (g.map ofC24)) (hd : (g.map ofC24).length ≤ d) => formula_Meet.calls A c _ B d _ ma me w2 ha hc hb hd h3
  have hM' := fun w2 (hb : Below w.heap.size w w2) => hypercuberef03_Meet.calls k A0 c0 _ A1 c1 _ mb mf w2 (Kd.C_below hr0 hb) (by omega) (Kd.C_below hr1 hb) (by omega) h4
  have hD := fun w2 => formula_Dim.calls i da de w2 h5
  have hD' := fun w2 => hypercuberef03_Dim.calls k i db df w2 h6
  have hR := fun A c w2 (ha : Kd.C k60 w2 A (f.map ofC24).length (f.map ofC24)) (hc : (f.map ofC24).length ≤ c) => formula_Right.calls k A c _ rb w2 ha hc r1
  have hR' := fun w2 (hb : Below w.heap.size w w2) => hypercuberef03_Right.calls k A0 c0 _ rb w2 (Kd.C_below hr0 hb) (by omega) r2
  have hS1 := fun A c w2 (ha : Kd.C k60 w2 A (f.map ofC24).length (f.map ofC24)) (hc : (f.map ofC24).length ≤ c) (hb : Below w.heap.size w w2) => hypercuberef02_Same.calls k A c _ A0 c0 _ true w2 ha hc (Kd.C_below hr0 hb) (by omega) t1
  have hS2 := fun A c w2 (ha : Kd.C k60 w2 A (g.map ofC24).length (g.map ofC24)) (hc : (g.map ofC24).length ≤ c) (hb : Below w.heap.size w w2) => hypercuberef02_Same.calls k A c _ A1 c1 _ true w2 ha hc (Kd.C_below hr1 hb) (by omega) t2
  rw [ef] at hJ hJ' hM hM' hR hR' hS1
  rw [eg] at hJ hJ' hM hM' hS2
  have HB0 := Lib.hid hb0
  have HRd0 := Lib.hid hRd0
  have HRd1 := Lib.hid hRd1
  have HL : Hid (¬ 24 < f.length ∧ ¬ 24 < g.length) := Lib.hid ⟨hlf, hlg⟩
  clear hb0 hRd0 hRd1 ef eg hlf hlg hr0 hr1 hc0 hc1 HT h1 h2 h3 h4 h5 h6 r1 r2 t1 t2 hw
  go_enter Tryd.func8, Tryd.ntmps8
  go_upto_region 4 with (first
    | (go_at_call 28; refine hG.mono ?_; rintro e w2 ⟨rfl, hb2⟩; have HB2 := Lib.hid (below_then HB0 HB0.size hb2); have HBa : Hid (Below w2.heap.size w2 (w2.alloc (.cells #[] 60))) := Lib.hid ((Below.refl _ _).alloc (Nat.le_refl _) _); have HOa := Lib.hid (Own.made (w := w2) (Nat.le_refl w2.heap.size)); clear hb2 HB0 hG)
    | (at_builtin; refine wpList_append_rd rfl (.tmp 26) (.tmp 27) rfl rfl HOa rfl ((HRd0.below HB2).below HBa) (by have := HL.1; simp; omega) HBa.size ?_; intro vx w3 ho3 hb3 _; have HB23 := Lib.hid (HBa.trans hb3); have HB3 := Lib.hid (below_then HB2 HB2.size HB23); have HX3 := Lib.hid (IR.own ho3); have HBb : Hid (Below w3.heap.size w3 (w3.alloc (.cells #[] 60))) := Lib.hid ((Below.refl _ _).alloc (Nat.le_refl _) _); have HOb := Lib.hid (Own.made (w := w3) (Nat.le_refl w3.heap.size)); clear ho3 hb3 HBa HOa HB2 HB23 HRd0)
    | (at_builtin; refine wpList_append_rd rfl (.tmp 29) (.tmp 30) rfl rfl HOb rfl ((HRd1.below HB3).below HBb) (by have := HL.2; simp; omega) HBb.size ?_; intro vy w4 ho4 hb4 _; have HB34 := Lib.hid (HBb.trans hb4); have HB4 := Lib.hid (below_then HB3 HB3.size HB34); have HX4 := Lib.hid (IR.below HX3 HB34); have HY4 := Lib.hid (IR.own ho4); have S4 : Hid (w3.heap.size ≤ w4.heap.size) := Lib.hid HB34.size; have S0 : Hid (w.heap.size ≤ w4.heap.size) := Lib.hid HB4.size; clear ho4 hb4 HBb HOb HB3 HB34 HX3 HRd1 HL; obtain ⟨Ax, cx, rfl⟩ := IR.sliceC HX4; obtain ⟨Ay, cy, rfl⟩ := IR.sliceC HY4))
  go_upto_region 9 with (first
    | (go_at_call 30; refine (hJ Ax Ay cx cy _ (IR.readC HX4).1 (IR.readC HX4).2 (IR.readC HY4).1 (IR.readC HY4).2).mono ?_; rintro e w5 ⟨va, rfl, ha, hb⟩; have HB5 := Lib.hid (below_then HB4 HB4.size hb); have HX5 := Lib.hid (IR.below HX4 hb); have HY5 := Lib.hid (IR.below HY4 hb); have HA5 := Lib.hid (IR.of ha); have S5 := Lib.hid hb.size; clear ha hb HX4 HY4 HB4)
    | (go_at_call 31; refine (hJ' _ HB5).mono ?_; rintro e w6 ⟨vb, rfl, ha, hb⟩; have HB6 := Lib.hid (below_then HB5 HB5.size hb); have HX6 := Lib.hid (IR.below HX5 hb); have HY6 := Lib.hid (IR.below HY5 hb); have HA6 := Lib.hid (IR.below HA5 hb); have HC6 := Lib.hid (IR.of ha); have S6 := Lib.hid hb.size; clear ha hb HX5 HY5 HA5 HB5; obtain ⟨A2, c2, rfl, _, _⟩ := IR.slice HC6)
    | (go_at_call 32; refine (hM Ax Ay cx cy _ (IR.readC HX6).1 (IR.readC HX6).2 (IR.readC HY6).1 (IR.readC HY6).2).mono ?_; rintro e w7 ⟨vc, rfl, ha, hb⟩; have HB7 := Lib.hid (below_then HB6 HB6.size hb); have HX7 := Lib.hid (IR.below HX6 hb); have HY7 := Lib.hid (IR.below HY6 hb); have HA7 := Lib.hid (IR.below HA6 hb); have HC7 := Lib.hid (IR.below HC6 hb); have HD7 := Lib.hid (IR.of ha); have S7 := Lib.hid hb.size; clear ha hb HX6 HY6 HA6 HC6 HB6)
    | (go_at_call 33; refine (hM' _ HB7).mono ?_; rintro e w8 ⟨vd, rfl, ha, hb⟩; have HB8 := Lib.hid (below_then HB7 HB7.size hb); have HX8 := Lib.hid (IR.below HX7 hb); have HY8 := Lib.hid (IR.below HY7 hb); have HA8 := Lib.hid (IR.below HA7 hb); have HC8 := Lib.hid (IR.below HC7 hb); have HD8 := Lib.hid (IR.below HD7 hb); have HE8 := Lib.hid (IR.of ha); have S8 := Lib.hid hb.size; clear ha hb HX7 HY7 HA7 HC7 HD7 HB7; obtain ⟨A4, c4, rfl, _, _⟩ := IR.slice HE8)
    | (go_at_call 34; refine (hD _).mono ?_; rintro e w9 ⟨vp, rfl, ha, hb⟩; have HB9 := Lib.hid (below_then HB8 HB8.size hb); have HX9 := Lib.hid (IR.below HX8 hb); have HY9 := Lib.hid (IR.below HY8 hb); have HA9 := Lib.hid (IR.below HA8 hb); have HC9 := Lib.hid (IR.below HC8 hb); have HD9 := Lib.hid (IR.below HD8 hb); have HE9 := Lib.hid (IR.below HE8 hb); have HF9 := Lib.hid (IR.of ha); have S9 := Lib.hid hb.size; clear ha hb HX8 HY8 HA8 HC8 HD8 HE8 HB8))
  go_cut [19, 20] (fun v19 v20 wc => ∃ (A6 : Option Addr) (c6 : Nat), v19 = .slice A6 db.length c6 ∧ v20 = .int .i64 df ∧ Hid (Below w.heap.size w wc) ∧ Hid (IR wc w2.heap.size w3.heap.size (.slice Ax f.length cx) (f.map ofC24)) ∧ Hid (IR wc w3.heap.size w4.heap.size (.slice Ay g.length cy) (g.map ofC24)) ∧ Hid (IR wc w4.heap.size w5.heap.size va ja) ∧ Hid (IR wc w5.heap.size w6.heap.size (.slice A2 jb.length c2) jb) ∧ Hid (IR wc w6.heap.size w7.heap.size vc ma) ∧ Hid (IR wc w7.heap.size w8.heap.size (.slice A4 mb.length c4) mb) ∧ Hid (IR wc w8.heap.size w9.heap.size vp da) ∧ Hid (IR wc w9.heap.size wc.heap.size (.slice A6 db.length c6) db))
  case first =>
    go_wp2_with (first
      | (go_at_call 35; refine (hD' _).mono ?_; rintro e w10 ⟨vq, rfl, ha, hb⟩; have HB10 := Lib.hid (below_then HB9 HB9.size hb); have HX10 := Lib.hid (IR.below HX9 hb); have HY10 := Lib.hid (IR.below HY9 hb); have HA10 := Lib.hid (IR.below HA9 hb); have HC10 := Lib.hid (IR.below HC9 hb); have HD10 := Lib.hid (IR.below HD9 hb); have HE10 := Lib.hid (IR.below HE9 hb); have HF10 := Lib.hid (IR.below HF9 hb); have HG10 := Lib.hid (IR.of ha); have S10 := Lib.hid hb.size; clear ha hb HX9 HY9 HA9 HC9 HD9 HE9 HF9 HB9; obtain ⟨A6, c6, rfl, _, _⟩ := IR.slice HG10))
    go_meet
    case rel => exact ⟨A6, c6, rfl, rfl, HB10, HX10, HY10, HA10, HC10, HD10, HE10, HF10, HG10⟩
  case rest =>
    obtain ⟨A6, c6, rfl, rfl, HB10, HX10, HY10, HA10, HC10, HD10, HE10, HF10, HG10⟩ := hcut
    clear HB9 HX9 HY9 HA9 HC9 HD9 HE9 HF9 hJ hJ' hM hM' hD hD'
    go_wp2_with (first
      | (go_at_call 36; refine (same_IR k w _ va ja jb je jf y1 A2 c2 HB10 S0 HA10 HC10 (.inl (Nat.le_refl _)) s1).mono ?_; rintro e w11 ⟨rfl, hb, hk⟩; have HB11 := Lib.hid hb; have HX11 := Lib.hid (IR.kept HX10 hk (.inl S4)); have HY11 := Lib.hid (IR.kept HY10 hk (.inl (Nat.le_refl _))); have HD11 := Lib.hid (IR.kept HD10 hk (.inr S6)); have HE11 := Lib.hid (IR.kept HE10 hk (.inr (Nat.le_trans S6 S7))); have HF11 := Lib.hid (IR.kept HF10 hk (.inr (Nat.le_trans S6 (Nat.le_trans S7 S8)))); have HG11 := Lib.hid (IR.kept HG10 hk (.inr (Nat.le_trans S6 (Nat.le_trans S7 (Nat.le_trans S8 S9))))); clear hb hk HX10 HY10 HD10 HE10 HF10 HG10 HA10 HC10 HB10)
      | (go_at_call 36; refine (same_IR k w _ vc ma mb me mf y2 A4 c4 HB11 (Nat.le_trans S0 (Nat.le_trans S5 S6)) HD11 HE11 (.inl (Nat.le_refl _)) s2).mono ?_; rintro e w12 ⟨rfl, hb, hk⟩; have HB12 := Lib.hid hb; have HX12 := Lib.hid (IR.kept HX11 hk (.inl (Nat.le_trans S4 (Nat.le_trans S5 S6)))); have HY12 := Lib.hid (IR.kept HY11 hk (.inl (Nat.le_trans S5 S6))); have HF12 := Lib.hid (IR.kept HF11 hk (.inr S8)); have HG12 := Lib.hid (IR.kept HG11 hk (.inr (Nat.le_trans S8 S9))); clear hb hk HX11 HY11 HF11 HG11 HD11 HE11 HB11)
      | (go_at_call 36; refine (same_IR k w _ vp da db de df y3 A6 c6 HB12 (Nat.le_trans S0 (Nat.le_trans S5 (Nat.le_trans S6 (Nat.le_trans S7 S8)))) HF12 HG12 (.inl (Nat.le_refl _)) s3).mono ?_; rintro e w13 ⟨rfl, hb, hk⟩; have HB13 := Lib.hid hb; have HX13 := Lib.hid (IR.kept HX12 hk (.inl (Nat.le_trans S4 (Nat.le_trans S5 (Nat.le_trans S6 (Nat.le_trans S7 S8)))))); have HY13 := Lib.hid (IR.kept HY12 hk (.inl (Nat.le_trans S5 (Nat.le_trans S6 (Nat.le_trans S7 S8))))); clear hb hk HX12 HY12 HF12 HG12 HB12)
      | (go_at_call 37; refine (hR Ax cx _ (IR.readC HX13).1 (IR.readC HX13).2).mono ?_; rintro e w14 ⟨rfl, hb⟩; have HB14 := Lib.hid (below_then HB13 HB13.size hb); have HX14 := Lib.hid (IR.below HX13 hb); have HY14 := Lib.hid (IR.below HY13 hb); clear hb HX13 HY13 HB13)
      | (go_at_call 38; refine (hR' _ HB14).mono ?_; rintro e w15 ⟨rfl, hb⟩; have HB15 := Lib.hid (below_then HB14 HB14.size hb); have HX15 := Lib.hid (IR.below HX14 hb); have HY15 := Lib.hid (IR.below HY14 hb); clear hb HX14 HY14 HB14)
      | (go_at_call 27; refine (hS1 Ax cx _ (IR.readC HX15).1 (IR.readC HX15).2 HB15).mono ?_; rintro e w16 ⟨rfl, hd⟩; have hb := drawn_below hd; have HB16 := Lib.hid (below_then HB15 HB15.size hb); have HY16 := Lib.hid (IR.below HY15 hb); clear hd hb HY15 HB15; clear HX15)
      | (go_at_call 27; refine (hS2 Ay cy _ (IR.readC HY16).1 (IR.readC HY16).2 HB16).mono ?_; rintro e w17 ⟨rfl, hd⟩; have hb := drawn_below hd; have HB17 := Lib.hid (below_then HB16 HB16.size hb); clear hd hb  HB16; clear HY16)
      | (go_at_call 29; refine (hW _ HB17).mono ?_; rintro e w18 ⟨rfl, hb18⟩))
    go_ret
    exact ⟨rfl, below_then HB17 HB17.size hb18⟩
/-- FormulaJoins, for the answer true. -/
def hypercubelaw03_FormulaJoins.f (k : Nat) (l0 l1 : List S60) (i : Int) : Option Bool :=
  if 24 < l0.length ∨ 24 < l1.length then hypercubelaw03_works.f k
  else (formula_Join.f l0 l1).bind fun a => (hypercuberef03_Join.f k l0 l1).bind fun b => (formula_Meet.f l0 l1).bind fun c => (hypercuberef03_Meet.f k l0 l1).bind fun d => (formula_Dim.f i).bind fun p => (hypercuberef03_Dim.f k i).bind fun q =>
    (hypercubelaw03_same.f k a.1 a.2 b.1 b.2).bind fun s => (hypercubelaw03_same.f k c.1 c.2 d.1 d.2).bind fun t => (hypercubelaw03_same.f k p.1 p.2 q.1 q.2).bind fun u => (formula_Right.f k l0).bind fun x => (hypercuberef03_Right.f k l0).bind fun y =>
    (hypercuberef02_Same.f k l0 l0).bind fun m => (hypercuberef02_Same.f k l1 l1).bind fun n => if s.1 = true ∧ t.1 = true ∧ u.1 = true ∧ x = y ∧ m = true ∧ n = true then hypercubelaw03_works.f k else some false
theorem forthC24 {l : List S60} (h : okL24 l) : (l.map toC24).map ofC24 = l := by
  rw [List.map_map]
  conv => rhs; rw [← List.map_id l]
  exact List.map_congr_left fun x hx => ofC_toC24 (List.all_eq_true.1 h.1 x hx)
set_option maxRecDepth 100000 in
theorem hypercubelaw03_FormulaJoins.calls (k : Nat) (A0 : Option Addr) (c0 : Nat) (l0 : List S60) (A1 : Option Addr) (c1 : Nat) (l1 : List S60) (a2 : Int) (r : Bool) (w : World) (hr_ : Aside0 (r = true)) (HT : Aside0 (Tab w)) (hr0 : Kd.C k60 w A0 l0.length l0) (hc0 : l0.length ≤ c0) (hr1 : Kd.C k60 w A1 l1.length l1) (hc1 : l1.length ≤ c1) (h : hypercubelaw03_FormulaJoins.f k l0 l1 a2 = some r) :
    Calls Tryd.prog 8 #[.slice A0 l0.length c0, .slice A1 l1.length c1, .int .i64 a2] w fun e w' => e = .returned (.bool r) ∧ Below w.heap.size w w' := by
  obtain rfl := hr_.out
  unfold hypercubelaw03_FormulaJoins.f at h
  by_cases hl : 24 < l0.length ∨ 24 < l1.length
  · rw [if_pos hl] at h
    exact joins_great k A0 A1 c0 _ c1 _ a2 w HT hl h
  · rw [if_neg hl] at h
    obtain ⟨a, h1, h⟩ := Option.bind_eq_some_iff.mp h
    obtain ⟨b, h2, h⟩ := Option.bind_eq_some_iff.mp h
    obtain ⟨c, h3, h⟩ := Option.bind_eq_some_iff.mp h
    obtain ⟨d, h4, h⟩ := Option.bind_eq_some_iff.mp h
    obtain ⟨p, h5, h⟩ := Option.bind_eq_some_iff.mp h
    obtain ⟨q, h6, h⟩ := Option.bind_eq_some_iff.mp h
    obtain ⟨s, s1, h⟩ := Option.bind_eq_some_iff.mp h
    obtain ⟨t, s2, h⟩ := Option.bind_eq_some_iff.mp h
    obtain ⟨u, s3, h⟩ := Option.bind_eq_some_iff.mp h
    obtain ⟨x, r1, h⟩ := Option.bind_eq_some_iff.mp h
    obtain ⟨y, r2, h⟩ := Option.bind_eq_some_iff.mp h
    obtain ⟨m, t1, h⟩ := Option.bind_eq_some_iff.mp h
    obtain ⟨n, t2, h⟩ := Option.bind_eq_some_iff.mp h
    by_cases hq : s.1 = true ∧ t.1 = true ∧ u.1 = true ∧ x = y ∧ m = true ∧ n = true
    · have hw : hypercubelaw03_works.f k = some true := by
        rw [if_pos hq] at h
        exact h
      clear h
      obtain ⟨q1, q2, q3, rfl, rfl, rfl⟩ := hq
      have hk : okL24 l0 ∧ okL24 l1 := by
        refine Classical.byContradiction fun hn => ?_
        unfold formula_Join.f at h1
        rw [if_neg fun z => hn ⟨z.1, z.2.1⟩] at h1
        cases h1
      obtain ⟨f, rfl⟩ : ∃ f : List C, l0 = f.map ofC24 := ⟨_, (forthC24 hk.1).symm⟩
      obtain ⟨g, rfl⟩ : ∃ g : List C, l1 = g.map ofC24 := ⟨_, (forthC24 hk.2).symm⟩
      have ef : (f.map ofC24).length = f.length := List.length_map ..
      have eg : (g.map ofC24).length = g.length := List.length_map ..
      have hz := joins_small k A0 A1 c0 c1 f g a2 w HT hr0 (by omega) hr1 (by omega) (by omega) (by omega)
        ⟨a.1, b.1, c.1, d.1, p.1, q.1, s.2, t.2, u.2, a.2, b.2, c.2, d.2, p.2, q.2, x, h1, h2, h3, h4, h5, h6, s1.trans (congrArg some (Prod.ext q1 rfl)), s2.trans (congrArg some (Prod.ext q2 rfl)), s3.trans (congrArg some (Prod.ext q3 rfl)), r1, r2, t1, t2, hw⟩
      rw [ef, eg]
      exact hz
    · rw [if_neg hq] at h
      exact absurd (Option.some.inj h) (by simp)
end Go.Proofs.YtfbcgjkagdbckaaDoor.XFn
