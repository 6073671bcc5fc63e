/-
Walks: law03's great, FormulaNots.
-/
import Derived.Test.YthphgilelpmfhaaDoorXFnx
namespace Go.Proofs.YthphgilelpmfhaaDoor.XFn
open Go.RowKit Go.Proofs.YthphgilelpmfhaaDoorW.PrintWords Go.Proofs.YthphgilelpmfhaaDoorW.PrintLast Go.Proofs.YthphgilelpmfhaaDoorW.PrintMore

/-- The arguments of 'great': rows of any kind, by their lengths. -/
structure ArgsN (w : World) (b : Nat) (L : List (Option Addr × Nat × Nat)) : Prop where
  at_ : ∀ j (h : j < L.length), w.cell? ⟨b, j, none⟩ = some (.slice L[j].1 L[j].2.1 L[j].2.2)
theorem ArgsN.below {w w1 : World} {b : Nat} {L : List (Option Addr × Nat × Nat)} (h : ArgsN w b L) (hb : Below w.heap.size w w1) : ArgsN w1 b L :=
  ⟨fun j hj => (hb.cell (World.block_lt_of_cell? w _ (h.at_ j hj))).trans (h.at_ j hj)⟩
theorem ArgsN.one (w : World) (A : Option Addr) (n c : Nat) : ArgsN (w.alloc (.cells #[.slice A n c] 22)) w.heap.size [(A, n, c)] :=
  ⟨fun j hj => by
    match j, hj with
    | 0, _ => exact World.cell?_alloc_new ..⟩
theorem ArgsN.two (w : World) (A B : Option Addr) (n c m d : Nat) : ArgsN (w.alloc (.cells #[.slice A n c, .slice B m d] 22)) w.heap.size [(A, n, c), (B, m, d)] :=
  ⟨fun j hj => by
    match j, hj with
    | 0, _ => exact World.cell?_alloc_new ..
    | 1, _ => exact World.cell?_alloc_new ..⟩
def greatB (L : List (Option Addr × Nat × Nat)) : Bool := L.any fun x => decide (24 < x.2.1)
set_option maxRecDepth 100000 in
set_option maxHeartbeats 1000000 in
theorem law_great (b : Nat) (L : List (Option Addr × Nat × Nat)) (w : World) (hA : ArgsN w b L) (hlen : L.length ≤ 1000) :
    Calls Tryd.prog 10 #[.slice (some ⟨b, 0, none⟩) L.length L.length] w fun e w' => e = .returned (.bool (greatB L)) ∧ Below w.heap.size w w' := by
  go_enter Tryd.func10, Tryd.ntmps10
  go_wp2
  go_loopg [7] (L.length + 1) (fun kq v7 w' => ∃ j : Nat, v7 = .int .i64 (j : Int) ∧ j ≤ L.length ∧ kq + j = L.length + 1 ∧ Hid (∀ x ∈ L.take j, ¬ 24 < x.2.1) ∧ Below w.heap.size w w')
  case atStart => exact ⟨0, rfl, Nat.zero_le _, rfl, Lib.hid (by simp), Below.refl _ _⟩
  case round =>
    obtain ⟨j, rfl, hj, hk, hno, hb⟩ := hrel
    by_cases hlt : j < L.length
    · have h1 := (hA.below hb).at_ j hlt
      have HB := Lib.hid hb
      by_cases hp : 24 < L[j].2.1
      · have HP := Lib.hid hp
        have hpi : (24 : Int) < (L[j].2.1 : Int) := by omega
        clear hno hb hp
        go_wp2
        go_ret
        have hf : greatB L = true := by
          unfold greatB
          rw [List.any_eq_true]
          exact ⟨L[j], List.getElem_mem _, decide_eq_true HP⟩
        exact ⟨by rw [hf]; rfl, HB⟩
      · have HP := Lib.hid hp
        have hpi : ¬ (24 : Int) < (L[j].2.1 : Int) := by omega
        have HN := hno
        clear hno hb hp
        go_wp2
        go_roundg (gk - 1)
        case measure => omega
        case rel =>
          refine ⟨j + 1, by simp, by omega, by omega, Lib.hid fun d hd => ?_, HB⟩
          rw [List.take_succ_eq_append_getElem hlt] at hd
          rcases List.mem_append.1 hd with h3 | h3
          · exact HN d h3
          · rw [List.mem_singleton.1 h3]
            exact HP
    · have HB := Lib.hid hb
      have hany : Hid (greatB L = false) := by
        refine Lib.hid ?_
        unfold greatB
        rw [List.any_eq_false]
        intro x hx
        rw [decide_eq_true_iff]
        exact hno x (by rw [List.take_of_length_le (by omega)]; exact hx)
      clear hb hno
      go_wp2
      go_ret
      exact ⟨by rw [hany]; rfl, HB⟩
set_option maxRecDepth 100000 in
set_option maxHeartbeats 1000000 in
theorem nots_great (k : Nat) (A0 : Option Addr) (c0 n : Nat) (w : World) (HT : Aside0 (Tab w)) (h : 24 < n) (hw : hypercubelaw03_works.f k = some true) :
    Calls Tryd.prog 3 #[.slice A0 n c0] w fun e w' => e = .returned (.bool true) ∧ Below w.heap.size w w' := by
  have hb0 : Below w.heap.size w (w.alloc (.cells #[.slice A0 n c0] 22)) := (Below.refl _ _).alloc (Nat.le_refl _) _
  have h1 := law_great _ _ _ (ArgsN.one w A0 n c0) (by simp)
  rw [show greatB [(A0, n, c0)] = true by simp [greatB, h]] at h1
  have HB0 := Lib.hid hb0
  have h2 : ∀ w2, Below w.heap.size w w2 → Calls Tryd.prog 11 #[] w2 fun e w' => e = .returned (.bool true) ∧ Below w2.heap.size w2 w' :=
    fun w2 hb => hypercubelaw03_works.calls k true w2 ⟨Tab.below HT.out hb⟩ hw
  clear hb0 h
  go_enter Tryd.func3, Tryd.ntmps3
  go_wp2_with (first
    | (go_at_call 10; refine h1.mono ?_; rintro e w2 ⟨rfl, hb2⟩; have HB2 := below_then HB0 HB0.size hb2)
    | (go_at_call 11; refine (h2 _ HB2).mono ?_; rintro e w3 ⟨rfl, hb3⟩))
  go_ret
  exact ⟨rfl, below_then HB2 HB2.size hb3⟩
/-- 'same', over two rows of which the first is older than the second. -/
theorem same_two (k n1 : Nat) (w0 w : World) (va : Value) (l l2 : List S52) (e e2 : Int) (y : List S52) (A2 : Option Addr) (c2 : Nat) (hB : Below w0.heap.size w0 w) (ha : Kd.R k52 52 w w0.heap.size (fun _ => True) va l)
    (hlt : ∀ q, va.ownBlock = some q → q < n1) (hb : Kd.R k52 52 w n1 (fun _ => True) (.slice A2 l2.length c2) l2) (h : hypercubelaw03_same.f k l e l2 e2 = some (true, y)) :
    Calls Tryd.prog 14 #[va, .int .i64 e, .slice A2 l2.length c2, .int .i64 e2] w fun e' w' => e' = .returned (.bool true) ∧ Below w0.heap.size w0 w' ∧ Kept w w' (fun q => some q = va.ownBlock) := by
  have hab := Kd.R_bound hb
  refine (hypercubelaw03_same.calls k (fun q => some q = va.ownBlock) va l e A2 c2 l2 e2 true y w0 w hB (Kd.R_tight rfl ha) (Kd.C_kept_own hab fun q hq hs => ?_) (Kd.R_reads' hb).2.1 h).mono ?_
  · have h1 := hlt q hs.symm
    have h2 := hq.2.1
    omega
  · rintro e' w' ⟨rfl, _, h1, h2⟩
    exact ⟨rfl, h1, h2⟩
set_option maxRecDepth 100000 in
set_option maxHeartbeats 2000000 in
theorem nots_small (k : Nat) (A0 : Option Addr) (c0 : Nat) (l0 : List S52) (w : World) (HT : Aside0 (Tab w)) (hr0 : Kd.C k52 w A0 l0.length l0) (hc0 : l0.length ≤ c0) (hl : ¬ 24 < l0.length)
    (ra rb : List S52) (ea eb : Int) (h1 : formula_Not.f l0 = some (ra, ea)) (h2 : hypercuberef03_Not.f k l0 = some (rb, eb)) (y : List S52) (h3 : hypercubelaw03_same.f k ra ea rb eb = some (true, y)) (hw : hypercubelaw03_works.f k = some true) :
    Calls Tryd.prog 3 #[.slice A0 l0.length c0] w fun e w' => e = .returned (.bool true) ∧ Below w.heap.size w w' := by
  have hb0 : Below w.heap.size w (w.alloc (.cells #[.slice A0 l0.length c0] 22)) := (Below.refl _ _).alloc (Nat.le_refl _) _
  have hg := law_great _ _ _ (ArgsN.one w A0 l0.length c0) (by simp)
  rw [show greatB [(A0, l0.length, c0)] = false by simpa [greatB] using hl] at hg
  have hW : ∀ w2, Below w.heap.size w w2 → Calls Tryd.prog 11 #[] w2 fun e w' => e = .returned (.bool true) ∧ Below w2.heap.size w2 w' :=
    fun w2 hb => hypercubelaw03_works.calls k true w2 ⟨Tab.below HT.out hb⟩ hw
  have hN := fun w2 (hb : Below w.heap.size w w2) => formula_Not.calls A0 c0 l0 ra ea w2 ⟨Tab.below HT.out hb⟩ (Kd.C_below hr0 hb) hc0 h1
  have hM := fun w2 (hb : Below w.heap.size w w2) => hypercuberef03_Not.calls k A0 c0 l0 rb eb w2 (Kd.C_below hr0 hb) hc0 h2
  have HB0 := Lib.hid hb0
  clear hb0 hl hr0 hc0 h1 h2 hw HT
  generalize l0.length = n at *
  go_enter Tryd.func3, Tryd.ntmps3
  go_wp2_with (first
    | (go_at_call 10; refine hg.mono ?_; rintro e w2 ⟨rfl, hb2⟩; have HB2 := Lib.hid (below_then HB0 HB0.size hb2); clear hb2)
    | (go_at_call 12; refine (hN _ HB2).mono ?_; rintro e w3 ⟨va, rfl, ha3, hb3⟩; have HB3 := Lib.hid (below_then HB2 HB2.size hb3); have HA3 := Lib.hid (Kd.R_lower ha3 HB2.size); have HL3 := Lib.hid (fun q hq => ((Kd.R_bound ha3).1 q hq).2.2.1); clear ha3 hb3)
    | (go_at_call 13; refine (hM _ HB3).mono ?_; rintro e w4 ⟨vb, rfl, hr4, hb4⟩; obtain ⟨A2, c2, rfl⟩ := Kd.R_slice hr4; have HB4 := Lib.hid (below_then HB3 HB3.size hb4); have HA4 := Lib.hid (Kd.R_below HA3 hb4); have HR4 := Lib.hid hr4; clear hr4 hb4)
    | (go_at_call 14; refine (same_two k _ w _ va ra rb ea eb y A2 c2 HB4 HA4 HL3 HR4 h3).mono ?_; rintro e w5 ⟨rfl, hb5, _⟩; have HB5 := Lib.hid hb5; clear hb5)
    | (go_at_call 11; refine (hW _ HB5).mono ?_; rintro e w6 ⟨rfl, hb6⟩))
  go_ret
  exact ⟨rfl, below_then HB5 HB5.size hb6⟩
/-- FormulaNots, for the answer true. -/
def hypercubelaw03_FormulaNots.f (k : Nat) (l0 : List S52) : Option Bool :=
  if 24 < l0.length then hypercubelaw03_works.f k
  else (formula_Not.f l0).bind fun a => (hypercuberef03_Not.f k l0).bind fun b => (hypercubelaw03_same.f k a.1 a.2 b.1 b.2).bind fun t => if t.1 = true then hypercubelaw03_works.f k else some false
theorem hypercubelaw03_FormulaNots.calls (k : Nat) (A0 : Option Addr) (c0 : Nat) (l0 : List S52) (r : Bool) (w : World) (hr_ : Aside0 (r = true)) (HT : Aside0 (Tab w)) (hr0 : Kd.C k52 w A0 l0.length l0) (hc0 : l0.length ≤ c0) (h : hypercubelaw03_FormulaNots.f k l0 = some r) :
    Calls Tryd.prog 3 #[.slice A0 l0.length c0] w fun e w' => e = .returned (.bool r) ∧ Below w.heap.size w w' := by
  obtain rfl := hr_.out
  unfold hypercubelaw03_FormulaNots.f at h
  by_cases hl : 24 < l0.length
  · rw [if_pos hl] at h
    exact nots_great k A0 c0 _ w HT hl h
  · rw [if_neg hl] at h
    obtain ⟨a, ha, h⟩ := Option.bind_eq_some_iff.mp h
    obtain ⟨b, hb, h⟩ := Option.bind_eq_some_iff.mp h
    obtain ⟨t, ht, h⟩ := Option.bind_eq_some_iff.mp h
    by_cases hq : t.1 = true
    · rw [if_pos hq] at h
      exact nots_small k A0 c0 l0 w HT hr0 hc0 hl a.1 b.1 a.2 b.2 ha hb t.2 (by rw [ht, ← hq]) h
    · rw [if_neg hq] at h
      exact absurd (Option.some.inj h) (by simp)
end Go.Proofs.YthphgilelpmfhaaDoor.XFn
