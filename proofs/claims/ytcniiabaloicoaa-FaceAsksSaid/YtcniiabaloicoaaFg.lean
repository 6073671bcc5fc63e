/-
Walks: face.right, face.Entails, face.join, face.Join.
-/
import Derived.Test.YtcniiabaloicoaaFd
import Derived.Test.YtcniiabaloicoaaApp
namespace Go.Proofs.Ytcniiabaloicoaa
open Go.RowKit H

/-- The arguments of a variadic function of rows: block b holds them. -/
structure ArgsC (w : World) (b : Nat) (L : List (Option Addr × Nat × List C)) : Prop where
  at_ : ∀ j (h : j < L.length), w.cell? ⟨b, j, none⟩ = some (.slice L[j].1 L[j].2.2.length L[j].2.1) ∧ Rd w L[j].1 L[j].2.2 ∧ L[j].2.2.length ≤ L[j].2.1 ∧ L[j].2.2.length ≤ 1000000
theorem ArgsC.below {w w1 : World} {b : Nat} {L : List (Option Addr × Nat × List C)} (h : ArgsC w b L) (hb : Below w.heap.size w w1) : ArgsC w1 b L :=
  ⟨fun j hj => by
    obtain ⟨h1, h2, h3⟩ := h.at_ j hj
    exact ⟨(hb.cell (World.block_lt_of_cell? w _ h1)).trans h1, h2.below hb, h3⟩⟩
def rightF (L : List (Option Addr × Nat × List C)) : Int := if L.all (fun x => faceR x.2.2) = true then 0 else 2
set_option maxRecDepth 100000 in
set_option maxHeartbeats 1000000 in
theorem face_right (S : SmallF) (b : Nat) (L : List (Option Addr × Nat × List C)) (w : World) (hA : ArgsC w b L) (hlen : L.length ≤ 1000) :
    Calls Try.prog 40 #[.slice (some ⟨b, 0, none⟩) L.length L.length] w fun e w' => e = .returned (.int .i64 (rightF L)) ∧ Below w.heap.size w w' := by
  go_enter Try.func40, Try.ntmps40
  go_wp2
  go_loopg [7] (L.length + 1) (fun kq v7 w' => ∃ j : Nat, v7 = .int .i64 (j : Int) ∧ j ≤ L.length ∧ kq + j = L.length + 1 ∧ Hid (∀ x ∈ L.take j, faceR x.2.2 = true) ∧ Below w.heap.size w w')
  case atStart => exact ⟨0, rfl, Nat.zero_le _, rfl, Lib.hid (by simp), Below.refl _ _⟩
  case round =>
    obtain ⟨j, rfl, hj, hk, hno, hb⟩ := hrel
    by_cases hlt : j < L.length
    · obtain ⟨h1, h2, h3, h4⟩ := (hA.below hb).at_ j hlt
      have hp := face_Right S L[j].1 L[j].2.1 L[j].2.2 wr h2 h3 h4
      have hsz := hb.size
      have HB := Lib.hid hb
      cases hpr : faceR L[j].2.2
      · rw [hpr] at hp
        have HP := Lib.hid hpr
        clear hno hb hpr
        go_wp2_with (go_at_call 13; refine hp.mono ?_; rintro e w2 ⟨rfl, hb2⟩)
        go_ret
        have hf : rightF L = 2 := by
          unfold rightF
          rw [if_neg]
          rw [List.all_eq_true]
          intro hall
          have := hall L[j] (List.getElem_mem _)
          rw [show faceR L[j].2.2 = false from HP] at this
          cases this
        exact ⟨by rw [hf]; rfl, below_then HB hsz hb2⟩
      · rw [hpr] at hp
        have HP := Lib.hid hpr
        have HN := hno
        clear hno hb hpr
        go_wp2_with (go_at_call 13; refine hp.mono ?_; rintro e w2 ⟨rfl, hb2⟩)
        go_roundg (gk - 1)
        case measure => omega
        case rel =>
          refine ⟨j + 1, by simp, by omega, by omega, Lib.hid fun d hd => ?_, below_then HB hsz hb2⟩
          rw [List.take_succ_eq_append_getElem hlt] at hd
          rcases List.mem_append.1 hd with h3 | h3
          · exact HN d h3
          · rw [List.mem_singleton.1 h3]
            exact HP
    · have HB := Lib.hid hb
      have hany : Hid (rightF L = 0) := by
        refine Lib.hid ?_
        unfold rightF
        rw [if_pos]
        rw [List.all_eq_true]
        intro x hx
        exact hno x (by rw [List.take_of_length_le (by omega)]; exact hx)
      clear hb hno
      go_wp2
      go_ret
      exact ⟨by rw [hany]; rfl, HB⟩
/-- Two rows, laid into a block of the call's own. -/
theorem ArgsC.two {w : World} {A0 A1 : Option Addr} {c0 c1 : Nat} {l0 l1 : List C} (h0 : Rd w A0 l0) (h1 : Rd w A1 l1) (k0 : l0.length ≤ c0) (k1 : l1.length ≤ c1) (n0 : l0.length ≤ 1000000) (n1 : l1.length ≤ 1000000) :
    ArgsC (w.alloc (.cells #[.slice A0 l0.length c0, .slice A1 l1.length c1] 22)) w.heap.size [(A0, c0, l0), (A1, c1, l1)] :=
  ⟨fun j hj => by
    match j, hj with
    | 0, _ => exact ⟨World.cell?_alloc_new .., h0.alloc _, k0, n0⟩
    | 1, _ => exact ⟨World.cell?_alloc_new .., h1.alloc _, k1, n1⟩⟩
def entF (f g : List C) : Bool × Int := if faceR f = true ∧ faceR g = true then (!(f.any fun c => !(g.any fun d => H.below c d)), 0) else (false, 2)
set_option maxRecDepth 100000 in
theorem entails_pred (S : SmallF) (c : C) (bg cap : Nat) (A : Option Addr) (l : List C) (w : World) (h : w.cell? ⟨bg, 0, none⟩ = some (.slice A l.length cap)) (hR : Rd w A l) :
    Calls Try.prog 41 #[.agg #[.int .u32 (un c.1), .int .u32 (un c.2)], .pointer (some ⟨bg, 0, none⟩)] w fun e w' => e = .returned (.bool (!(l.any fun d => H.below c d))) ∧ Below w.heap.size w w' := by
  have hb0 : Below w.heap.size w (w.alloc (.cells #[.int .u32 (un c.1), .int .u32 (un c.2)] 32)) := (Below.refl _ _).alloc (Nat.le_refl _) _
  have hlt := World.block_lt_of_cell? w _ h
  have hc := (hb0.cell hlt).trans h
  have hA : At2 (w.alloc (.cells #[.int .u32 (un c.1), .int .u32 (un c.2)] 32)) w.heap.size c := ⟨World.cell?_alloc_new .., World.cell?_alloc_new ..⟩
  have h0 := hA.1
  have h1 := hA.2
  have hu := face_under S c A cap l _ (hR.below hb0)
  generalize (l.any fun d => H.below c d) = U at *
  go_enter Try.func41, Try.ntmps41
  go_wp2_with (go_at_call 42; refine hu.mono ?_; rintro e w2 ⟨rfl, hb2⟩)
  go_ret
  exact ⟨rfl, below_then hb0 (by simp) hb2⟩
set_option maxRecDepth 100000 in
set_option maxHeartbeats 2000000 in
theorem face_Entails (S : SmallF) (A0 A1 : Option Addr) (c0 c1 : Nat) (l0 l1 : List C) (w : World) (hR0 : Rd w A0 l0) (hR1 : Rd w A1 l1) (hc0 : l0.length ≤ c0) (hc1 : l1.length ≤ c1) (hl0 : l0.length ≤ 1000000) (hl1 : l1.length ≤ 1000000) :
    Calls Try.prog 15 #[.slice A0 l0.length c0, .slice A1 l1.length c1] w fun e w' => e = .returned (.tuple #[.bool (entF l0 l1).1, .int .i64 (entF l0 l1).2]) ∧ Below w.heap.size w w' := by
  have hb0 : Below w.heap.size w (w.alloc (.cells #[.slice A1 l1.length c1] 22)) := (Below.refl _ _).alloc (Nat.le_refl _) _
  have hA : (w.alloc (.cells #[.slice A1 l1.length c1] 22)).cell? ⟨w.heap.size, 0, none⟩ = some (.slice A1 l1.length c1) := World.cell?_alloc_new ..
  have hR0' := hR0.below hb0
  have hR1' := hR1.below hb0
  have h1 := face_right S _ _ _ (ArgsC.two hR0' hR1' hc0 hc1 hl0 hl1) (by simp)
  rw [World.size_alloc] at h1
  have hb1 : Below w.heap.size w ((w.alloc (.cells #[.slice A1 l1.length c1] 22)).alloc (.cells #[.slice A0 l0.length c0, .slice A1 l1.length c1] 22)) := hb0.alloc (by simp) _
  have hA1 := (World.cell?_alloc_lt (w.alloc (.cells #[.slice A1 l1.length c1] 22)) (.cells #[.slice A0 l0.length c0, .slice A1 l1.length c1] 22) ⟨w.heap.size, 0, none⟩ (by simp)).trans hA
  have eg : ∀ args w, (callFunc 41 args).run Try.prog w = .ok (.enter 41 args) w := enters_of Try.func41 (by kernel_rfl) rfl
  have h2 : ∀ w1, Below ((w.alloc (.cells #[.slice A1 l1.length c1] 22)).alloc (.cells #[.slice A0 l0.length c0, .slice A1 l1.length c1] 22)).heap.size ((w.alloc (.cells #[.slice A1 l1.length c1] 22)).alloc (.cells #[.slice A0 l0.length c0, .slice A1 l1.length c1] 22)) w1 →
      Calls Try.prog 25 #[.slice A0 l0.length c0, .func (.func 41) #[] #[.pointer (some ⟨w.heap.size, 0, none⟩)]] w1 fun e w' => e = .returned (.bool (l0.any fun c => !(l1.any fun d => H.below c d))) ∧ Below w1.heap.size w1 w' :=
    fun w1 hb => any_bound_c 41 (.pointer (some ⟨w.heap.size, 0, none⟩)) (fun c => !(l1.any fun d => H.below c d)) c0 A0 l0 w1 ((hR0.below hb1).below hb) eg fun d w2 hb2 =>
      entails_pred S d w.heap.size c1 A1 l1 w2 ((hb2.cell (World.block_lt_of_cell? _ _ ((hb.cell (World.block_lt_of_cell? _ _ hA1)).trans hA1))).trans ((hb.cell (World.block_lt_of_cell? _ _ hA1)).trans hA1)) (((hR1.below hb1).below hb).below hb2)
  have HB1 := Lib.hid hb1
  clear hb1 hb0 eg hA1 hR0' hR1'
  unfold entF
  generalize (l0.any fun c => !(l1.any fun d => H.below c d)) = U at *
  by_cases hf : faceR l0 = true ∧ faceR l1 = true
  · rw [show rightF [(A0, c0, l0), (A1, c1, l1)] = 0 by unfold rightF; simp [hf.1, hf.2]] at h1
    rw [if_pos hf]
    clear hf
    go_enter Try.func15, Try.ntmps15
    go_wp2_with (first
      | (go_at_call 40; refine h1.mono ?_; rintro e w2 ⟨rfl, hb2⟩)
      | (go_at_call 25; refine (h2 _ hb2).mono ?_; rintro e w3 ⟨rfl, hb3⟩))
    go_ret2
    exact ⟨rfl, below_then HB1 HB1.size (below_then hb2 hb2.size hb3)⟩
  · rw [show rightF [(A0, c0, l0), (A1, c1, l1)] = 2 by unfold rightF; rw [if_neg]; simpa using hf] at h1
    rw [if_neg hf]
    clear hf h2
    go_enter Try.func15, Try.ntmps15
    go_wp2_with (go_at_call 40; refine h1.mono ?_; rintro e w2 ⟨rfl, hb2⟩)
    go_ret2
    exact ⟨rfl, below_then HB1 HB1.size hb2⟩
set_option maxRecDepth 100000 in
set_option maxHeartbeats 2000000 in
/-- face.join -/
theorem face_join (S : SmallF) (A0 A1 : Option Addr) (c0 c1 : Nat) (l0 l1 : List C) (w : World) (hR0 : Rd w A0 l0) (hR1 : Rd w A1 l1) (hl : l0.length + l1.length ≤ 1000000) :
    Calls Try.prog 48 #[.slice A0 l0.length c0, .slice A1 l1.length c1] w fun e w' => ∃ v, e = .returned (.tuple #[v, .int .i64 (least (l0 ++ l1)).2]) ∧ Own w' w.heap.size v (least (l0 ++ l1)).1 ∧ Below w.heap.size w w' := by
  have hb0 : Below w.heap.size w (w.alloc (.cells #[] 32)) := (Below.refl _ _).alloc (Nat.le_refl _) _
  have ho0 := Own.made (w := w) (Nat.le_refl _)
  have h3 : ∀ A1 c1 w1, Rd w1 A1 (l0 ++ l1) → Calls Try.prog 8 #[.slice A1 (l0 ++ l1).length c1] w1 fun e w' => ∃ v, e = .returned (.tuple #[v, .int .i64 (least (l0 ++ l1)).2]) ∧ Own w' w1.heap.size v (least (l0 ++ l1)).1 ∧ Below w1.heap.size w1 w' :=
    fun A1 c1 w1 h => clause_Least S.toSmall A1 c1 _ w1 h (by rw [List.length_append]; exact hl)
  generalize least (l0 ++ l1) = R at *
  have HB0 := Lib.hid hb0
  have HO := Lib.hid ho0
  clear hb0 ho0
  go_enter Try.func48, Try.ntmps48
  go_wp2_with (first
    | (at_builtin; refine wpList_append_rd rfl (.tmp 6) (.tmp 7) rfl rfl HO rfl (hR0.below HB0) (by simp; omega) (by simp) ?_; intro v1 w1 ho1 hb1 _; rw [List.nil_append] at ho1; have hb01 := HB0.trans hb1)
    | (at_builtin; refine wpList_append_rd rfl (.tmp 8) (.tmp 9) rfl rfl ho1 rfl (hR1.below hb01) (by omega) hb01.size ?_; intro v2 w2 ho2 hb2 _; have hb02 := hb01.trans hb2; generalize l0 ++ l1 = L at ho2 h3; obtain ⟨A2, c2, rfl, hR2⟩ := ho2.slice)
    | (go_at_call 8; refine (h3 _ _ _ hR2).mono ?_; rintro e w3 ⟨v3, rfl, ho3, hb3⟩))
  go_ret2
  exact ⟨_, rfl, ho3.mono hb02.size, below_then hb02 hb02.size hb3⟩
end Go.Proofs.Ytcniiabaloicoaa
