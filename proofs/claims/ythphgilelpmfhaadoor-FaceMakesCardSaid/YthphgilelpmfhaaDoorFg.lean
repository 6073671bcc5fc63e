/-
Walks: face.right, face.join.
-/
import Derived.Test.YthphgilelpmfhaaDoorFd
import Derived.Test.YthphgilelpmfhaaDoorApp
import Derived.Test.YthphgilelpmfhaaDoorAg
namespace Go.Proofs.YthphgilelpmfhaaDoor
open Go.RowKit H

def rightF (L : List (Option Addr × Nat × List C)) : Int := if L.all (fun x => faceR x.2.2) = true then 0 else 2
set_option maxRecDepth 100000 in
set_option maxHeartbeats 1000000 in
theorem face_right (S : SmallF) (b : Nat) (L : List (Option Addr × Nat × List C)) (w : World) (hA : ArgsC w b L) (hlen : L.length ≤ 1000) :
    Calls Tryd.prog 65 #[.slice (some ⟨b, 0, none⟩) L.length L.length] w fun e w' => e = .returned (.int .i64 (rightF L)) ∧ Below w.heap.size w w' := by
  go_enter Tryd.func65, Tryd.ntmps65
  go_wp2
  go_loopg [7] (L.length + 1) (fun kq v7 w' => ∃ j : Nat, v7 = .int .i64 (j : Int) ∧ j ≤ L.length ∧ kq + j = L.length + 1 ∧ Hid (∀ x ∈ L.take j, faceR x.2.2 = true) ∧ Below w.heap.size w w')
  case atStart => exact ⟨0, rfl, Nat.zero_le _, rfl, Lib.hid (by simp), Below.refl _ _⟩
  case round =>
    obtain ⟨j, rfl, hj, hk, hno, hb⟩ := hrel
    by_cases hlt : j < L.length
    · obtain ⟨h1, h2, h3, h4⟩ := (hA.below hb).at_ j hlt
      have hp := face_Right S L[j].1 L[j].2.1 L[j].2.2 wr h2 h3 h4
      have hsz := hb.size
      have HB := Lib.hid hb
      cases hpr : faceR L[j].2.2
      · rw [hpr] at hp
        have HP := Lib.hid hpr
        clear hno hb hpr
        go_wp2_with (go_at_call 91; refine hp.mono ?_; rintro e w2 ⟨rfl, hb2⟩)
        go_ret
        have hf : rightF L = 2 := by
          unfold rightF
          rw [if_neg]
          rw [List.all_eq_true]
          intro hall
          have := hall L[j] (List.getElem_mem _)
          rw [show faceR L[j].2.2 = false from HP] at this
          cases this
        exact ⟨by rw [hf]; rfl, below_then HB hsz hb2⟩
      · rw [hpr] at hp
        have HP := Lib.hid hpr
        have HN := hno
        clear hno hb hpr
        go_wp2_with (go_at_call 91; refine hp.mono ?_; rintro e w2 ⟨rfl, hb2⟩)
        go_roundg (gk - 1)
        case measure => omega
        case rel =>
          refine ⟨j + 1, by simp, by omega, by omega, Lib.hid fun d hd => ?_, below_then HB hsz hb2⟩
          rw [List.take_succ_eq_append_getElem hlt] at hd
          rcases List.mem_append.1 hd with h3 | h3
          · exact HN d h3
          · rw [List.mem_singleton.1 h3]
            exact HP
    · have HB := Lib.hid hb
      have hany : Hid (rightF L = 0) := by
        refine Lib.hid ?_
        unfold rightF
        rw [if_pos]
        rw [List.all_eq_true]
        intro x hx
        exact hno x (by rw [List.take_of_length_le (by omega)]; exact hx)
      clear hb hno
      go_wp2
      go_ret
      exact ⟨by rw [hany]; rfl, HB⟩
set_option maxRecDepth 100000 in
set_option maxHeartbeats 2000000 in
/-- face.join -/
theorem face_join (S : SmallF) (A0 A1 : Option Addr) (c0 c1 : Nat) (l0 l1 : List C) (w : World) (hR0 : Rd w A0 l0) (hR1 : Rd w A1 l1) (hl : l0.length + l1.length ≤ 1000000) :
    Calls Tryd.prog 66 #[.slice A0 l0.length c0, .slice A1 l1.length c1] w fun e w' => ∃ v, e = .returned (.tuple #[v, .int .i64 (least (l0 ++ l1)).2]) ∧ Own w' w.heap.size v (least (l0 ++ l1)).1 ∧ Below w.heap.size w w' := by
  have hb0 : Below w.heap.size w (w.alloc (.cells #[] 52)) := (Below.refl _ _).alloc (Nat.le_refl _) _
  have ho0 := Own.made (w := w) (Nat.le_refl _)
  have h3 : ∀ A1 c1 w1, Rd w1 A1 (l0 ++ l1) → Calls Tryd.prog 54 #[.slice A1 (l0 ++ l1).length c1] w1 fun e w' => ∃ v, e = .returned (.tuple #[v, .int .i64 (least (l0 ++ l1)).2]) ∧ Own w' w1.heap.size v (least (l0 ++ l1)).1 ∧ Below w1.heap.size w1 w' :=
    fun A1 c1 w1 h => clause_Least S.toSmall A1 c1 _ w1 h (by rw [List.length_append]; exact hl)
  generalize least (l0 ++ l1) = R at *
  have HB0 := Lib.hid hb0
  have HO := Lib.hid ho0
  clear hb0 ho0
  go_enter Tryd.func66, Tryd.ntmps66
  go_wp2_with (first
    | (at_builtin; refine wpList_append_rd rfl (.tmp 6) (.tmp 7) rfl rfl HO rfl (hR0.below HB0) (by simp; omega) (by simp) ?_; intro v1 w1 ho1 hb1 _; rw [List.nil_append] at ho1; have hb01 := HB0.trans hb1)
    | (at_builtin; refine wpList_append_rd rfl (.tmp 8) (.tmp 9) rfl rfl ho1 rfl (hR1.below hb01) (by omega) hb01.size ?_; intro v2 w2 ho2 hb2 _; have hb02 := hb01.trans hb2; generalize l0 ++ l1 = L at ho2 h3; obtain ⟨A2, c2, rfl, hR2⟩ := ho2.slice)
    | (go_at_call 54; refine (h3 _ _ _ hR2).mono ?_; rintro e w3 ⟨v3, rfl, ho3, hb3⟩))
  go_ret2
  exact ⟨_, rfl, ho3.mono hb02.size, below_then hb02 hb02.size hb3⟩
end Go.Proofs.YthphgilelpmfhaaDoor
