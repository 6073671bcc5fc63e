/-
Walks: formula.right, join, Join, meet, Meet, fold, not, Not (written by wip/mkfo.py).
-/
import Derived.Test.YtfbcgjkagdbckaaGreatDoorLst
import Derived.Test.YtfbcgjkagdbckaaGreatDoorApp
import Derived.Test.YtfbcgjkagdbckaaGreatDoorFp
import Derived.Test.YtfbcgjkagdbckaaGreatDoorCn
import Derived.Test.YtfbcgjkagdbckaaGreatDoorAg
namespace Go.Proofs.YtfbcgjkagdbckaaGreatDoor
open Go.RowKit H

/-- What these walks ask of the functions that the print takes. -/
structure SmallP : Prop extends Small where
  meet : ∀ (a b : C) (w : World), Calls Tryz.prog 21 #[.agg #[.int .u32 (un a.1), .int .u32 (un a.2)], .agg #[.int .u32 (un b.1), .int .u32 (un b.2)]] w fun e w' => e = .returned (.agg #[.int .u32 (un (H.meet a b).1), .int .u32 (un (H.meet a b).2)]) ∧ Below w.heap.size w w'
  fright : ∀ (A : Option Addr) (cap : Nat) (l : List C) (w : World), Rd w A l → l.length ≤ cap → l.length ≤ 1000000 → Calls Tryz.prog 32 #[.slice A l.length cap] w fun e w' => e = .returned (.bool (H.right l)) ∧ Below w.heap.size w w'
def rightG (L : List (Option Addr × Nat × List C)) : Int := if L.all (fun x => H.right x.2.2) = true then 0 else 2
set_option maxRecDepth 100000 in
set_option maxHeartbeats 1000000 in
theorem form_right (S : SmallP) (b : Nat) (L : List (Option Addr × Nat × List C)) (w : World) (hA : ArgsC w b L) (hlen : L.length ≤ 1000) :
    Calls Tryz.prog 75 #[.slice (some ⟨b, 0, none⟩) L.length L.length] w fun e w' => e = .returned (.int .i64 (rightG L)) ∧ Below w.heap.size w w' := by
  go_enter Tryz.func75, Tryz.ntmps75
  go_wp2
  go_loopg [7] (L.length + 1) (fun kq v7 w' => ∃ j : Nat, v7 = .int .i64 (j : Int) ∧ j ≤ L.length ∧ kq + j = L.length + 1 ∧ Hid (∀ x ∈ L.take j, H.right x.2.2 = true) ∧ Below w.heap.size w w')
  case atStart => exact ⟨0, rfl, Nat.zero_le _, rfl, Lib.hid (by simp), Below.refl _ _⟩
  case round =>
    obtain ⟨j, rfl, hj, hk, hno, hb⟩ := hrel
    by_cases hlt : j < L.length
    · obtain ⟨h1, h2, h3, h4⟩ := (hA.below hb).at_ j hlt
      have hp := S.fright L[j].1 L[j].2.1 L[j].2.2 wr h2 h3 h4
      have hsz := hb.size
      have HB := Lib.hid hb
      cases hpr : H.right L[j].2.2
      · rw [hpr] at hp
        have HP := Lib.hid hpr
        clear hno hb hpr
        go_wp2_with (go_at_call 32; refine hp.mono ?_; rintro e w2 ⟨rfl, hb2⟩)
        go_ret
        have hf : rightG L = 2 := by
          unfold rightG
          rw [if_neg]
          rw [List.all_eq_true]
          intro hall
          have := hall L[j] (List.getElem_mem _)
          rw [show H.right L[j].2.2 = false from HP] at this
          cases this
        exact ⟨by rw [hf]; rfl, below_then HB hsz hb2⟩
      · rw [hpr] at hp
        have HP := Lib.hid hpr
        have HN := hno
        clear hno hb hpr
        go_wp2_with (go_at_call 32; refine hp.mono ?_; rintro e w2 ⟨rfl, hb2⟩)
        go_roundg (gk - 1)
        case measure => omega
        case rel =>
          refine ⟨j + 1, by simp, by omega, by omega, Lib.hid fun d hd => ?_, below_then HB hsz hb2⟩
          rw [List.take_succ_eq_append_getElem hlt] at hd
          rcases List.mem_append.1 hd with h3 | h3
          · exact HN d h3
          · rw [List.mem_singleton.1 h3]
            exact HP
    · have HB := Lib.hid hb
      have hany : Hid (rightG L = 0) := by
        refine Lib.hid ?_
        unfold rightG
        rw [if_pos]
        rw [List.all_eq_true]
        intro x hx
        exact hno x (by rw [List.take_of_length_le (by omega)]; exact hx)
      clear hb hno
      go_wp2
      go_ret
      exact ⟨by rw [hany]; rfl, HB⟩
theorem form_One (w : World) : Calls Tryz.prog 91 #[] w fun e w' => ∃ v, e = .returned v ∧ Own w' w.heap.size v [top] ∧ Below w.heap.size w w' := by
  have ho := Own.lit (w := w) (Nat.le_refl _) top
  have hb : Below w.heap.size w (w.alloc (.cells #[.int .u32 0, .int .u32 0] 25)) := (Below.refl _ _).alloc (Nat.le_refl _) _
  have e0 : un top.1 = 0 := rfl
  have e1 : un top.2 = 0 := rfl
  rw [e0, e1] at ho
  go_enter Tryz.func91, Tryz.ntmps91
  go_wp2
  go_ret
  exact ⟨_, rfl, ho, hb⟩
set_option maxRecDepth 100000 in
set_option maxHeartbeats 4000000 in
theorem form_meet (S : SmallP) (A0 A1 : Option Addr) (c0 c1 : Nat) (l0 l1 : List C) (w : World) (hR0 : Rd w A0 l0) (hR1 : Rd w A1 l1) (hl : l0.length * l1.length ≤ 1000000) (hl0 : l0.length ≤ 1000000) (hl1 : l1.length ≤ 1000000) :
    Calls Tryz.prog 94 #[.slice A0 l0.length c0, .slice A1 l1.length c1] w fun e w' => ∃ v, e = .returned (.tuple #[v, .int .i64 (least (meets l0 l1)).2]) ∧ Own w' w.heap.size v (least (meets l0 l1)).1 ∧ Below w.heap.size w w' := by
  have h3 : ∀ A1 c1 w1, Rd w1 A1 (meets l0 l1) → Calls Tryz.prog 17 #[.slice A1 (meets l0 l1).length c1] w1 fun e w' => ∃ v, e = .returned (.tuple #[v, .int .i64 (least (meets l0 l1)).2]) ∧ Own w' w1.heap.size v (least (meets l0 l1)).1 ∧ Below w1.heap.size w1 w' :=
    fun A1 c1 w1 h => clause_Least S.toSmall A1 c1 _ w1 h (by rw [length_meets]; exact hl)
  generalize least (meets l0 l1) = R at *
  go_enter Tryz.func94, Tryz.ntmps94
  go_wp2
  go_loopg [6, 13] (l0.length + 1) (fun kq v6 v13 w' => ∃ j : Nat, v13 = .int .i64 (j : Int) ∧ j ≤ l0.length ∧ kq + j = l0.length + 1 ∧ Own w' w.heap.size v6 (meets (l0.take j) l1) ∧ Below w.heap.size w w')
  case atStart => exact ⟨0, rfl, Nat.zero_le _, rfl, Own.nil _ _, Below.refl _ _⟩
  case round =>
    obtain ⟨j, rfl, hj, hk, ho, hb⟩ := hrel
    by_cases hlt : j < l0.length
    · obtain ⟨b0, off, rfl, h1, h2⟩ := (hR0.below hb).at_ hlt
      have hsz := hb.size
      have hb1 := hb.alloc hsz (.cells #[.int .u32 (un l0[j].1), .int .u32 (un l0[j].2)] 25)
      have hA1 : At2 (wr.alloc (.cells #[.int .u32 (un l0[j].1), .int .u32 (un l0[j].2)] 25)) wr.heap.size l0[j] := ⟨World.cell?_alloc_new .., World.cell?_alloc_new ..⟩
      have hml : (meets (l0.take j) l1).length = j * l1.length := by rw [length_meets, List.length_take, Nat.min_eq_left hj]
      have hjl : j * l1.length + l1.length ≤ l0.length * l1.length := by
        have := Nat.mul_le_mul_right l1.length (show j + 1 ≤ l0.length from hlt)
        rw [Nat.add_mul, Nat.one_mul] at this
        exact this
      have hfin : Hid (meets (l0.take (j + 1)) l1 = meets (l0.take j) l1 ++ l1.map (H.meet l0[j])) := Lib.hid (by unfold meets; rw [List.take_succ_eq_append_getElem hlt, List.flatMap_append]; simp)
      obtain ⟨g0, hg0⟩ : ∃ g0, g0 = gk := ⟨_, rfl⟩
      have HK := Lib.hid hk
      have HB1 := Lib.hid hb1
      have HA1 := Lib.hid hA1
      have HO := Lib.hid (show Own (wr.alloc (.cells #[.int .u32 (un l0[j].1), .int .u32 (un l0[j].2)] 25)) w.heap.size _ _ from ⟨ho.1.alloc _, ho.2⟩)
      have HN := Lib.hid (fun e => Nat.lt_irrefl _ (ho.lt' (show _ = some wr.heap.size from e.symm)) : some wr.heap.size ≠ _)
      have hszb := Lib.hid (show wr.heap.size < _ from (HA1 : At2 _ _ _).lt)
      clear hk ho hb hb1 hA1 h3
      generalize meets (l0.take j) l1 = M at *
      go_wp2
      go_loopg [6, 19] (l1.length + 1) (fun kq v6 v19 w' => ∃ i : Nat, v19 = .int .i64 (i : Int) ∧ i ≤ l1.length ∧ kq + i = l1.length + 1 ∧ Own w' w.heap.size v6 (M ++ (l1.take i).map (H.meet l0[j])) ∧ At2 w' wr.heap.size l0[j] ∧ Hid (some wr.heap.size ≠ v6.ownBlock) ∧ Below w.heap.size w w')
      case atStart => exact ⟨0, rfl, Nat.zero_le _, rfl, by rw [List.take_zero, List.map_nil, List.append_nil]; exact HO, HA1, HN, HB1⟩
      case round =>
        obtain ⟨i, rfl, hi, hki, ho, hA, hne, hb⟩ := hrel
        rename_i w2
        by_cases hlt1 : i < l1.length
        · obtain ⟨b1, off1, rfl, g1, g2⟩ := (hR1.below hb).at_ hlt1
          have hb3 := hb.alloc hb.size (.cells #[.int .u32 (un l1[i].1), .int .u32 (un l1[i].2)] 25)
          have hA3 := hA.below ((Below.refl _ _).alloc (Nat.le_refl _) (.cells #[.int .u32 (un l1[i].1), .int .u32 (un l1[i].2)] 25))
          have e1 := hA3.1
          have e2 := hA3.2
          have hm := S.meet l0[j] l1[i]
          have hlen : (M ++ (l1.take i).map (H.meet l0[j])).length + 1 ≤ 1000000 := by rw [List.length_append, List.length_map, List.length_take]; omega
          have hfin2 : Hid ((M ++ (l1.take i).map (H.meet l0[j])) ++ [H.meet l0[j] l1[i]] = M ++ (l1.take (i + 1)).map (H.meet l0[j])) := Lib.hid (by rw [List.take_succ_eq_append_getElem hlt1, List.map_append, List.append_assoc]; rfl)
          have HB3 := Lib.hid hb3
          have HA3 := Lib.hid hA3
          have HO3 := Lib.hid ho
          clear hb hb3 hA3 hA ho
          generalize M ++ (l1.take i).map (H.meet l0[j]) = L at *
          go_wp2_with (first
            | (go_at_call 21; refine (hm _).mono ?_; rintro e w3 ⟨rfl, hb4⟩; have hb5 := below_then HB3 (Below.size HB3) hb4; have hA5 := (show At2 _ _ _ from HA3).below hb4; have ho5 := (show Own _ _ _ _ from HO3).below (((Below.refl _ _).alloc (Nat.le_refl _) _).trans (hb4.mono (by simp))); have ho6 : Own (w3.alloc (.cells #[.int .u32 (un (H.meet l0[j] l1[i]).1), .int .u32 (un (H.meet l0[j] l1[i]).2)] 25)) w.heap.size _ L := ⟨ho5.1.alloc _, ho5.2⟩; obtain ⟨A6, c6, e6, hR6⟩ := (Own.lit hb5.size (H.meet l0[j] l1[i])).slice; cases e6; have hb6 := hb5.alloc hb5.size (.cells #[.int .u32 (un (H.meet l0[j] l1[i]).1), .int .u32 (un (H.meet l0[j] l1[i]).2)] 25); have hA6 := hA5.below ((Below.refl _ _).alloc (Nat.le_refl _) (.cells #[.int .u32 (un (H.meet l0[j] l1[i]).1), .int .u32 (un (H.meet l0[j] l1[i]).2)] 25)))
            | (at_builtin; refine wpList_append_rd_at rfl (.tmp 23) (.tmp 27) rfl rfl ho6 (l := [H.meet l0[j] l1[i]]) rfl hR6 (by simpa using hlen) hb6.size ?_; intro v7 w7 ho7 hb7 hg7 hat7; have hA7 := hA6.kept hg7 hne; have hN7 := ne_at hne (At2.lt hA6) hat7))
          go_roundg (gk - 1)
          case measure => omega
          case rel => exact ⟨i + 1, by simp, by omega, by omega, by rw [← (show _ = _ from hfin2)]; exact ho7, hA7, hN7, hb6.trans hb7⟩
        · have e : l1.take i = l1 := List.take_of_length_le (by omega)
          rw [e] at ho
          go_wp2
          go_roundg (g0 - 1)
          case measure => have := (show _ = _ from HK); omega
          case rel => exact ⟨j + 1, by simp, by omega, by have := (show _ = _ from HK); omega, by rw [hfin]; exact ho, hb⟩
    · have e : l0.take j = l0 := List.take_of_length_le (by omega)
      rw [e] at ho
      obtain ⟨A2, c2, rfl, hR2⟩ := ho.slice
      generalize meets l0 l1 = M at *
      clear ho
      go_wp2_with (go_at_call 17; refine (h3 _ _ _ hR2).mono ?_; rintro e w3 ⟨v3, rfl, ho3, hb3⟩)
      go_ret2
      exact ⟨_, rfl, ho3.mono hb.size, below_then hb hb.size hb3⟩
end Go.Proofs.YtfbcgjkagdbckaaGreatDoor
