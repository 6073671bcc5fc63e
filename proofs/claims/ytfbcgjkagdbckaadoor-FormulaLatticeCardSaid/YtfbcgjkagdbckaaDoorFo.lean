/-
Walks: formula.right, join, Join, meet, Meet, fold, not, Not (written by wip/mkfo.py).
-/
import Derived.Test.YtfbcgjkagdbckaaDoorLst
import Derived.Test.YtfbcgjkagdbckaaDoorApp
import Derived.Test.YtfbcgjkagdbckaaDoorFp
import Derived.Test.YtfbcgjkagdbckaaDoorCn
import Derived.Test.YtfbcgjkagdbckaaDoorAg
namespace Go.Proofs.YtfbcgjkagdbckaaDoor
open Go.RowKit H

/-- What these walks ask of the functions that the print takes. -/
structure SmallP : Prop extends Small where
  meet : ∀ (a b : C) (w : World), Calls Tryd.prog 97 #[.agg #[.int .u32 (un a.1), .int .u32 (un a.2)], .agg #[.int .u32 (un b.1), .int .u32 (un b.2)]] w fun e w' => e = .returned (.agg #[.int .u32 (un (H.meet a b).1), .int .u32 (un (H.meet a b).2)]) ∧ Below w.heap.size w w'
  fright : ∀ (A : Option Addr) (cap : Nat) (l : List C) (w : World), Rd w A l → l.length ≤ cap → l.length ≤ 1000000 → Calls Tryd.prog 37 #[.slice A l.length cap] w fun e w' => e = .returned (.bool (H.right l)) ∧ Below w.heap.size w w'
def rightG (L : List (Option Addr × Nat × List C)) : Int := if L.all (fun x => H.right x.2.2) = true then 0 else 2
set_option maxRecDepth 100000 in
set_option maxHeartbeats 1000000 in
theorem form_right (S : SmallP) (b : Nat) (L : List (Option Addr × Nat × List C)) (w : World) (hA : ArgsC w b L) (hlen : L.length ≤ 1000) :
    Calls Tryd.prog 62 #[.slice (some ⟨b, 0, none⟩) L.length L.length] w fun e w' => e = .returned (.int .i64 (rightG L)) ∧ Below w.heap.size w w' := by
  go_enter Tryd.func62, Tryd.ntmps62
  go_wp2
  go_loopg [7] (L.length + 1) (fun kq v7 w' => ∃ j : Nat, v7 = .int .i64 (j : Int) ∧ j ≤ L.length ∧ kq + j = L.length + 1 ∧ Hid (∀ x ∈ L.take j, H.right x.2.2 = true) ∧ Below w.heap.size w w')
  case atStart => exact ⟨0, rfl, Nat.zero_le _, rfl, Lib.hid (by simp), Below.refl _ _⟩
  case round =>
    obtain ⟨j, rfl, hj, hk, hno, hb⟩ := hrel
    by_cases hlt : j < L.length
    · obtain ⟨h1, h2, h3, h4⟩ := (hA.below hb).at_ j hlt
      have hp := S.fright L[j].1 L[j].2.1 L[j].2.2 wr h2 h3 h4
      have hsz := hb.size
      have HB := Lib.hid hb
      cases hpr : H.right L[j].2.2
      · rw [hpr] at hp
        have HP := Lib.hid hpr
        clear hno hb hpr
        go_wp2_with (go_at_call 37; refine hp.mono ?_; rintro e w2 ⟨rfl, hb2⟩)
        go_ret
        have hf : rightG L = 2 := by
          unfold rightG
          rw [if_neg]
          rw [List.all_eq_true]
          intro hall
          have := hall L[j] (List.getElem_mem _)
          rw [show H.right L[j].2.2 = false from HP] at this
          cases this
        exact ⟨by rw [hf]; rfl, below_then HB hsz hb2⟩
      · rw [hpr] at hp
        have HP := Lib.hid hpr
        have HN := hno
        clear hno hb hpr
        go_wp2_with (go_at_call 37; refine hp.mono ?_; rintro e w2 ⟨rfl, hb2⟩)
        go_roundg (gk - 1)
        case measure => omega
        case rel =>
          refine ⟨j + 1, by simp, by omega, by omega, Lib.hid fun d hd => ?_, below_then HB hsz hb2⟩
          rw [List.take_succ_eq_append_getElem hlt] at hd
          rcases List.mem_append.1 hd with h3 | h3
          · exact HN d h3
          · rw [List.mem_singleton.1 h3]
            exact HP
    · have HB := Lib.hid hb
      have hany : Hid (rightG L = 0) := by
        refine Lib.hid ?_
        unfold rightG
        rw [if_pos]
        rw [List.all_eq_true]
        intro x hx
        exact hno x (by rw [List.take_of_length_le (by omega)]; exact hx)
      clear hb hno
      go_wp2
      go_ret
      exact ⟨by rw [hany]; rfl, HB⟩
theorem form_One (w : World) : Calls Tryd.prog 56 #[] w fun e w' => ∃ v, e = .returned v ∧ Own w' w.heap.size v [top] ∧ Below w.heap.size w w' := by
  have ho := Own.lit (w := w) (Nat.le_refl _) top
  have hb : Below w.heap.size w (w.alloc (.cells #[.int .u32 0, .int .u32 0] 60)) := (Below.refl _ _).alloc (Nat.le_refl _) _
  have e0 : un top.1 = 0 := rfl
  have e1 : un top.2 = 0 := rfl
  rw [e0, e1] at ho
  go_enter Tryd.func56, Tryd.ntmps56
  go_wp2
  go_ret
  exact ⟨_, rfl, ho, hb⟩
set_option maxRecDepth 100000 in
set_option maxHeartbeats 2000000 in
/-- formula.join -/
theorem form_join (S : SmallP) (A0 A1 : Option Addr) (c0 c1 : Nat) (l0 l1 : List C) (w : World) (hR0 : Rd w A0 l0) (hR1 : Rd w A1 l1) (hl : l0.length + l1.length ≤ 1000000) :
    Calls Tryd.prog 63 #[.slice A0 l0.length c0, .slice A1 l1.length c1] w fun e w' => ∃ v, e = .returned (.tuple #[v, .int .i64 (least (l0 ++ l1)).2]) ∧ Own w' w.heap.size v (least (l0 ++ l1)).1 ∧ Below w.heap.size w w' := by
  have hb0 : Below w.heap.size w (w.alloc (.cells #[] 60)) := (Below.refl _ _).alloc (Nat.le_refl _) _
  have ho0 := Own.made (w := w) (Nat.le_refl _)
  have h3 : ∀ A1 c1 w1, Rd w1 A1 (l0 ++ l1) → Calls Tryd.prog 70 #[.slice A1 (l0 ++ l1).length c1] w1 fun e w' => ∃ v, e = .returned (.tuple #[v, .int .i64 (least (l0 ++ l1)).2]) ∧ Own w' w1.heap.size v (least (l0 ++ l1)).1 ∧ Below w1.heap.size w1 w' :=
    fun A1 c1 w1 h => clause_Least S.toSmall A1 c1 _ w1 h (by rw [List.length_append]; exact hl)
  generalize least (l0 ++ l1) = R at *
  have HB0 := Lib.hid hb0
  have HO := Lib.hid ho0
  clear hb0 ho0
  go_enter Tryd.func63, Tryd.ntmps63
  go_wp2_with (first
    | (at_builtin; refine wpList_append_rd rfl (.tmp 6) (.tmp 7) rfl rfl HO rfl (hR0.below HB0) (by simp; omega) (by simp) ?_; intro v1 w1 ho1 hb1 _; rw [List.nil_append] at ho1; have hb01 := HB0.trans hb1)
    | (at_builtin; refine wpList_append_rd rfl (.tmp 8) (.tmp 9) rfl rfl ho1 rfl (hR1.below hb01) (by omega) hb01.size ?_; intro v2 w2 ho2 hb2 _; have hb02 := hb01.trans hb2; generalize l0 ++ l1 = L at ho2 h3; obtain ⟨A2, c2, rfl, hR2⟩ := ho2.slice)
    | (go_at_call 70; refine (h3 _ _ _ hR2).mono ?_; rintro e w3 ⟨v3, rfl, ho3, hb3⟩))
  go_ret2
  exact ⟨_, rfl, ho3.mono hb02.size, below_then hb02 hb02.size hb3⟩
set_option maxRecDepth 100000 in
set_option maxHeartbeats 4000000 in
theorem form_meet (S : SmallP) (A0 A1 : Option Addr) (c0 c1 : Nat) (l0 l1 : List C) (w : World) (hR0 : Rd w A0 l0) (hR1 : Rd w A1 l1) (hl : l0.length * l1.length ≤ 1000000) (hl0 : l0.length ≤ 1000000) (hl1 : l1.length ≤ 1000000) :
    Calls Tryd.prog 65 #[.slice A0 l0.length c0, .slice A1 l1.length c1] w fun e w' => ∃ v, e = .returned (.tuple #[v, .int .i64 (least (meets l0 l1)).2]) ∧ Own w' w.heap.size v (least (meets l0 l1)).1 ∧ Below w.heap.size w w' := by
  have h3 : ∀ A1 c1 w1, Rd w1 A1 (meets l0 l1) → Calls Tryd.prog 70 #[.slice A1 (meets l0 l1).length c1] w1 fun e w' => ∃ v, e = .returned (.tuple #[v, .int .i64 (least (meets l0 l1)).2]) ∧ Own w' w1.heap.size v (least (meets l0 l1)).1 ∧ Below w1.heap.size w1 w' :=
    fun A1 c1 w1 h => clause_Least S.toSmall A1 c1 _ w1 h (by rw [length_meets]; exact hl)
  generalize least (meets l0 l1) = R at *
  go_enter Tryd.func65, Tryd.ntmps65
  go_wp2
  go_loopg [6, 13] (l0.length + 1) (fun kq v6 v13 w' => ∃ j : Nat, v13 = .int .i64 (j : Int) ∧ j ≤ l0.length ∧ kq + j = l0.length + 1 ∧ Own w' w.heap.size v6 (meets (l0.take j) l1) ∧ Below w.heap.size w w')
  case atStart => exact ⟨0, rfl, Nat.zero_le _, rfl, Own.nil _ _, Below.refl _ _⟩
  case round =>
    obtain ⟨j, rfl, hj, hk, ho, hb⟩ := hrel
    by_cases hlt : j < l0.length
    · obtain ⟨b0, off, rfl, h1, h2⟩ := (hR0.below hb).at_ hlt
      have hsz := hb.size
      have hb1 := hb.alloc hsz (.cells #[.int .u32 (un l0[j].1), .int .u32 (un l0[j].2)] 60)
      have hA1 : At2 (wr.alloc (.cells #[.int .u32 (un l0[j].1), .int .u32 (un l0[j].2)] 60)) wr.heap.size l0[j] := ⟨World.cell?_alloc_new .., World.cell?_alloc_new ..⟩
      have hml : (meets (l0.take j) l1).length = j * l1.length := by rw [length_meets, List.length_take, Nat.min_eq_left hj]
      have hjl : j * l1.length + l1.length ≤ l0.length * l1.length := by
        have := Nat.mul_le_mul_right l1.length (show j + 1 ≤ l0.length from hlt)
        rw [Nat.add_mul, Nat.one_mul] at this
        exact this
      have hfin : Hid (meets (l0.take (j + 1)) l1 = meets (l0.take j) l1 ++ l1.map (H.meet l0[j])) := Lib.hid (by unfold meets; rw [List.take_succ_eq_append_getElem hlt, List.flatMap_append]; simp)
      obtain ⟨g0, hg0⟩ : ∃ g0, g0 = gk := ⟨_, rfl⟩
      have HK := Lib.hid hk
      have HB1 := Lib.hid hb1
      have HA1 := Lib.hid hA1
      have HO := Lib.hid (show Own (wr.alloc (.cells #[.int .u32 (un l0[j].1), .int .u32 (un l0[j].2)] 60)) w.heap.size _ _ from ⟨ho.1.alloc _, ho.2⟩)
      have HN := Lib.hid (fun e => Nat.lt_irrefl _ (ho.lt' (show _ = some wr.heap.size from e.symm)) : some wr.heap.size ≠ _)
      have hszb := Lib.hid (show wr.heap.size < _ from (HA1 : At2 _ _ _).lt)
      clear hk ho hb hb1 hA1 h3
      generalize meets (l0.take j) l1 = M at *
      go_wp2
      go_loopg [6, 19] (l1.length + 1) (fun kq v6 v19 w' => ∃ i : Nat, v19 = .int .i64 (i : Int) ∧ i ≤ l1.length ∧ kq + i = l1.length + 1 ∧ Own w' w.heap.size v6 (M ++ (l1.take i).map (H.meet l0[j])) ∧ At2 w' wr.heap.size l0[j] ∧ Hid (some wr.heap.size ≠ v6.ownBlock) ∧ Below w.heap.size w w')
      case atStart => exact ⟨0, rfl, Nat.zero_le _, rfl, by rw [List.take_zero, List.map_nil, List.append_nil]; exact HO, HA1, HN, HB1⟩
      case round =>
        obtain ⟨i, rfl, hi, hki, ho, hA, hne, hb⟩ := hrel
        rename_i w2
        by_cases hlt1 : i < l1.length
        · obtain ⟨b1, off1, rfl, g1, g2⟩ := (hR1.below hb).at_ hlt1
          have hb3 := hb.alloc hb.size (.cells #[.int .u32 (un l1[i].1), .int .u32 (un l1[i].2)] 60)
          have hA3 := hA.below ((Below.refl _ _).alloc (Nat.le_refl _) (.cells #[.int .u32 (un l1[i].1), .int .u32 (un l1[i].2)] 60))
          have e1 := hA3.1
          have e2 := hA3.2
          have hm := S.meet l0[j] l1[i]
          have hlen : (M ++ (l1.take i).map (H.meet l0[j])).length + 1 ≤ 1000000 := by rw [List.length_append, List.length_map, List.length_take]; omega
          have hfin2 : Hid ((M ++ (l1.take i).map (H.meet l0[j])) ++ [H.meet l0[j] l1[i]] = M ++ (l1.take (i + 1)).map (H.meet l0[j])) := Lib.hid (by rw [List.take_succ_eq_append_getElem hlt1, List.map_append, List.append_assoc]; rfl)
          have HB3 := Lib.hid hb3
          have HA3 := Lib.hid hA3
          have HO3 := Lib.hid ho
          clear hb hb3 hA3 hA ho
          generalize M ++ (l1.take i).map (H.meet l0[j]) = L at *
          go_wp2_with (first
            | (go_at_call 97; refine (hm _).mono ?_; rintro e w3 ⟨rfl, hb4⟩; have hb5 := below_then HB3 (Below.size HB3) hb4; have hA5 := (show At2 _ _ _ from HA3).below hb4; have ho5 := (show Own _ _ _ _ from HO3).below (((Below.refl _ _).alloc (Nat.le_refl _) _).trans (hb4.mono (by simp))); have ho6 : Own (w3.alloc (.cells #[.int .u32 (un (H.meet l0[j] l1[i]).1), .int .u32 (un (H.meet l0[j] l1[i]).2)] 60)) w.heap.size _ L := ⟨ho5.1.alloc _, ho5.2⟩; obtain ⟨A6, c6, e6, hR6⟩ := (Own.lit hb5.size (H.meet l0[j] l1[i])).slice; cases e6; have hb6 := hb5.alloc hb5.size (.cells #[.int .u32 (un (H.meet l0[j] l1[i]).1), .int .u32 (un (H.meet l0[j] l1[i]).2)] 60); have hA6 := hA5.below ((Below.refl _ _).alloc (Nat.le_refl _) (.cells #[.int .u32 (un (H.meet l0[j] l1[i]).1), .int .u32 (un (H.meet l0[j] l1[i]).2)] 60)))
            | (at_builtin; refine wpList_append_rd_at rfl (.tmp 23) (.tmp 27) rfl rfl ho6 (l := [H.meet l0[j] l1[i]]) rfl hR6 (by simpa using hlen) hb6.size ?_; intro v7 w7 ho7 hb7 hg7 hat7; have hA7 := hA6.kept hg7 hne; have hN7 := ne_at hne (At2.lt hA6) hat7))
          go_roundg (gk - 1)
          case measure => omega
          case rel => exact ⟨i + 1, by simp, by omega, by omega, by rw [← (show _ = _ from hfin2)]; exact ho7, hA7, hN7, hb6.trans hb7⟩
        · have e : l1.take i = l1 := List.take_of_length_le (by omega)
          rw [e] at ho
          go_wp2
          go_roundg (g0 - 1)
          case measure => have := (show _ = _ from HK); omega
          case rel => exact ⟨j + 1, by simp, by omega, by have := (show _ = _ from HK); omega, by rw [hfin]; exact ho, hb⟩
    · have e : l0.take j = l0 := List.take_of_length_le (by omega)
      rw [e] at ho
      obtain ⟨A2, c2, rfl, hR2⟩ := ho.slice
      generalize meets l0 l1 = M at *
      clear ho
      go_wp2_with (go_at_call 70; refine (h3 _ _ _ hR2).mono ?_; rintro e w3 ⟨v3, rfl, ho3, hb3⟩)
      go_ret2
      exact ⟨_, rfl, ho3.mono hb.size, below_then hb hb.size hb3⟩
set_option maxRecDepth 100000 in
set_option maxHeartbeats 2000000 in
theorem form_Join (S : SmallP) (A0 A1 : Option Addr) (c0 c1 : Nat) (l0 l1 : List C) (w : World) (hR0 : Rd w A0 l0) (hR1 : Rd w A1 l1) (hc0 : l0.length ≤ c0) (hc1 : l1.length ≤ c1) (hl : l0.length + l1.length ≤ 1000000) :
    Calls Tryd.prog 30 #[.slice A0 l0.length c0, .slice A1 l1.length c1] w fun e w' => ∃ v, e = .returned (.tuple #[v, .int .i64 (fJoin l0 l1).2]) ∧ Own w' w.heap.size v (fJoin l0 l1).1 ∧ Below w.heap.size w w' := by
  have h1 := form_right S _ _ _ (ArgsC.two hR0 hR1 hc0 hc1 (by omega) (by omega)) (by simp)
  have hb1 : Below w.heap.size w (w.alloc (.cells #[.slice A0 l0.length c0, .slice A1 l1.length c1] 26)) := (Below.refl _ _).alloc (Nat.le_refl _) _
  have h2 := fun w1 (hb : Below w.heap.size w w1) => form_join S A0 A1 c0 c1 l0 l1 w1 (hR0.below hb) (hR1.below hb) hl
  have HB1 := Lib.hid hb1
  clear hb1
  unfold fJoin H.joinF
  generalize least (l0 ++ l1) = R at *
  by_cases hf : H.right l0 = true ∧ H.right l1 = true
  · rw [show rightG [(A0, c0, l0), (A1, c1, l1)] = 0 by unfold rightG; simp [hf.1, hf.2]] at h1
    rw [if_pos hf]
    clear hf
    go_enter Tryd.func30, Tryd.ntmps30
    go_wp2_with (first
      | (go_at_call 62; refine h1.mono ?_; rintro e w2 ⟨rfl, hb2⟩; have HB2 := below_then HB1 HB1.size hb2)
      | (go_at_call 63; refine (h2 _ HB2).mono ?_; rintro e w3 ⟨v3, rfl, ho3, hb3⟩))
    go_ret2
    exact ⟨_, rfl, ho3.mono HB2.size, below_then HB2 HB2.size hb3⟩
  · rw [show rightG [(A0, c0, l0), (A1, c1, l1)] = 2 by unfold rightG; rw [if_neg]; simpa using hf] at h1
    rw [if_neg hf]
    clear hf h2
    go_enter Tryd.func30, Tryd.ntmps30
    go_wp2_with (go_at_call 62; refine h1.mono ?_; rintro e w2 ⟨rfl, hb2⟩)
    go_ret2
    exact ⟨_, rfl, Own.nil _ _, below_then HB1 HB1.size hb2⟩
set_option maxRecDepth 100000 in
set_option maxHeartbeats 2000000 in
theorem form_Meet (S : SmallP) (A0 A1 : Option Addr) (c0 c1 : Nat) (l0 l1 : List C) (w : World) (hR0 : Rd w A0 l0) (hR1 : Rd w A1 l1) (hc0 : l0.length ≤ c0) (hc1 : l1.length ≤ c1) (hl : l0.length * l1.length ≤ 1000000) (hl0 : l0.length ≤ 1000000) (hl1 : l1.length ≤ 1000000) :
    Calls Tryd.prog 32 #[.slice A0 l0.length c0, .slice A1 l1.length c1] w fun e w' => ∃ v, e = .returned (.tuple #[v, .int .i64 (fMeet l0 l1).2]) ∧ Own w' w.heap.size v (fMeet l0 l1).1 ∧ Below w.heap.size w w' := by
  have h1 := form_right S _ _ _ (ArgsC.two hR0 hR1 hc0 hc1 hl0 hl1) (by simp)
  have hb1 : Below w.heap.size w (w.alloc (.cells #[.slice A0 l0.length c0, .slice A1 l1.length c1] 26)) := (Below.refl _ _).alloc (Nat.le_refl _) _
  have h2 := fun w1 (hb : Below w.heap.size w w1) => form_meet S A0 A1 c0 c1 l0 l1 w1 (hR0.below hb) (hR1.below hb) hl hl0 hl1
  have HB1 := Lib.hid hb1
  clear hb1
  unfold fMeet H.meetF
  generalize least (meets l0 l1) = R at *
  by_cases hf : H.right l0 = true ∧ H.right l1 = true
  · rw [show rightG [(A0, c0, l0), (A1, c1, l1)] = 0 by unfold rightG; simp [hf.1, hf.2]] at h1
    rw [if_pos hf]
    clear hf
    go_enter Tryd.func32, Tryd.ntmps32
    go_wp2_with (first
      | (go_at_call 62; refine h1.mono ?_; rintro e w2 ⟨rfl, hb2⟩; have HB2 := below_then HB1 HB1.size hb2)
      | (go_at_call 65; refine (h2 _ HB2).mono ?_; rintro e w3 ⟨v3, rfl, ho3, hb3⟩))
    go_ret2
    exact ⟨_, rfl, ho3.mono HB2.size, below_then HB2 HB2.size hb3⟩
  · rw [show rightG [(A0, c0, l0), (A1, c1, l1)] = 2 by unfold rightG; rw [if_neg]; simpa using hf] at h1
    rw [if_neg hf]
    clear hf h2
    go_enter Tryd.func32, Tryd.ntmps32
    go_wp2_with (go_at_call 62; refine h1.mono ?_; rintro e w2 ⟨rfl, hb2⟩)
    go_ret2
    exact ⟨_, rfl, Own.nil _ _, below_then HB1 HB1.size hb2⟩
end Go.Proofs.YtfbcgjkagdbckaaDoor
