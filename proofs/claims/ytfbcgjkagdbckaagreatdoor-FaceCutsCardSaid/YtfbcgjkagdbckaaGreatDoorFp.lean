/-
PLAIN LAW: formulas: what joining, meeting, the opposite and putting tell, by what a formula says of a clause. No program in sight.
-/
import Derived.Test.YtfbcgjkagdbckaaGreatDoorWd
namespace Go.Proofs.YtfbcgjkagdbckaaGreatDoor
open H

/-! ### Told or not -/
theorem least_err (l : List C) : (least l).2 = 0 ∨ (least l).2 = 2 ∧ l.all ok = false ∧ (least l).1 = [] ∨ (least l).2 = 3 ∧ (least l).1 = [] := by
  rcases least_cases l with ⟨h, e⟩ | ⟨_, _, e⟩ | ⟨_, _, e⟩
  · rw [e]; exact .inr (.inl ⟨rfl, h, rfl⟩)
  · rw [e]; exact .inr (.inr ⟨rfl, rfl⟩)
  · rw [e]; exact .inl rfl
theorem least_none {l : List C} (h : (least l).2 ≠ 0) : (least l).1 = [] := by
  rcases least_err l with h1 | ⟨_, _, h2⟩ | ⟨_, h2⟩
  · exact absurd h1 h
  · exact h2
  · exact h2
theorem least_len (l : List C) : (least l).1.length ≤ 64 := by
  rcases least_cases l with ⟨_, e⟩ | ⟨_, _, e⟩ | ⟨_, h2, e⟩
  · rw [e]; simp
  · rw [e]; simp
  · rw [e]
    show (sortC (keep l)).length ≤ 64
    rw [length_sortC]
    exact h2
theorem ok_of_right {f : List C} (h : H.right f = true) : f.all ok = true := (right_iff.1 h).1
theorem len_of_right {f : List C} (h : H.right f = true) : f.length ≤ 64 := (right_iff.1 h).2.1
theorem right_one {c : C} (h : ok c = true) : H.right [c] = true := by
  rw [right_iff]
  refine ⟨by rw [List.all_cons, h]; rfl, by simp, List.pairwise_singleton _ _, fun d => ?_⟩
  simp only [List.mem_singleton]
  exact ⟨fun h => ⟨h, fun e he _ => he.trans h.symm⟩, fun h => h.1⟩
theorem length_meets (f g : List C) : (meets f g).length = f.length * g.length := by
  induction f with
  | nil => simp [meets]
  | cons a f ih =>
    have e : meets (a :: f) g = g.map (meet a) ++ meets f g := by simp [meets]
    rw [e, List.length_append, List.length_map, ih, List.length_cons, Nat.add_mul]
    omega

/-! ### The package's functions -/
def fMeet (f g : List C) : List C × Int := if H.right f = true ∧ H.right g = true then H.meetF f g else ([], 2)
def fNot (f : List C) : List C × Int := if H.right f = true then H.notF f else ([], 2)
def wo (x : UInt32) (i : Int) : UInt32 := if dimI i = true then (x &&& M24) &&& ~~~(H.one i.toNat) else x &&& M24
def woC (c : C) (i : Int) : C := (wo c.1 i, wo c.2 i)
theorem meet_comm (a b : C) : meet a b = meet b a := by
  unfold meet
  rw [UInt32.or_comm a.1, UInt32.or_comm a.2]
theorem fNot_told {f : List C} (h : (fNot f).2 = 0) : H.right f = true ∧ H.right (fNot f).1 = true ∧ ∀ c, E (fNot f).1 c = !(E f (dual c)) := by
  unfold fNot at *
  by_cases hr : H.right f = true
  · rw [if_pos hr] at *
    obtain ⟨h1, h2⟩ := notF_facts (ok_of_right hr) h
    exact ⟨hr, h1, h2⟩
  · rw [if_neg hr] at h
    cases h
theorem foldE_none {α β : Type} (z : β) (f : β → α → β × Int) : ∀ (l : List α) (b : β), (foldE z f l b).2 ≠ 0 → (foldE z f l b).1 = z
  | [], b, h => absurd rfl h
  | c :: l, b, h => by
    unfold foldE at *
    by_cases hc : (f b c).2 = 0
    · rw [if_pos hc] at *
      exact foldE_none z f l _ h
    · rw [if_neg hc]
theorem foldE_keep {α β : Type} {z : β} {f : β → α → β × Int} (Inv : β → Prop) : ∀ (l : List α) (b : β), (∀ b, ∀ c ∈ l, Inv b → (f b c).2 = 0 → Inv (f b c).1) → Inv b → (foldE z f l b).2 = 0 → Inv (foldE z f l b).1
  | [], _, _, hb, _ => hb
  | c :: l, b, hs, hb, h => by
    unfold foldE at *
    by_cases hc : (f b c).2 = 0
    · rw [if_pos hc] at *
      exact foldE_keep Inv l _ (fun b d hd => hs b d (List.mem_cons_of_mem _ hd)) (hs b c (List.mem_cons_self ..) hb hc) h
    · rw [if_neg hc] at h
      exact absurd h hc
theorem notF_len (f : List C) : (H.notF f).1.length ≤ 64 := by
  by_cases h : (H.notF f).2 = 0
  · exact foldE_keep (fun b => b.length ≤ 64) f [top] (fun b c _ _ _ => by rw [notStep_eq]; exact least_len _) (by simp) h
  · rw [show (H.notF f).1 = [] from foldE_none _ _ _ _ h]
    simp
/-! ### Bits -/
theorem hasI_eq {i : Int} (hd : dimI i = true) (x : UInt32) : hasI x i = tb x i.toNat := by
  unfold hasI tb
  rw [hd, Bool.true_and]
theorem hasI_none {i : Int} (hd : dimI i = false) (x : UInt32) : hasI x i = false := by
  unfold hasI
  rw [hd, Bool.false_and]
theorem tb_wo {i : Int} (hd : dimI i = true) (x : UInt32) (j : Nat) : tb (wo x i) j = (tb x j && decide (j < 24) && !decide (i.toNat = j)) := by
  have h24 := of_decide_eq_true hd
  unfold wo
  rw [if_pos hd, tb_and, tb_and, tb_not, tb_one (by omega), tb_M24]
  by_cases hj : j < 24
  · simp [hj, show j < 32 by omega]
  · simp [hj]
theorem woC_ok {i : Int} (hd : dimI i = true) (c : C) : ok (woC c i) = true := by
  rw [ok_iff]
  constructor <;> intro j hj
  · rw [show (woC c i).1 = wo c.1 i from rfl, tb_wo hd] at hj
    simp at hj
    exact hj.1.2
  · rw [show (woC c i).2 = wo c.2 i from rfl, tb_wo hd] at hj
    simp at hj
    exact hj.1.2
/-- A clause is below another one just if it is below that without a dimension, and has that dimension's literals. -/
theorem below_wo {i : Int} (hd : dimI i = true) {c : C} (hc : ok c = true) (x : C) : below x c = (below x (woC c i) && (!hasI c.1 i || tb x.1 i.toNat) && (!hasI c.2 i || tb x.2 i.toNat)) := by
  rw [ok_iff] at hc
  rw [Bool.eq_iff_iff, hasI_eq hd, hasI_eq hd]
  simp only [Bool.and_eq_true, Bool.or_eq_true, Bool.not_eq_true', below_bits]
  have e1 : ∀ j, tb (woC c i).1 j = (tb c.1 j && decide (j < 24) && !decide (i.toNat = j)) := fun j => tb_wo hd c.1 j
  have e2 : ∀ j, tb (woC c i).2 j = (tb c.2 j && decide (j < 24) && !decide (i.toNat = j)) := fun j => tb_wo hd c.2 j
  constructor
  · rintro ⟨h1, h2⟩
    refine ⟨⟨⟨fun j hj => h1 j ?_, fun j hj => h2 j ?_⟩, ?_⟩, ?_⟩
    · rw [e1] at hj; simp at hj; exact hj.1.1
    · rw [e2] at hj; simp at hj; exact hj.1.1
    · cases h : tb c.1 i.toNat
      · exact .inl rfl
      · exact .inr (h1 _ h)
    · cases h : tb c.2 i.toNat
      · exact .inl rfl
      · exact .inr (h2 _ h)
  · rintro ⟨⟨⟨h1, h2⟩, h3⟩, h4⟩
    refine ⟨fun j hj => ?_, fun j hj => ?_⟩
    · by_cases he : i.toNat = j
      · subst he
        rcases h3 with h3 | h3
        · rw [h3] at hj; cases hj
        · exact h3
      · exact h1 j (by rw [e1, hj]; simp [hc.1 j hj, he])
    · by_cases he : i.toNat = j
      · subst he
        rcases h4 with h4 | h4
        · rw [h4] at hj; cases hj
        · exact h4
      · exact h2 j (by rw [e2, hj]; simp [hc.2 j hj, he])
/-! ### Putting -/
theorem hasI_or (x y : UInt32) (i : Int) : hasI (x ||| y) i = (hasI x i || hasI y i) := by
  cases hd : dimI i
  · rw [hasI_none hd, hasI_none hd, hasI_none hd]; rfl
  · rw [hasI_eq hd, hasI_eq hd, hasI_eq hd, tb_or]
end Go.Proofs.YtfbcgjkagdbckaaGreatDoor
