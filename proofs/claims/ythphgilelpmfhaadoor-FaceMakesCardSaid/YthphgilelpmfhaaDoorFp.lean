/-
PLAIN LAW: formulas: what joining, meeting, the opposite and putting tell, by what a formula says of a clause. No program in sight.
-/
import Derived.Test.YthphgilelpmfhaaDoorWd
namespace Go.Proofs.YthphgilelpmfhaaDoor
open H

/-! ### Told or not -/
theorem least_err (l : List C) : (least l).2 = 0 ∨ (least l).2 = 2 ∧ l.all ok = false ∧ (least l).1 = [] ∨ (least l).2 = 3 ∧ (least l).1 = [] := by
  rcases least_cases l with ⟨h, e⟩ | ⟨_, _, e⟩ | ⟨_, _, e⟩
  · rw [e]; exact .inr (.inl ⟨rfl, h, rfl⟩)
  · rw [e]; exact .inr (.inr ⟨rfl, rfl⟩)
  · rw [e]; exact .inl rfl
theorem least_none {l : List C} (h : (least l).2 ≠ 0) : (least l).1 = [] := by
  rcases least_err l with h1 | ⟨_, _, h2⟩ | ⟨_, h2⟩
  · exact absurd h1 h
  · exact h2
  · exact h2
theorem least_len (l : List C) : (least l).1.length ≤ 64 := by
  rcases least_cases l with ⟨_, e⟩ | ⟨_, _, e⟩ | ⟨_, h2, e⟩
  · rw [e]; simp
  · rw [e]; simp
  · rw [e]
    show (sortC (keep l)).length ≤ 64
    rw [length_sortC]
    exact h2
theorem ok_of_right {f : List C} (h : H.right f = true) : f.all ok = true := (right_iff.1 h).1
theorem len_of_right {f : List C} (h : H.right f = true) : f.length ≤ 64 := (right_iff.1 h).2.1
theorem length_meets (f g : List C) : (meets f g).length = f.length * g.length := by
  induction f with
  | nil => simp [meets]
  | cons a f ih =>
    have e : meets (a :: f) g = g.map (meet a) ++ meets f g := by simp [meets]
    rw [e, List.length_append, List.length_map, ih, List.length_cons, Nat.add_mul]
    omega

/-! ### The package's functions -/
def fMeet (f g : List C) : List C × Int := if H.right f = true ∧ H.right g = true then H.meetF f g else ([], 2)
def fNot (f : List C) : List C × Int := if H.right f = true then H.notF f else ([], 2)
theorem fNot_told {f : List C} (h : (fNot f).2 = 0) : H.right f = true ∧ H.right (fNot f).1 = true ∧ ∀ c, E (fNot f).1 c = !(E f (dual c)) := by
  unfold fNot at *
  by_cases hr : H.right f = true
  · rw [if_pos hr] at *
    obtain ⟨h1, h2⟩ := notF_facts (ok_of_right hr) h
    exact ⟨hr, h1, h2⟩
  · rw [if_neg hr] at h
    cases h
theorem foldE_none {α β : Type} (z : β) (f : β → α → β × Int) : ∀ (l : List α) (b : β), (foldE z f l b).2 ≠ 0 → (foldE z f l b).1 = z
  | [], b, h => absurd rfl h
  | c :: l, b, h => by
    unfold foldE at *
    by_cases hc : (f b c).2 = 0
    · rw [if_pos hc] at *
      exact foldE_none z f l _ h
    · rw [if_neg hc]
theorem foldE_keep {α β : Type} {z : β} {f : β → α → β × Int} (Inv : β → Prop) : ∀ (l : List α) (b : β), (∀ b, ∀ c ∈ l, Inv b → (f b c).2 = 0 → Inv (f b c).1) → Inv b → (foldE z f l b).2 = 0 → Inv (foldE z f l b).1
  | [], _, _, hb, _ => hb
  | c :: l, b, hs, hb, h => by
    unfold foldE at *
    by_cases hc : (f b c).2 = 0
    · rw [if_pos hc] at *
      exact foldE_keep Inv l _ (fun b d hd => hs b d (List.mem_cons_of_mem _ hd)) (hs b c (List.mem_cons_self ..) hb hc) h
    · rw [if_neg hc] at h
      exact absurd h hc
theorem notF_len (f : List C) : (H.notF f).1.length ≤ 64 := by
  by_cases h : (H.notF f).2 = 0
  · exact foldE_keep (fun b => b.length ≤ 64) f [top] (fun b c _ _ _ => by rw [notStep_eq]; exact least_len _) (by simp) h
  · rw [show (H.notF f).1 = [] from foldE_none _ _ _ _ h]
    simp
/-! ### Bits -/
/-! ### Putting -/
end Go.Proofs.YthphgilelpmfhaaDoor
