/-
PLAIN LAW: formulas: what joining, meeting, the opposite and putting tell, by what a formula says of a clause. No program in sight.
-/
import Derived.Test.YthphgilelpmfhaaDoorWd
namespace Go.Proofs.YthphgilelpmfhaaDoor
open H

/-! ### Told or not -/
theorem least_err (l : List C) : (least l).2 = 0 ∨ (least l).2 = 2 ∧ l.all ok = false ∧ (least l).1 = [] ∨ (least l).2 = 3 ∧ (least l).1 = [] := by
  rcases least_cases l with ⟨h, e⟩ | ⟨_, _, e⟩ | ⟨_, _, e⟩
  · rw [e]; exact .inr (.inl ⟨rfl, h, rfl⟩)
  · rw [e]; exact .inr (.inr ⟨rfl, rfl⟩)
  · rw [e]; exact .inl rfl
theorem least_none {l : List C} (h : (least l).2 ≠ 0) : (least l).1 = [] := by
  rcases least_err l with h1 | ⟨_, _, h2⟩ | ⟨_, h2⟩
  · exact absurd h1 h
  · exact h2
  · exact h2
theorem least_len (l : List C) : (least l).1.length ≤ 64 := by
  rcases least_cases l with ⟨_, e⟩ | ⟨_, _, e⟩ | ⟨_, h2, e⟩
  · rw [e]; simp
  · rw [e]; simp
  · rw [e]
    show (sortC (keep l)).length ≤ 64
    rw [length_sortC]
    exact h2
theorem ok_of_right {f : List C} (h : H.right f = true) : f.all ok = true := (right_iff.1 h).1
theorem len_of_right {f : List C} (h : H.right f = true) : f.length ≤ 64 := (right_iff.1 h).2.1
theorem right_nil : H.right [] = true := by decide +kernel
theorem length_meets (f g : List C) : (meets f g).length = f.length * g.length := by
  induction f with
  | nil => simp [meets]
  | cons a f ih =>
    have e : meets (a :: f) g = g.map (meet a) ++ meets f g := by simp [meets]
    rw [e, List.length_append, List.length_map, ih, List.length_cons, Nat.add_mul]
    omega

/-! ### The package's functions -/
def fMeet (f g : List C) : List C × Int := if H.right f = true ∧ H.right g = true then H.meetF f g else ([], 2)
def fNot (f : List C) : List C × Int := if H.right f = true then H.notF f else ([], 2)
def dimC (i : Int) : C := (H.one i.toNat, 0)
def fDim (i : Int) : List C × Int := if dimI i = true then ([dimC i], 0) else ([], 2)
def wo (x : UInt32) (i : Int) : UInt32 := if dimI i = true then (x &&& M24) &&& ~~~(H.one i.toNat) else x &&& M24
def woC (c : C) (i : Int) : C := (wo c.1 i, wo c.2 i)
def putA (i : Int) (r : List C) (c : C) : List C × Int := if hasI c.1 i = true then H.meetF [woC c i] r else ([woC c i], 0)
def putB (i : Int) (r : List C) (c : C) : List C × Int :=
  if (putA i r c).2 = 0 then (if hasI c.2 i = true then (if (H.notF r).2 = 0 then H.meetF (putA i r c).1 (H.notF r).1 else ([], (H.notF r).2)) else putA i r c) else ([], (putA i r c).2)
def putStep (i : Int) (r : List C) (b : List C) (c : C) : List C × Int := if (putB i r c).2 = 0 then H.joinF b (putB i r c).1 else ([], (putB i r c).2)
def putF (f : List C) (i : Int) (r : List C) : List C × Int := foldE [] (putStep i r) f []
def fPut (f : List C) (i : Int) (r : List C) : List C × Int := if H.right f = true ∧ H.right r = true then (if dimI i = true then putF f i r else ([], 2)) else ([], 2)
theorem foldE_none {α β : Type} (z : β) (f : β → α → β × Int) : ∀ (l : List α) (b : β), (foldE z f l b).2 ≠ 0 → (foldE z f l b).1 = z
  | [], b, h => absurd rfl h
  | c :: l, b, h => by
    unfold foldE at *
    by_cases hc : (f b c).2 = 0
    · rw [if_pos hc] at *
      exact foldE_none z f l _ h
    · rw [if_neg hc]
theorem foldE_keep {α β : Type} {z : β} {f : β → α → β × Int} (Inv : β → Prop) : ∀ (l : List α) (b : β), (∀ b, ∀ c ∈ l, Inv b → (f b c).2 = 0 → Inv (f b c).1) → Inv b → (foldE z f l b).2 = 0 → Inv (foldE z f l b).1
  | [], _, _, hb, _ => hb
  | c :: l, b, hs, hb, h => by
    unfold foldE at *
    by_cases hc : (f b c).2 = 0
    · rw [if_pos hc] at *
      exact foldE_keep Inv l _ (fun b d hd => hs b d (List.mem_cons_of_mem _ hd)) (hs b c (List.mem_cons_self ..) hb hc) h
    · rw [if_neg hc] at h
      exact absurd h hc
theorem notF_len (f : List C) : (H.notF f).1.length ≤ 64 := by
  by_cases h : (H.notF f).2 = 0
  · exact foldE_keep (fun b => b.length ≤ 64) f [top] (fun b c _ _ _ => by rw [notStep_eq]; exact least_len _) (by simp) h
  · rw [show (H.notF f).1 = [] from foldE_none _ _ _ _ h]
    simp
/-! ### Bits -/
/-! ### Putting -/
theorem putA_len (i : Int) (r : List C) (c : C) : (putA i r c).1.length ≤ 64 := by
  unfold putA
  split
  · exact least_len _
  · simp
theorem putB_len (i : Int) (r : List C) (c : C) : (putB i r c).1.length ≤ 64 := by
  have h := putA_len i r c
  unfold putB
  split
  · split
    · split
      · exact least_len _
      · simp
    · exact h
  · simp
theorem putStep_len (i : Int) (r b : List C) (c : C) : (putStep i r b c).1.length ≤ 64 := by
  unfold putStep
  split
  · exact least_len _
  · simp
end Go.Proofs.YthphgilelpmfhaaDoor
