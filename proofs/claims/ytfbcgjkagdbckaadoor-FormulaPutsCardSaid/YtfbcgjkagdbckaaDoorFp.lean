/-
PLAIN LAW: formulas: what joining, meeting, the opposite and putting tell, by what a formula says of a clause. No program in sight.
-/
import Derived.Test.YtfbcgjkagdbckaaDoorWd
namespace Go.Proofs.YtfbcgjkagdbckaaDoor
open H

/-! ### Told or not -/
theorem least_err (l : List C) : (least l).2 = 0 ∨ (least l).2 = 2 ∧ l.all ok = false ∧ (least l).1 = [] ∨ (least l).2 = 3 ∧ (least l).1 = [] := by
  rcases least_cases l with ⟨h, e⟩ | ⟨_, _, e⟩ | ⟨_, _, e⟩
  · rw [e]; exact .inr (.inl ⟨rfl, h, rfl⟩)
  · rw [e]; exact .inr (.inr ⟨rfl, rfl⟩)
  · rw [e]; exact .inl rfl
theorem ok_least {l : List C} (h : (least l).2 = 0) : (least l).1.all ok = true := (right_iff.1 (right_least h)).1
theorem least_none {l : List C} (h : (least l).2 ≠ 0) : (least l).1 = [] := by
  rcases least_err l with h1 | ⟨_, _, h2⟩ | ⟨_, h2⟩
  · exact absurd h1 h
  · exact h2
  · exact h2
theorem least_big {l : List C} (h : l.all ok = true) (h2 : (least l).2 ≠ 0) : (least l).2 = 3 := by
  rcases least_err l with h1 | ⟨_, h1, _⟩ | ⟨h1, _⟩
  · exact absurd h1 h2
  · rw [h] at h1; cases h1
  · exact h1
theorem least_len (l : List C) : (least l).1.length ≤ 64 := by
  rcases least_cases l with ⟨_, e⟩ | ⟨_, _, e⟩ | ⟨_, h2, e⟩
  · rw [e]; simp
  · rw [e]; simp
  · rw [e]
    show (sortC (keep l)).length ≤ 64
    rw [length_sortC]
    exact h2
theorem least_len' (l : List C) : (least l).1.length ≤ l.length := by
  rcases least_cases l with ⟨_, e⟩ | ⟨_, _, e⟩ | ⟨_, h2, e⟩
  · rw [e]; simp
  · rw [e]; simp
  · rw [e]
    show (sortC (keep l)).length ≤ _
    rw [length_sortC]
    exact length_keep l
theorem ok_of_right {f : List C} (h : H.right f = true) : f.all ok = true := (right_iff.1 h).1
theorem len_of_right {f : List C} (h : H.right f = true) : f.length ≤ 64 := (right_iff.1 h).2.1
theorem right_nil : H.right [] = true := by decide +kernel
theorem right_one {c : C} (h : ok c = true) : H.right [c] = true := by
  rw [right_iff]
  refine ⟨by rw [List.all_cons, h]; rfl, by simp, List.pairwise_singleton _ _, fun d => ?_⟩
  simp only [List.mem_singleton]
  exact ⟨fun h => ⟨h, fun e he _ => he.trans h.symm⟩, fun h => h.1⟩
theorem length_meets (f g : List C) : (meets f g).length = f.length * g.length := by
  induction f with
  | nil => simp [meets]
  | cons a f ih =>
    have e : meets (a :: f) g = g.map (meet a) ++ meets f g := by simp [meets]
    rw [e, List.length_append, List.length_map, ih, List.length_cons, Nat.add_mul]
    omega

/-! ### The package's functions -/
def fJoin (f g : List C) : List C × Int := if H.right f = true ∧ H.right g = true then H.joinF f g else ([], 2)
def fMeet (f g : List C) : List C × Int := if H.right f = true ∧ H.right g = true then H.meetF f g else ([], 2)
def fNot (f : List C) : List C × Int := if H.right f = true then H.notF f else ([], 2)
def dimC (i : Int) : C := (H.one i.toNat, 0)
def fDim (i : Int) : List C × Int := if dimI i = true then ([dimC i], 0) else ([], 2)
def wo (x : UInt32) (i : Int) : UInt32 := if dimI i = true then (x &&& M24) &&& ~~~(H.one i.toNat) else x &&& M24
def woC (c : C) (i : Int) : C := (wo c.1 i, wo c.2 i)
def putA (i : Int) (r : List C) (c : C) : List C × Int := if hasI c.1 i = true then H.meetF [woC c i] r else ([woC c i], 0)
def putB (i : Int) (r : List C) (c : C) : List C × Int :=
  if (putA i r c).2 = 0 then (if hasI c.2 i = true then (if (H.notF r).2 = 0 then H.meetF (putA i r c).1 (H.notF r).1 else ([], (H.notF r).2)) else putA i r c) else ([], (putA i r c).2)
def putStep (i : Int) (r : List C) (b : List C) (c : C) : List C × Int := if (putB i r c).2 = 0 then H.joinF b (putB i r c).1 else ([], (putB i r c).2)
def putF (f : List C) (i : Int) (r : List C) : List C × Int := foldE [] (putStep i r) f []
def fPut (f : List C) (i : Int) (r : List C) : List C × Int := if H.right f = true ∧ H.right r = true then (if dimI i = true then putF f i r else ([], 2)) else ([], 2)
def dimsF (f : List C) : UInt32 := (f.foldl (fun s c => s ||| (c.1 ||| c.2)) 0) &&& M24

theorem foldE_none {α β : Type} (z : β) (f : β → α → β × Int) : ∀ (l : List α) (b : β), (foldE z f l b).2 ≠ 0 → (foldE z f l b).1 = z
  | [], b, h => absurd rfl h
  | c :: l, b, h => by
    unfold foldE at *
    by_cases hc : (f b c).2 = 0
    · rw [if_pos hc] at *
      exact foldE_none z f l _ h
    · rw [if_neg hc]
theorem foldE_keep {α β : Type} {z : β} {f : β → α → β × Int} (Inv : β → Prop) : ∀ (l : List α) (b : β), (∀ b, ∀ c ∈ l, Inv b → (f b c).2 = 0 → Inv (f b c).1) → Inv b → (foldE z f l b).2 = 0 → Inv (foldE z f l b).1
  | [], _, _, hb, _ => hb
  | c :: l, b, hs, hb, h => by
    unfold foldE at *
    by_cases hc : (f b c).2 = 0
    · rw [if_pos hc] at *
      exact foldE_keep Inv l _ (fun b d hd => hs b d (List.mem_cons_of_mem _ hd)) (hs b c (List.mem_cons_self ..) hb hc) h
    · rw [if_neg hc] at h
      exact absurd h hc
theorem foldE_err {α β : Type} {z : β} {f : β → α → β × Int} (Inv : β → Prop) (P : Int → Prop) : ∀ (l : List α) (b : β), (∀ b, ∀ c ∈ l, Inv b → ((f b c).2 = 0 → Inv (f b c).1) ∧ ((f b c).2 ≠ 0 → P (f b c).2)) → Inv b → (foldE z f l b).2 ≠ 0 → P (foldE z f l b).2
  | [], _, _, _, h => absurd rfl h
  | c :: l, b, hs, hb, h => by
    unfold foldE at *
    have h1 := hs b c (List.mem_cons_self ..) hb
    by_cases hc : (f b c).2 = 0
    · rw [if_pos hc] at *
      exact foldE_err Inv P l _ (fun b d hd => hs b d (List.mem_cons_of_mem _ hd)) (h1.1 hc) h
    · rw [if_neg hc] at *
      exact h1.2 hc
theorem notF_len (f : List C) : (H.notF f).1.length ≤ 64 := by
  by_cases h : (H.notF f).2 = 0
  · exact foldE_keep (fun b => b.length ≤ 64) f [top] (fun b c _ _ _ => by rw [notStep_eq]; exact least_len _) (by simp) h
  · rw [show (H.notF f).1 = [] from foldE_none _ _ _ _ h]
    simp
theorem notF_err {f : List C} (h : (H.notF f).2 ≠ 0) : (H.notF f).2 = 3 := by
  refine foldE_err (fun b => b.all ok = true) (fun e => e = 3) f [top] (fun b c hc hb => ?_) (by decide) h
  rw [notStep_eq]
  unfold H.meetF
  have hok := ok_meets hb (ok_least (opps_told c))
  exact ⟨fun h0 => ok_least h0, fun h0 => least_big hok h0⟩
/-! ### Bits -/
theorem hasI_eq {i : Int} (hd : dimI i = true) (x : UInt32) : hasI x i = tb x i.toNat := by
  unfold hasI tb
  rw [hd, Bool.true_and]
theorem tb_wo {i : Int} (hd : dimI i = true) (x : UInt32) (j : Nat) : tb (wo x i) j = (tb x j && decide (j < 24) && !decide (i.toNat = j)) := by
  have h24 := of_decide_eq_true hd
  unfold wo
  rw [if_pos hd, tb_and, tb_and, tb_not, tb_one (by omega), tb_M24]
  by_cases hj : j < 24
  · simp [hj, show j < 32 by omega]
  · simp [hj]
theorem woC_ok {i : Int} (hd : dimI i = true) (c : C) : ok (woC c i) = true := by
  rw [ok_iff]
  constructor <;> intro j hj
  · rw [show (woC c i).1 = wo c.1 i from rfl, tb_wo hd] at hj
    simp at hj
    exact hj.1.2
  · rw [show (woC c i).2 = wo c.2 i from rfl, tb_wo hd] at hj
    simp at hj
    exact hj.1.2
theorem tb_dimsF (f : List C) (j : Nat) : tb (dimsF f) j = (decide (j < 24) && f.any fun c => tb c.1 j || tb c.2 j) := by
  unfold dimsF
  rw [tb_and, tb_M24, Bool.and_comm]
  congr 1
  have key : ∀ (l : List C) (s : UInt32), tb (l.foldl (fun s c => s ||| (c.1 ||| c.2)) s) j = (tb s j || l.any fun c => tb c.1 j || tb c.2 j) := by
    intro l
    induction l with
    | nil => intro s; simp
    | cons c l ih =>
      intro s
      rw [List.foldl_cons, ih, tb_or, tb_or, List.any_cons, Bool.or_assoc]
  rw [key, tb_zero, Bool.false_or]

/-! ### Putting -/
theorem putA_facts {i : Int} (hd : dimI i = true) {r : List C} (hr : r.all ok = true) (c : C) : (putA i r c).1.all ok = true ∧ ((putA i r c).2 ≠ 0 → (putA i r c).2 = 3) ∧ ((putA i r c).2 = 0 → ∀ x, E (putA i r c).1 x = (below x (woC c i) && (!hasI c.1 i || E r x))) := by
  have hok : [woC c i].all ok = true := by rw [List.all_cons, woC_ok hd]; rfl
  have hE : ∀ x, E [woC c i] x = below x (woC c i) := fun x => by simp [E]
  unfold putA
  cases h : hasI c.1 i
  · rw [if_neg (by simp)]
    exact ⟨hok, fun h => absurd rfl h, fun _ x => by rw [hE]; simp⟩
  · rw [if_pos rfl]
    unfold H.meetF
    refine ⟨?_, fun h0 => least_big (ok_meets hok hr) h0, fun h0 x => by rw [E_least h0, E_meets, hE]; simp⟩
    by_cases h0 : (least (meets [woC c i] r)).2 = 0
    · exact ok_least h0
    · rw [least_none h0]; rfl
theorem putB_facts {i : Int} (hd : dimI i = true) {r : List C} (hr : r.all ok = true) (c : C) : (putB i r c).1.all ok = true ∧ ((putB i r c).2 ≠ 0 → (putB i r c).2 = 3) ∧ ((putB i r c).2 = 0 → ∀ x, E (putB i r c).1 x = (below x (woC c i) && (!hasI c.1 i || E r x) && (!hasI c.2 i || E (H.notF r).1 x))) := by
  obtain ⟨a1, a2, a3⟩ := putA_facts hd hr c
  unfold putB
  by_cases h0 : (putA i r c).2 = 0
  · rw [if_pos h0]
    cases h : hasI c.2 i
    · rw [if_neg (by simp)]
      exact ⟨a1, a2, fun _ x => by rw [a3 h0]; simp⟩
    · rw [if_pos rfl]
      by_cases hn : (H.notF r).2 = 0
      · rw [if_pos hn]
        have hno := ok_of_right (notF_facts hr hn).1
        unfold H.meetF
        refine ⟨?_, fun h1 => least_big (ok_meets a1 hno) h1, fun h1 x => by rw [E_least h1, E_meets, a3 h0]; simp⟩
        by_cases h1 : (least (meets (putA i r c).1 (H.notF r).1)).2 = 0
        · exact ok_least h1
        · rw [least_none h1]; rfl
      · rw [if_neg hn]
        exact ⟨rfl, fun _ => notF_err hn, fun h1 => absurd h1 hn⟩
  · rw [if_neg h0]
    exact ⟨rfl, fun _ => a2 h0, fun h1 => absurd h1 h0⟩
theorem putA_len (i : Int) (r : List C) (c : C) : (putA i r c).1.length ≤ 64 := by
  unfold putA
  split
  · exact least_len _
  · simp
theorem putB_len (i : Int) (r : List C) (c : C) : (putB i r c).1.length ≤ 64 := by
  have h := putA_len i r c
  unfold putB
  split
  · split
    · split
      · exact least_len _
      · simp
    · exact h
  · simp
theorem putStep_len (i : Int) (r b : List C) (c : C) : (putStep i r b c).1.length ≤ 64 := by
  unfold putStep
  split
  · exact least_len _
  · simp
def putSays (i : Int) (r : List C) (x c : C) : Bool := below x (woC c i) && (!hasI c.1 i || E r x) && (!hasI c.2 i || E (H.notF r).1 x)
theorem putStep_facts {i : Int} (hd : dimI i = true) {r : List C} (hr : r.all ok = true) (b : List C) (hb : b.all ok = true) (c : C) : ((putStep i r b c).2 ≠ 0 → (putStep i r b c).2 = 3) ∧ ((putStep i r b c).2 = 0 → H.right (putStep i r b c).1 = true ∧ ∀ x, E (putStep i r b c).1 x = (E b x || putSays i r x c)) := by
  obtain ⟨a1, a2, a3⟩ := putB_facts hd hr c
  unfold putStep
  by_cases h0 : (putB i r c).2 = 0
  · rw [if_pos h0]
    unfold H.joinF
    exact ⟨fun h1 => least_big (by rw [ok_append, hb, a1]; rfl) h1, fun h1 => ⟨right_least h1, fun x => by rw [E_least h1, E_append, a3 h0]; rfl⟩⟩
  · rw [if_neg h0]
    exact ⟨fun _ => a2 h0, fun h1 => absurd h1 h0⟩
theorem putF_facts {i : Int} (hd : dimI i = true) {f r : List C} (hr : r.all ok = true) : ((putF f i r).2 ≠ 0 → (putF f i r).2 = 3 ∧ (putF f i r).1 = []) ∧ ((putF f i r).2 = 0 → H.right (putF f i r).1 = true ∧ ∀ x, E (putF f i r).1 x = f.any (putSays i r x)) := by
  constructor
  · intro h
    refine ⟨foldE_err (fun b => H.right b = true) (fun e => e = 3) f [] (fun b c _ hb => ?_) right_nil h, foldE_none _ _ _ _ h⟩
    obtain ⟨h1, h2⟩ := putStep_facts hd hr b (ok_of_right hb) c
    exact ⟨fun h0 => (h2 h0).1, h1⟩
  · intro h
    have := foldE_inv (z := []) (f := putStep i r) (l := f) (fun pre b => H.right b = true ∧ ∀ x, E b x = pre.any (putSays i r x)) (fun pre c b _ hq hc => by
      obtain ⟨h1, h2⟩ := (putStep_facts hd hr b (ok_of_right hq.1) c).2 hc
      exact ⟨h1, fun x => by rw [h2, hq.2, List.any_append]; simp⟩) (pre := []) (post := f) (b := []) rfl ⟨right_nil, fun x => by simp [E]⟩ h
    exact this
theorem fPut_told {f r : List C} {i : Int} (h : (fPut f i r).2 = 0) : H.right f = true ∧ H.right r = true ∧ dimI i = true ∧ H.right (fPut f i r).1 = true ∧ ∀ x, E (fPut f i r).1 x = f.any (putSays i r x) := by
  unfold fPut at *
  by_cases h1 : H.right f = true ∧ H.right r = true
  · rw [if_pos h1] at *
    by_cases h2 : dimI i = true
    · rw [if_pos h2] at *
      have := (putF_facts h2 (f := f) (ok_of_right h1.2)).2 h
      exact ⟨h1.1, h1.2, h2, this.1, this.2⟩
    · rw [if_neg h2] at h
      cases h
  · rw [if_neg h1] at h
    cases h
end Go.Proofs.YtfbcgjkagdbckaaDoor
