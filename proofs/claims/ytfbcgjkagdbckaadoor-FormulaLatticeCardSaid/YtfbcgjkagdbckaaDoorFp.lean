/-
PLAIN LAW: formulas: what joining, meeting, the opposite and putting tell, by what a formula says of a clause. No program in sight.
-/
import Derived.Test.YtfbcgjkagdbckaaDoorWd
namespace Go.Proofs.YtfbcgjkagdbckaaDoor
open H

/-! ### Told or not -/
theorem least_err (l : List C) : (least l).2 = 0 ∨ (least l).2 = 2 ∧ l.all ok = false ∧ (least l).1 = [] ∨ (least l).2 = 3 ∧ (least l).1 = [] := by
  rcases least_cases l with ⟨h, e⟩ | ⟨_, _, e⟩ | ⟨_, _, e⟩
  · rw [e]; exact .inr (.inl ⟨rfl, h, rfl⟩)
  · rw [e]; exact .inr (.inr ⟨rfl, rfl⟩)
  · rw [e]; exact .inl rfl
theorem least_told' {l : List C} (h : l.all ok = true) (hl : l.length ≤ 64) : (least l).2 = 0 := by
  have := length_keep l
  rcases least_cases l with ⟨h1, e⟩ | ⟨h1, h2, e⟩ | ⟨h1, h2, e⟩
  · rw [h] at h1; cases h1
  · omega
  · rw [e]
theorem least_sub' {l : List C} (h : (least l).2 = 0) {x : C} (hx : x ∈ (least l).1) : x ∈ l := by
  rw [least_ok h] at hx
  exact (((isLeast_keep l).2 x).1 hx).1
theorem ok_least {l : List C} (h : (least l).2 = 0) : (least l).1.all ok = true := (right_iff.1 (right_least h)).1
theorem any_congr' {α : Type} {p q : α → Bool} : ∀ {l : List α}, (∀ c ∈ l, p c = q c) → l.any p = l.any q
  | [], _ => rfl
  | c :: l, h => by rw [List.any_cons, List.any_cons, h c (List.mem_cons_self ..), any_congr' fun d hd => h d (List.mem_cons_of_mem _ hd)]
theorem least_none {l : List C} (h : (least l).2 ≠ 0) : (least l).1 = [] := by
  rcases least_err l with h1 | ⟨_, _, h2⟩ | ⟨_, h2⟩
  · exact absurd h1 h
  · exact h2
  · exact h2
theorem least_big {l : List C} (h : l.all ok = true) (h2 : (least l).2 ≠ 0) : (least l).2 = 3 := by
  rcases least_err l with h1 | ⟨_, h1, _⟩ | ⟨h1, _⟩
  · exact absurd h1 h2
  · rw [h] at h1; cases h1
  · exact h1
theorem least_len (l : List C) : (least l).1.length ≤ 64 := by
  rcases least_cases l with ⟨_, e⟩ | ⟨_, _, e⟩ | ⟨_, h2, e⟩
  · rw [e]; simp
  · rw [e]; simp
  · rw [e]
    show (sortC (keep l)).length ≤ 64
    rw [length_sortC]
    exact h2
theorem least_len' (l : List C) : (least l).1.length ≤ l.length := by
  rcases least_cases l with ⟨_, e⟩ | ⟨_, _, e⟩ | ⟨_, h2, e⟩
  · rw [e]; simp
  · rw [e]; simp
  · rw [e]
    show (sortC (keep l)).length ≤ _
    rw [length_sortC]
    exact length_keep l
theorem ok_of_right {f : List C} (h : H.right f = true) : f.all ok = true := (right_iff.1 h).1
theorem len_of_right {f : List C} (h : H.right f = true) : f.length ≤ 64 := (right_iff.1 h).2.1
theorem right_nil : H.right [] = true := by decide +kernel
theorem right_one {c : C} (h : ok c = true) : H.right [c] = true := by
  rw [right_iff]
  refine ⟨by rw [List.all_cons, h]; rfl, by simp, List.pairwise_singleton _ _, fun d => ?_⟩
  simp only [List.mem_singleton]
  exact ⟨fun h => ⟨h, fun e he _ => he.trans h.symm⟩, fun h => h.1⟩
theorem length_meets (f g : List C) : (meets f g).length = f.length * g.length := by
  induction f with
  | nil => simp [meets]
  | cons a f ih =>
    have e : meets (a :: f) g = g.map (meet a) ++ meets f g := by simp [meets]
    rw [e, List.length_append, List.length_map, ih, List.length_cons, Nat.add_mul]
    omega

/-! ### The package's functions -/
def fJoin (f g : List C) : List C × Int := if H.right f = true ∧ H.right g = true then H.joinF f g else ([], 2)
def fMeet (f g : List C) : List C × Int := if H.right f = true ∧ H.right g = true then H.meetF f g else ([], 2)
def fNot (f : List C) : List C × Int := if H.right f = true then H.notF f else ([], 2)
def dimC (i : Int) : C := (H.one i.toNat, 0)
def fDim (i : Int) : List C × Int := if dimI i = true then ([dimC i], 0) else ([], 2)
def wo (x : UInt32) (i : Int) : UInt32 := if dimI i = true then (x &&& M24) &&& ~~~(H.one i.toNat) else x &&& M24
def woC (c : C) (i : Int) : C := (wo c.1 i, wo c.2 i)
def putA (i : Int) (r : List C) (c : C) : List C × Int := if hasI c.1 i = true then H.meetF [woC c i] r else ([woC c i], 0)
def putB (i : Int) (r : List C) (c : C) : List C × Int :=
  if (putA i r c).2 = 0 then (if hasI c.2 i = true then (if (H.notF r).2 = 0 then H.meetF (putA i r c).1 (H.notF r).1 else ([], (H.notF r).2)) else putA i r c) else ([], (putA i r c).2)
def putStep (i : Int) (r : List C) (b : List C) (c : C) : List C × Int := if (putB i r c).2 = 0 then H.joinF b (putB i r c).1 else ([], (putB i r c).2)
def putF (f : List C) (i : Int) (r : List C) : List C × Int := foldE [] (putStep i r) f []
def fPut (f : List C) (i : Int) (r : List C) : List C × Int := if H.right f = true ∧ H.right r = true then (if dimI i = true then putF f i r else ([], 2)) else ([], 2)
def dimsF (f : List C) : UInt32 := (f.foldl (fun s c => s ||| (c.1 ||| c.2)) 0) &&& M24

theorem fJoin_comm (f g : List C) : fJoin f g = fJoin g f := by
  unfold fJoin H.joinF
  rw [least_congr (l := f ++ g) (m := g ++ f) (fun c => by simp [or_comm])]
  by_cases h : H.right f = true ∧ H.right g = true
  · rw [if_pos h, if_pos h.symm]
  · rw [if_neg h, if_neg (fun h' => h h'.symm)]
theorem meet_comm (a b : C) : meet a b = meet b a := by
  unfold meet
  rw [UInt32.or_comm a.1, UInt32.or_comm a.2]
theorem mem_meets {f g : List C} {x : C} : x ∈ meets f g ↔ ∃ a ∈ f, ∃ b ∈ g, meet a b = x := by
  unfold meets
  rw [List.mem_flatMap]
  constructor
  · rintro ⟨a, ha, hx⟩
    obtain ⟨b, hb, rfl⟩ := List.mem_map.1 hx
    exact ⟨a, ha, b, hb, rfl⟩
  · rintro ⟨a, ha, b, hb, rfl⟩
    exact ⟨a, ha, List.mem_map.2 ⟨b, hb, rfl⟩⟩
theorem fMeet_comm (f g : List C) : fMeet f g = fMeet g f := by
  unfold fMeet H.meetF
  rw [least_congr (l := meets f g) (m := meets g f) (fun c => by
    rw [mem_meets, mem_meets]
    constructor
    · rintro ⟨a, ha, b, hb, rfl⟩; exact ⟨b, hb, a, ha, meet_comm b a⟩
    · rintro ⟨a, ha, b, hb, rfl⟩; exact ⟨b, hb, a, ha, meet_comm b a⟩)]
  by_cases h : H.right f = true ∧ H.right g = true
  · rw [if_pos h, if_pos h.symm]
  · rw [if_neg h, if_neg (fun h' => h h'.symm)]
theorem fJoin_told {f g : List C} (h : (fJoin f g).2 = 0) : H.right f = true ∧ H.right g = true ∧ H.right (fJoin f g).1 = true ∧ ∀ c, E (fJoin f g).1 c = (E f c || E g c) := by
  unfold fJoin at *
  by_cases hr : H.right f = true ∧ H.right g = true
  · rw [if_pos hr] at *
    unfold H.joinF at *
    exact ⟨hr.1, hr.2, right_least h, fun c => by rw [E_least h, E_append]⟩
  · rw [if_neg hr] at h
    cases h
theorem fMeet_told {f g : List C} (h : (fMeet f g).2 = 0) : H.right f = true ∧ H.right g = true ∧ H.right (fMeet f g).1 = true ∧ ∀ c, E (fMeet f g).1 c = (E f c && E g c) := by
  unfold fMeet at *
  by_cases hr : H.right f = true ∧ H.right g = true
  · rw [if_pos hr] at *
    unfold H.meetF at *
    exact ⟨hr.1, hr.2, right_least h, fun c => by rw [E_least h, E_meets]⟩
  · rw [if_neg hr] at h
    cases h
theorem fNot_told {f : List C} (h : (fNot f).2 = 0) : H.right f = true ∧ H.right (fNot f).1 = true ∧ ∀ c, E (fNot f).1 c = !(E f (dual c)) := by
  unfold fNot at *
  by_cases hr : H.right f = true
  · rw [if_pos hr] at *
    obtain ⟨h1, h2⟩ := notF_facts (ok_of_right hr) h
    exact ⟨hr, h1, h2⟩
  · rw [if_neg hr] at h
    cases h
theorem fJoin_none {f g : List C} (h : (fJoin f g).2 ≠ 0) : (fJoin f g).1 = [] := by
  unfold fJoin at *
  split
  · rename_i hr
    rw [if_pos hr] at h
    exact least_none h
  · rfl
theorem fMeet_none {f g : List C} (h : (fMeet f g).2 ≠ 0) : (fMeet f g).1 = [] := by
  unfold fMeet at *
  split
  · rename_i hr
    rw [if_pos hr] at h
    exact least_none h
  · rfl
theorem foldE_none {α β : Type} (z : β) (f : β → α → β × Int) : ∀ (l : List α) (b : β), (foldE z f l b).2 ≠ 0 → (foldE z f l b).1 = z
  | [], b, h => absurd rfl h
  | c :: l, b, h => by
    unfold foldE at *
    by_cases hc : (f b c).2 = 0
    · rw [if_pos hc] at *
      exact foldE_none z f l _ h
    · rw [if_neg hc]
theorem foldE_keep {α β : Type} {z : β} {f : β → α → β × Int} (Inv : β → Prop) : ∀ (l : List α) (b : β), (∀ b, ∀ c ∈ l, Inv b → (f b c).2 = 0 → Inv (f b c).1) → Inv b → (foldE z f l b).2 = 0 → Inv (foldE z f l b).1
  | [], _, _, hb, _ => hb
  | c :: l, b, hs, hb, h => by
    unfold foldE at *
    by_cases hc : (f b c).2 = 0
    · rw [if_pos hc] at *
      exact foldE_keep Inv l _ (fun b d hd => hs b d (List.mem_cons_of_mem _ hd)) (hs b c (List.mem_cons_self ..) hb hc) h
    · rw [if_neg hc] at h
      exact absurd h hc
theorem foldE_err {α β : Type} {z : β} {f : β → α → β × Int} (Inv : β → Prop) (P : Int → Prop) : ∀ (l : List α) (b : β), (∀ b, ∀ c ∈ l, Inv b → ((f b c).2 = 0 → Inv (f b c).1) ∧ ((f b c).2 ≠ 0 → P (f b c).2)) → Inv b → (foldE z f l b).2 ≠ 0 → P (foldE z f l b).2
  | [], _, _, _, h => absurd rfl h
  | c :: l, b, hs, hb, h => by
    unfold foldE at *
    have h1 := hs b c (List.mem_cons_self ..) hb
    by_cases hc : (f b c).2 = 0
    · rw [if_pos hc] at *
      exact foldE_err Inv P l _ (fun b d hd => hs b d (List.mem_cons_of_mem _ hd)) (h1.1 hc) h
    · rw [if_neg hc] at *
      exact h1.2 hc
theorem foldE_toldN {α β : Type} {z : β} {f : β → α → β × Int} (Inv : Nat → β → Prop) (N : Nat) : ∀ (l : List α) (n : Nat) (b : β), n + l.length ≤ N → (∀ n b, ∀ c ∈ l, n < N → Inv n b → (f b c).2 = 0 ∧ Inv (n + 1) (f b c).1) → Inv n b → (foldE z f l b).2 = 0
  | [], _, _, _, _, _ => rfl
  | c :: l, n, b, hn, hs, hb => by
    rw [List.length_cons] at hn
    have h1 := hs n b c (List.mem_cons_self ..) (by omega) hb
    unfold foldE
    rw [if_pos h1.1]
    exact foldE_toldN Inv N l (n + 1) _ (by omega) (fun n b d hd => hs n b d (List.mem_cons_of_mem _ hd)) h1.2
theorem notF_len (f : List C) : (H.notF f).1.length ≤ 64 := by
  by_cases h : (H.notF f).2 = 0
  · exact foldE_keep (fun b => b.length ≤ 64) f [top] (fun b c _ _ _ => by rw [notStep_eq]; exact least_len _) (by simp) h
  · rw [show (H.notF f).1 = [] from foldE_none _ _ _ _ h]
    simp
theorem notF_err {f : List C} (h : (H.notF f).2 ≠ 0) : (H.notF f).2 = 3 := by
  refine foldE_err (fun b => b.all ok = true) (fun e => e = 3) f [top] (fun b c hc hb => ?_) (by decide) h
  rw [notStep_eq]
  unfold H.meetF
  have hok := ok_meets hb (ok_least (opps_told c))
  exact ⟨fun h0 => ok_least h0, fun h0 => least_big hok h0⟩
/-! ### Bits -/
theorem hasI_eq {i : Int} (hd : dimI i = true) (x : UInt32) : hasI x i = tb x i.toNat := by
  unfold hasI tb
  rw [hd, Bool.true_and]
theorem hasI_none {i : Int} (hd : dimI i = false) (x : UInt32) : hasI x i = false := by
  unfold hasI
  rw [hd, Bool.false_and]
theorem tb_wo {i : Int} (hd : dimI i = true) (x : UInt32) (j : Nat) : tb (wo x i) j = (tb x j && decide (j < 24) && !decide (i.toNat = j)) := by
  have h24 := of_decide_eq_true hd
  unfold wo
  rw [if_pos hd, tb_and, tb_and, tb_not, tb_one (by omega), tb_M24]
  by_cases hj : j < 24
  · simp [hj, show j < 32 by omega]
  · simp [hj]
theorem wo_lit {x : UInt32} {i : Int} (hd : dimI i = true) (hx : r1 x = true) (hn : hasI x i = false) : wo x i = x := by
  rw [r1_iff] at hx
  rw [hasI_eq hd] at hn
  refine tb_ext fun j => ?_
  rw [tb_wo hd]
  cases h : tb x j
  · rfl
  · have h24 := hx j h
    have hne : ¬ i.toNat = j := fun e => by rw [e, h] at hn; cases hn
    simp [h24, hne]
theorem woC_ok {i : Int} (hd : dimI i = true) (c : C) : ok (woC c i) = true := by
  rw [ok_iff]
  constructor <;> intro j hj
  · rw [show (woC c i).1 = wo c.1 i from rfl, tb_wo hd] at hj
    simp at hj
    exact hj.1.2
  · rw [show (woC c i).2 = wo c.2 i from rfl, tb_wo hd] at hj
    simp at hj
    exact hj.1.2
theorem woC_has {i : Int} (hd : dimI i = true) (c : C) : hasI (woC c i).1 i = false ∧ hasI (woC c i).2 i = false := by
  have h24 := of_decide_eq_true hd
  constructor
  · rw [hasI_eq hd, show (woC c i).1 = wo c.1 i from rfl, tb_wo hd]
    simp
  · rw [hasI_eq hd, show (woC c i).2 = wo c.2 i from rfl, tb_wo hd]
    simp
/-- A clause is below another one just if it is below that without a dimension, and has that dimension's literals. -/
theorem below_wo {i : Int} (hd : dimI i = true) {c : C} (hc : ok c = true) (x : C) : below x c = (below x (woC c i) && (!hasI c.1 i || tb x.1 i.toNat) && (!hasI c.2 i || tb x.2 i.toNat)) := by
  rw [ok_iff] at hc
  rw [Bool.eq_iff_iff, hasI_eq hd, hasI_eq hd]
  simp only [Bool.and_eq_true, Bool.or_eq_true, Bool.not_eq_true', below_bits]
  have e1 : ∀ j, tb (woC c i).1 j = (tb c.1 j && decide (j < 24) && !decide (i.toNat = j)) := fun j => tb_wo hd c.1 j
  have e2 : ∀ j, tb (woC c i).2 j = (tb c.2 j && decide (j < 24) && !decide (i.toNat = j)) := fun j => tb_wo hd c.2 j
  constructor
  · rintro ⟨h1, h2⟩
    refine ⟨⟨⟨fun j hj => h1 j ?_, fun j hj => h2 j ?_⟩, ?_⟩, ?_⟩
    · rw [e1] at hj; simp at hj; exact hj.1.1
    · rw [e2] at hj; simp at hj; exact hj.1.1
    · cases h : tb c.1 i.toNat
      · exact .inl rfl
      · exact .inr (h1 _ h)
    · cases h : tb c.2 i.toNat
      · exact .inl rfl
      · exact .inr (h2 _ h)
  · rintro ⟨⟨⟨h1, h2⟩, h3⟩, h4⟩
    refine ⟨fun j hj => ?_, fun j hj => ?_⟩
    · by_cases he : i.toNat = j
      · subst he
        rcases h3 with h3 | h3
        · rw [h3] at hj; cases hj
        · exact h3
      · exact h1 j (by rw [e1, hj]; simp [hc.1 j hj, he])
    · by_cases he : i.toNat = j
      · subst he
        rcases h4 with h4 | h4
        · rw [h4] at hj; cases hj
        · exact h4
      · exact h2 j (by rw [e2, hj]; simp [hc.2 j hj, he])
theorem tb_dimsF (f : List C) (j : Nat) : tb (dimsF f) j = (decide (j < 24) && f.any fun c => tb c.1 j || tb c.2 j) := by
  unfold dimsF
  rw [tb_and, tb_M24, Bool.and_comm]
  congr 1
  have key : ∀ (l : List C) (s : UInt32), tb (l.foldl (fun s c => s ||| (c.1 ||| c.2)) s) j = (tb s j || l.any fun c => tb c.1 j || tb c.2 j) := by
    intro l
    induction l with
    | nil => intro s; simp
    | cons c l ih =>
      intro s
      rw [List.foldl_cons, ih, tb_or, tb_or, List.any_cons, Bool.or_assoc]
  rw [key, tb_zero, Bool.false_or]

/-! ### Putting -/
theorem putA_facts {i : Int} (hd : dimI i = true) {r : List C} (hr : r.all ok = true) (c : C) : (putA i r c).1.all ok = true ∧ ((putA i r c).2 ≠ 0 → (putA i r c).2 = 3) ∧ ((putA i r c).2 = 0 → ∀ x, E (putA i r c).1 x = (below x (woC c i) && (!hasI c.1 i || E r x))) := by
  have hok : [woC c i].all ok = true := by rw [List.all_cons, woC_ok hd]; rfl
  have hE : ∀ x, E [woC c i] x = below x (woC c i) := fun x => by simp [E]
  unfold putA
  cases h : hasI c.1 i
  · rw [if_neg (by simp)]
    exact ⟨hok, fun h => absurd rfl h, fun _ x => by rw [hE]; simp⟩
  · rw [if_pos rfl]
    unfold H.meetF
    refine ⟨?_, fun h0 => least_big (ok_meets hok hr) h0, fun h0 x => by rw [E_least h0, E_meets, hE]; simp⟩
    by_cases h0 : (least (meets [woC c i] r)).2 = 0
    · exact ok_least h0
    · rw [least_none h0]; rfl
theorem putB_facts {i : Int} (hd : dimI i = true) {r : List C} (hr : r.all ok = true) (c : C) : (putB i r c).1.all ok = true ∧ ((putB i r c).2 ≠ 0 → (putB i r c).2 = 3) ∧ ((putB i r c).2 = 0 → ∀ x, E (putB i r c).1 x = (below x (woC c i) && (!hasI c.1 i || E r x) && (!hasI c.2 i || E (H.notF r).1 x))) := by
  obtain ⟨a1, a2, a3⟩ := putA_facts hd hr c
  unfold putB
  by_cases h0 : (putA i r c).2 = 0
  · rw [if_pos h0]
    cases h : hasI c.2 i
    · rw [if_neg (by simp)]
      exact ⟨a1, a2, fun _ x => by rw [a3 h0]; simp⟩
    · rw [if_pos rfl]
      by_cases hn : (H.notF r).2 = 0
      · rw [if_pos hn]
        have hno := ok_of_right (notF_facts hr hn).1
        unfold H.meetF
        refine ⟨?_, fun h1 => least_big (ok_meets a1 hno) h1, fun h1 x => by rw [E_least h1, E_meets, a3 h0]; simp⟩
        by_cases h1 : (least (meets (putA i r c).1 (H.notF r).1)).2 = 0
        · exact ok_least h1
        · rw [least_none h1]; rfl
      · rw [if_neg hn]
        exact ⟨rfl, fun _ => notF_err hn, fun h1 => absurd h1 hn⟩
  · rw [if_neg h0]
    exact ⟨rfl, fun _ => a2 h0, fun h1 => absurd h1 h0⟩
theorem putA_len (i : Int) (r : List C) (c : C) : (putA i r c).1.length ≤ 64 := by
  unfold putA
  split
  · exact least_len _
  · simp
theorem putB_len (i : Int) (r : List C) (c : C) : (putB i r c).1.length ≤ 64 := by
  have h := putA_len i r c
  unfold putB
  split
  · split
    · split
      · exact least_len _
      · simp
    · exact h
  · simp
theorem putStep_len (i : Int) (r b : List C) (c : C) : (putStep i r b c).1.length ≤ 64 := by
  unfold putStep
  split
  · exact least_len _
  · simp
def putSays (i : Int) (r : List C) (x c : C) : Bool := below x (woC c i) && (!hasI c.1 i || E r x) && (!hasI c.2 i || E (H.notF r).1 x)
theorem putStep_facts {i : Int} (hd : dimI i = true) {r : List C} (hr : r.all ok = true) (b : List C) (hb : b.all ok = true) (c : C) : ((putStep i r b c).2 ≠ 0 → (putStep i r b c).2 = 3) ∧ ((putStep i r b c).2 = 0 → H.right (putStep i r b c).1 = true ∧ ∀ x, E (putStep i r b c).1 x = (E b x || putSays i r x c)) := by
  obtain ⟨a1, a2, a3⟩ := putB_facts hd hr c
  unfold putStep
  by_cases h0 : (putB i r c).2 = 0
  · rw [if_pos h0]
    unfold H.joinF
    exact ⟨fun h1 => least_big (by rw [ok_append, hb, a1]; rfl) h1, fun h1 => ⟨right_least h1, fun x => by rw [E_least h1, E_append, a3 h0]; rfl⟩⟩
  · rw [if_neg h0]
    exact ⟨fun _ => a2 h0, fun h1 => absurd h1 h0⟩
theorem putF_facts {i : Int} (hd : dimI i = true) {f r : List C} (hr : r.all ok = true) : ((putF f i r).2 ≠ 0 → (putF f i r).2 = 3 ∧ (putF f i r).1 = []) ∧ ((putF f i r).2 = 0 → H.right (putF f i r).1 = true ∧ ∀ x, E (putF f i r).1 x = f.any (putSays i r x)) := by
  constructor
  · intro h
    refine ⟨foldE_err (fun b => H.right b = true) (fun e => e = 3) f [] (fun b c _ hb => ?_) right_nil h, foldE_none _ _ _ _ h⟩
    obtain ⟨h1, h2⟩ := putStep_facts hd hr b (ok_of_right hb) c
    exact ⟨fun h0 => (h2 h0).1, h1⟩
  · intro h
    have := foldE_inv (z := []) (f := putStep i r) (l := f) (fun pre b => H.right b = true ∧ ∀ x, E b x = pre.any (putSays i r x)) (fun pre c b _ hq hc => by
      obtain ⟨h1, h2⟩ := (putStep_facts hd hr b (ok_of_right hq.1) c).2 hc
      exact ⟨h1, fun x => by rw [h2, hq.2, List.any_append]; simp⟩) (pre := []) (post := f) (b := []) rfl ⟨right_nil, fun x => by simp [E]⟩ h
    exact this
theorem fPut_told {f r : List C} {i : Int} (h : (fPut f i r).2 = 0) : H.right f = true ∧ H.right r = true ∧ dimI i = true ∧ H.right (fPut f i r).1 = true ∧ ∀ x, E (fPut f i r).1 x = f.any (putSays i r x) := by
  unfold fPut at *
  by_cases h1 : H.right f = true ∧ H.right r = true
  · rw [if_pos h1] at *
    by_cases h2 : dimI i = true
    · rw [if_pos h2] at *
      have := (putF_facts h2 (f := f) (ok_of_right h1.2)).2 h
      exact ⟨h1.1, h1.2, h2, this.1, this.2⟩
    · rw [if_neg h2] at h
      cases h
  · rw [if_neg h1] at h
    cases h
theorem E_dim {i : Int} (hd : dimI i = true) (x : C) : E [dimC i] x = tb x.1 i.toNat := by
  have h24 := of_decide_eq_true hd
  unfold E dimC
  rw [List.any_cons, List.any_nil, Bool.or_false, below_lit2 (by omega)]
theorem ok_dim {i : Int} (hd : dimI i = true) : ok (dimC i) = true := by
  have h24 := of_decide_eq_true hd
  show (r1 (H.one i.toNat) && r1 0) = true
  rw [r1_one (by omega), r1_zero]
  rfl
/-- The opposite of a dimension is told; it is one clause. -/
theorem not_dim {i : Int} (hd : dimI i = true) : H.notF [dimC i] = ([(0, H.one i.toNat)], 0) := by
  have h24 := of_decide_eq_true hd
  have hok : [dimC i].all ok = true := by rw [List.all_cons, ok_dim hd]; rfl
  have ht : (H.notF [dimC i]).2 = 0 := by
    unfold H.notF foldE
    rw [notStep_eq]
    have h1 : (H.meetF [top] (least (opps (dimC i))).1).2 = 0 := by
      unfold H.meetF
      refine least_told' (ok_meets (by decide) (ok_least (opps_told _))) ?_
      rw [length_meets]
      have := least_len (opps (dimC i))
      simp
      omega
    rw [if_pos h1]
    rfl
  obtain ⟨h1, h2⟩ := notF_facts hok ht
  have hr2 : H.right [(0, H.one i.toNat)] = true := right_one (by
    show (r1 0 && r1 (H.one i.toNat)) = true
    rw [r1_one (by omega), r1_zero]
    rfl)
  refine Prod.ext (right_ext h1 hr2 fun c hc => ?_) ht
  rw [h2, E_dim hd, tb_dual1]
  unfold E
  rw [List.any_cons, List.any_nil, Bool.or_false, below_lit1 (by omega)]
  simp [show i.toNat < 24 by omega]
/-- Putting a dimension's own formula is told. -/
theorem put_self {f : List C} {i : Int} (hd : dimI i = true) (hl : f.length ≤ 64) : (putF f i [dimC i]).2 = 0 := by
  have hok : [dimC i].all ok = true := by rw [List.all_cons, ok_dim hd]; rfl
  refine foldE_toldN (fun n b => b.length ≤ n ∧ b.all ok = true) 64 f 0 [] (by omega) (fun n b c _ hn hb => ?_) ⟨by simp, rfl⟩
  have hA : (putA i [dimC i] c).2 = 0 ∧ (putA i [dimC i] c).1.length ≤ 1 := by
    unfold putA
    split
    · unfold H.meetF
      have hl : (meets [woC c i] [dimC i]).length = 1 := by rw [length_meets]; rfl
      exact ⟨least_told' (ok_meets (by rw [List.all_cons, woC_ok hd]; rfl) hok) (by omega), by have := least_len' (meets [woC c i] [dimC i]); omega⟩
    · exact ⟨rfl, Nat.le_refl _⟩
  have hB : (putB i [dimC i] c).2 = 0 ∧ (putB i [dimC i] c).1.length ≤ 1 := by
    have e1 : (H.notF [dimC i]).1 = [(0, H.one i.toNat)] := by rw [not_dim hd]
    have e2 : (H.notF [dimC i]).2 = 0 := by rw [not_dim hd]
    unfold putB
    rw [if_pos hA.1]
    split
    · rw [e1]
      unfold H.meetF
      have hl : (meets (putA i [dimC i] c).1 [(0, H.one i.toNat)]).length ≤ 1 := by rw [length_meets]; simp; exact hA.2
      have h1 := (putA_facts hd hok c).1
      have h2 : [((0 : UInt32), H.one i.toNat)].all ok = true := by
        have := (notF_facts hok (by rw [not_dim hd])).1
        rw [not_dim hd] at this
        exact ok_of_right this
      exact ⟨least_told' (ok_meets h1 h2) (by omega), by have := least_len' (meets (putA i [dimC i] c).1 [(0, H.one i.toNat)]); omega⟩
    · exact hA
  obtain ⟨b1, b2⟩ := hB
  have b3 := (putB_facts hd hok c).1
  unfold putStep
  rw [if_pos b1]
  unfold H.joinF
  have ht : (least (b ++ (putB i [dimC i] c).1)).2 = 0 := least_told' (by rw [ok_append, hb.2, b3]; rfl) (by rw [List.length_append]; omega)
  exact ⟨ht, by have := least_len' (b ++ (putB i [dimC i] c).1); rw [List.length_append] at this; omega, ok_least ht⟩
/-- Where a dimension is not: nothing brings it back. -/
def freeI (i : Int) (l : List C) : Prop := ∀ c ∈ l, hasI c.1 i = false ∧ hasI c.2 i = false
theorem hasI_or (x y : UInt32) (i : Int) : hasI (x ||| y) i = (hasI x i || hasI y i) := by
  cases hd : dimI i
  · rw [hasI_none hd, hasI_none hd, hasI_none hd]; rfl
  · rw [hasI_eq hd, hasI_eq hd, hasI_eq hd, tb_or]
theorem freeI_least {i : Int} {l : List C} (h : freeI i l) : freeI i (least l).1 := fun c hc => by
  by_cases h0 : (least l).2 = 0
  · exact h c (least_sub' h0 hc)
  · rw [least_none h0] at hc
    cases hc
theorem freeI_meets {i : Int} {f g : List C} (hf : freeI i f) (hg : freeI i g) : freeI i (meets f g) := fun c hc => by
  obtain ⟨a, ha, b, hb, rfl⟩ := mem_meets.1 hc
  obtain ⟨a1, a2⟩ := hf a ha
  obtain ⟨b1, b2⟩ := hg b hb
  show hasI (a.1 ||| b.1) i = false ∧ hasI (a.2 ||| b.2) i = false
  rw [hasI_or, hasI_or, a1, a2, b1, b2]
  exact ⟨rfl, rfl⟩
theorem freeI_opps {i : Int} (hd : dimI i = true) {c : C} (h1 : hasI c.1 i = false) (h2 : hasI c.2 i = false) : freeI i (opps c) := fun d hd' => by
  have h24 := of_decide_eq_true hd
  rw [hasI_eq hd] at h1 h2
  have hz : hasI 0 i = false := by rw [hasI_eq hd, tb_zero]
  have ho : ∀ j, j < 24 → ¬ j = i.toNat → hasI (H.one j) i = false := fun j hj hne => by rw [hasI_eq hd, tb_one (by omega)]; simp [hne]
  unfold opps at hd'
  rcases List.mem_append.1 hd' with h | h
  · obtain ⟨j, hj, rfl⟩ := List.mem_map.1 h
    obtain ⟨j1, j2⟩ := mem_dims.1 hj
    exact ⟨hz, ho j j1 (fun e => by rw [e, h1] at j2; cases j2)⟩
  · obtain ⟨j, hj, rfl⟩ := List.mem_map.1 h
    obtain ⟨j1, j2⟩ := mem_dims.1 hj
    exact ⟨ho j j1 (fun e => by rw [e, h2] at j2; cases j2), hz⟩
theorem freeI_not {i : Int} (hd : dimI i = true) {r : List C} (hr : freeI i r) : freeI i (H.notF r).1 := by
  by_cases h0 : (H.notF r).2 = 0
  · refine foldE_keep (fun b => freeI i b) r [top] (fun b c hc hb _ => ?_) ?_ h0
    · rw [notStep_eq]
      exact freeI_least (freeI_meets hb (freeI_least (freeI_opps hd (hr c hc).1 (hr c hc).2)))
    · intro c hc
      rw [List.mem_singleton.1 hc]
      exact ⟨by rw [hasI_eq hd]; exact tb_zero _, by rw [hasI_eq hd]; exact tb_zero _⟩
  · rw [show (H.notF r).1 = [] from foldE_none _ _ _ _ h0]
    intro c hc
    cases hc
theorem freeI_put {i : Int} (hd : dimI i = true) {f r : List C} (hr : freeI i r) : freeI i (putF f i r).1 := by
  by_cases h0 : (putF f i r).2 = 0
  · refine foldE_keep (fun b => freeI i b) f [] (fun b c hc hb h1 => ?_) (fun c hc => by cases hc) h0
    have hA : freeI i (putA i r c).1 := by
      have hw : freeI i [woC c i] := fun d hd' => by rw [List.mem_singleton.1 hd']; exact woC_has hd c
      unfold putA
      split
      · exact freeI_least (freeI_meets hw hr)
      · exact hw
    have hB : freeI i (putB i r c).1 := by
      unfold putB
      split
      · split
        · split
          · exact freeI_least (freeI_meets hA (freeI_not hd hr))
          · intro c hc; cases hc
        · exact hA
      · intro c hc; cases hc
    unfold putStep at *
    split
    · refine freeI_least fun d hd' => ?_
      rcases List.mem_append.1 hd' with h | h
      · exact hb d h
      · exact hB d h
    · intro c hc; cases hc
  · rw [show (putF f i r).1 = [] from foldE_none _ _ _ _ h0]
    intro c hc
    cases hc
/-- Of a formula without the dimension nothing changes. -/
theorem put_free {f r : List C} {i : Int} (hf : H.right f = true) (hr : r.all ok = true) (hd : dimI i = true) (hn : freeI i f) (h : (putF f i r).2 = 0) : (putF f i r).1 = f := by
  obtain ⟨h1, h2⟩ := (putF_facts hd hr).2 h
  refine right_ext h1 hf fun x _ => ?_
  rw [h2]
  unfold E
  refine any_congr' fun c hc => ?_
  obtain ⟨c1, c2⟩ := hn c hc
  have hokc := List.all_eq_true.1 (ok_of_right hf) c hc
  unfold putSays
  rw [below_wo hd hokc x, c1, c2]
  simp
theorem put_self_eq {f : List C} {i : Int} (hf : H.right f = true) (hd : dimI i = true) : putF f i [dimC i] = (f, 0) := by
  have h0 := put_self (f := f) hd (len_of_right hf)
  have hok : [dimC i].all ok = true := by rw [List.all_cons, ok_dim hd]; rfl
  obtain ⟨h1, h2⟩ := (putF_facts hd hok).2 h0
  refine Prod.ext (right_ext h1 hf fun x _ => ?_) h0
  rw [h2]
  unfold E
  refine any_congr' fun c hc => ?_
  have h24 := of_decide_eq_true hd
  have hokc := List.all_eq_true.1 (ok_of_right hf) c hc
  unfold putSays
  rw [below_wo hd hokc x, E_dim hd, not_dim hd]
  unfold E
  rw [List.any_cons, List.any_nil, Bool.or_false, below_lit1 (by omega)]
end Go.Proofs.YtfbcgjkagdbckaaDoor
