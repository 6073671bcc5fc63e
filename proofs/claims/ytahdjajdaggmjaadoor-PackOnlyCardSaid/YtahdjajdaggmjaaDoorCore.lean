/-
PLAIN LAW: clauses as pairs of 32-bit words; what Least tells, by its members and its order; formulas by what they say of a clause. No program in sight.
-/
namespace Go.Proofs.YtahdjajdaggmjaaDoor.H

abbrev C := UInt32 × UInt32

def r1 (s : UInt32) : Bool := decide (s.toNat < 16777216)
def ok (c : C) : Bool := r1 c.1 && r1 c.2
def meet (a b : C) : C := (a.1 ||| b.1, a.2 ||| b.2)
def below (a b : C) : Bool := decide (meet a b = a)
def clash (c : C) : Bool := decide (c.1 &&& c.2 ≠ 0)
def ltC (a b : C) : Bool := decide (a.1.toNat < b.1.toNat ∨ a.1 = b.1 ∧ a.2.toNat < b.2.toNat)

/-! ### Order of clauses -/
theorem ltC_irrefl (a : C) : ltC a a = false := by simp [ltC]
theorem ltC_trans {a b c : C} (h1 : ltC a b = true) (h2 : ltC b c = true) : ltC a c = true := by
  simp only [ltC, decide_eq_true_eq] at *
  rcases h1 with h1 | ⟨h1, h1'⟩ <;> rcases h2 with h2 | ⟨h2, h2'⟩
  · left; omega
  · left; rw [← h2]; exact h1
  · left; rw [h1]; exact h2
  · right; exact ⟨h1.trans h2, by omega⟩
theorem ltC_total {a b : C} (h : a ≠ b) : ltC a b = true ∨ ltC b a = true := by
  simp only [ltC, decide_eq_true_eq]
  by_cases h1 : a.1 = b.1
  · by_cases h2 : a.2 = b.2
    · exact absurd (Prod.ext h1 h2) h
    · have : a.2.toNat ≠ b.2.toNat := fun e => h2 (UInt32.toNat_inj.1 e)
      rcases Nat.lt_or_gt_of_ne this with h3 | h3
      · left; right; exact ⟨h1, h3⟩
      · right; right; exact ⟨h1.symm, h3⟩
  · have : a.1.toNat ≠ b.1.toNat := fun e => h1 (UInt32.toNat_inj.1 e)
    rcases Nat.lt_or_gt_of_ne this with h3 | h3
    · left; left; exact h3
    · right; left; exact h3
theorem ltC_asymm {a b : C} (h : ltC a b = true) : ltC b a = false := by
  cases hb : ltC b a
  · rfl
  · have := ltC_trans h hb
    rw [ltC_irrefl] at this
    cases this

def Sorted (l : List C) : Prop := l.Pairwise fun a b => ltC a b = true

theorem sorted_unique : ∀ {l m : List C}, Sorted l → Sorted m → (∀ c, c ∈ l ↔ c ∈ m) → l = m
  | [], [], _, _, _ => rfl
  | [], b :: m, _, _, h => absurd ((h b).2 (by simp)) (by simp)
  | a :: l, [], _, _, h => absurd ((h a).1 (by simp)) (by simp)
  | a :: l, b :: m, hl, hm, h => by
    obtain ⟨ha, hl'⟩ := List.pairwise_cons.1 hl
    obtain ⟨hb, hm'⟩ := List.pairwise_cons.1 hm
    have hab : a = b := by
      by_cases e : a = b
      · exact e
      · have h1 : a ∈ m := by
          have := (h a).1 (by simp)
          rcases List.mem_cons.1 this with h' | h'
          · exact absurd h' e
          · exact h'
        have h2 : b ∈ l := by
          have := (h b).2 (by simp)
          rcases List.mem_cons.1 this with h' | h'
          · exact absurd h'.symm e
          · exact h'
        have h3 := hb a h1
        have h4 := ha b h2
        rw [ltC_asymm h3] at h4
        cases h4
    subst hab
    have hla : a ∉ l := fun hx => by have := ha a hx; rw [ltC_irrefl] at this; cases this
    have hma : a ∉ m := fun hx => by have := hb a hx; rw [ltC_irrefl] at this; cases this
    congr 1
    refine sorted_unique hl' hm' fun c => ⟨fun hc => ?_, fun hc => ?_⟩
    · rcases List.mem_cons.1 ((h c).1 (List.mem_cons_of_mem _ hc)) with e | e
      · subst e; exact absurd hc hla
      · exact e
    · rcases List.mem_cons.1 ((h c).2 (List.mem_cons_of_mem _ hc)) with e | e
      · subst e; exact absurd hc hma
      · exact e

/-! ### The program's Least -/
def dd (l : List C) : List C := l.foldl (fun out c => if c ∈ out then out else out ++ [c]) []
theorem dd_snoc (l : List C) (c : C) : dd (l ++ [c]) = if c ∈ dd l then dd l else dd l ++ [c] := by unfold dd; rw [List.foldl_append]; rfl
theorem dd_nil : dd [] = [] := rfl
theorem dd_take_succ (l : List C) (k : Nat) (h : k < l.length) : dd (l.take (k + 1)) = if l[k] ∈ dd (l.take k) then dd (l.take k) else dd (l.take k) ++ [l[k]] := by
  rw [List.take_succ_eq_append_getElem h, dd_snoc]
theorem dd_facts (l : List C) : (∀ c, c ∈ dd l ↔ c ∈ l) ∧ (dd l).Nodup ∧ (dd l).length ≤ l.length := by
  have key : ∀ n, ∀ l : List C, l.length = n → (∀ c, c ∈ dd l ↔ c ∈ l) ∧ (dd l).Nodup ∧ (dd l).length ≤ l.length := by
    intro n
    induction n with
    | zero => intro l hl; obtain rfl := List.eq_nil_of_length_eq_zero hl; simp [dd_nil]
    | succ n ih =>
      intro l hl
      have hne : l ≠ [] := by intro e; subst e; simp at hl
      obtain ⟨p, c, rfl⟩ : ∃ p c, l = p ++ [c] := ⟨l.dropLast, l.getLast hne, (List.dropLast_concat_getLast hne).symm⟩
      obtain ⟨h1, h2, h3⟩ := ih p (by simp at hl; exact hl)
      rw [dd_snoc]
      split
      · rename_i hc
        refine ⟨fun d => ?_, h2, by simp; omega⟩
        rw [h1]
        simp only [List.mem_append, List.mem_singleton]
        constructor
        · exact Or.inl
        · rintro (h | rfl)
          · exact h
          · exact (h1 _).1 hc
      · rename_i hc
        refine ⟨fun d => by simp [h1], ?_, by simp; omega⟩
        rw [List.nodup_append]
        refine ⟨h2, by simp, ?_⟩
        intro a ha b hb
        simp at hb
        subst hb
        exact fun e => hc (e ▸ ha)
  exact key l.length l rfl
theorem mem_dd {l : List C} {c : C} : c ∈ dd l ↔ c ∈ l := (dd_facts l).1 c
theorem nodup_dd (l : List C) : (dd l).Nodup := (dd_facts l).2.1
theorem length_dd (l : List C) : (dd l).length ≤ l.length := (dd_facts l).2.2

def needless (out : List C) (c : C) : Bool := out.any fun d => decide (c ≠ d) && below c d
def keep (l : List C) : List C := (dd l).filter fun c => !needless (dd l) c
def sortC (l : List C) : List C := l.mergeSort fun x y => !ltC y x
def least (l : List C) : List C × Int :=
  if l.all ok then (if (keep l).length ≤ 64 then (sortC (keep l), 0) else ([], 3)) else ([], 2)

theorem mem_keep {l : List C} {c : C} : c ∈ keep l ↔ c ∈ l ∧ ∀ d ∈ l, below c d = true → d = c := by
  unfold keep needless
  rw [List.mem_filter, mem_dd]
  constructor
  · rintro ⟨h, hn⟩
    refine ⟨h, fun d hd hb => ?_⟩
    simp only [Bool.not_eq_true', List.any_eq_false, mem_dd] at hn
    have := hn d hd
    simp only [hb, Bool.and_true, decide_eq_true_eq] at this
    exact Classical.byContradiction fun e => this fun e' => e e'.symm
  · rintro ⟨h, hn⟩
    refine ⟨h, ?_⟩
    simp only [Bool.not_eq_true', List.any_eq_false, mem_dd, Bool.and_eq_true, decide_eq_true_eq]
    rintro d hd ⟨hne, hb⟩
    exact hne (hn d hd hb).symm
theorem nodup_keep (l : List C) : (keep l).Nodup := (nodup_dd l).filter _
theorem mem_sortC {l : List C} {c : C} : c ∈ sortC l ↔ c ∈ l := (List.mergeSort_perm l _).mem_iff
theorem length_sortC (l : List C) : (sortC l).length = l.length := (List.mergeSort_perm l _).length_eq
theorem sorted_sortC {l : List C} (h : l.Nodup) : Sorted (sortC l) := by
  have hs : (sortC l).Pairwise fun x y => (!ltC y x) = true := by
    refine List.pairwise_mergeSort ?_ ?_ l
    · intro a b c h1 h2
      simp only [Bool.not_eq_true'] at *
      cases hc : ltC c a
      · rfl
      · exfalso
        by_cases e : b = a
        · subst e; rw [h2] at hc; cases hc
        · rcases ltC_total e with h3 | h3
          · rw [h1] at h3; cases h3
          · have := ltC_trans hc h3; rw [h2] at this; cases this
    · intro a b
      simp only [Bool.or_eq_true, Bool.not_eq_true']
      cases h1 : ltC b a
      · exact Or.inl rfl
      · exact Or.inr (ltC_asymm h1)
  have hn : (sortC l).Nodup := ((List.mergeSort_perm l _).nodup_iff).2 h
  refine (hs.and hn).imp ?_
  rintro a b ⟨h1, h2⟩
  simp only [Bool.not_eq_true'] at h1
  rcases ltC_total h2 with h3 | h3
  · exact h3
  · rw [h1] at h3; cases h3

/-- What Least tells, by its members and its order. -/
def IsLeast (l o : List C) : Prop := Sorted o ∧ ∀ c, c ∈ o ↔ c ∈ l ∧ ∀ d ∈ l, below c d = true → d = c
theorem IsLeast.unique {l o o' : List C} (h : IsLeast l o) (h' : IsLeast l o') : o = o' := sorted_unique h.1 h'.1 fun c => (h.2 c).trans (h'.2 c).symm
theorem isLeast_keep (l : List C) : IsLeast l (sortC (keep l)) := ⟨sorted_sortC (nodup_keep l), fun c => by rw [mem_sortC, mem_keep]⟩
/-- Three ways out. -/
theorem least_cases (l : List C) : (l.all ok = false ∧ least l = ([], 2)) ∨ (l.all ok = true ∧ 64 < (keep l).length ∧ least l = ([], 3)) ∨ (l.all ok = true ∧ (keep l).length ≤ 64 ∧ least l = (sortC (keep l), 0)) := by
  unfold least
  cases h : l.all ok
  · left; simp
  · right
    by_cases h2 : (keep l).length ≤ 64
    · right; simp [h2]
    · left; simp [h2]; omega

/-- Right: a formula in its one form. -/
def right (f : List C) : Bool := decide ((least f).2 = 0) && decide ((least f).1 = f)

/-! ### Bits -/
def tb (s : UInt32) (i : Nat) : Bool := s.toNat.testBit i
theorem tb_or (a b : UInt32) (i : Nat) : tb (a ||| b) i = (tb a i || tb b i) := by simp [tb, UInt32.toNat_or, Nat.testBit_or]
theorem tb_and (a b : UInt32) (i : Nat) : tb (a &&& b) i = (tb a i && tb b i) := by simp [tb, UInt32.toNat_and, Nat.testBit_and]
theorem tb_ext {a b : UInt32} (h : ∀ i, tb a i = tb b i) : a = b := UInt32.toNat_inj.1 (Nat.eq_of_testBit_eq h)
theorem tb_zero (i : Nat) : tb 0 i = false := by simp [tb]
/-! ### What a formula says of a clause -/
def E (f : List C) (c : C) : Bool := f.any (below c)
def meets (f g : List C) : List C := f.flatMap fun a => g.map (meet a)
/-! ### The reference's Least: sorted insertion -/
def needed (l : List C) (c : C) : Bool := !(l.any fun d => decide (d ≠ c) && below c d)
/-! ### Sets of dimensions -/
def one (i : Nat) : UInt32 := UInt32.ofNat (2 ^ i)
theorem tb_lt {s : UInt32} {i : Nat} (h : tb s i = true) : i < 32 := by
  unfold tb at h
  rcases Nat.lt_or_ge i 32 with h1 | h1
  · exact h1
  · rw [Nat.testBit_lt_two_pow] at h
    · cases h
    · have := s.toNat_lt
      exact Nat.lt_of_lt_of_le this (Nat.pow_le_pow_right (by omega) h1)
theorem r1_iff {s : UInt32} : r1 s = true ↔ ∀ i, tb s i = true → i < 24 := by
  unfold r1 tb
  rw [decide_eq_true_eq]
  constructor
  · intro h i hi
    rcases Nat.lt_or_ge i 24 with h1 | h1
    · exact h1
    · rw [Nat.testBit_lt_two_pow] at hi
      · cases hi
      · exact Nat.lt_of_lt_of_le (show s.toNat < 2 ^ 24 from h) (Nat.pow_le_pow_right (by omega) h1)
  · intro h
    show s.toNat < 2 ^ 24
    refine Nat.lt_pow_two_of_testBit _ fun i hi => ?_
    cases hb : s.toNat.testBit i
    · rfl
    · have := h i hb; omega
def dims (s : UInt32) : List Nat := (List.range 24).filter fun i => tb s i
/-! ### The opposite -/
def M24 : UInt32 := 16777215
theorem tb_M24 (i : Nat) : tb M24 i = decide (i < 24) := by
  show (2 ^ 24 - 1).testBit i = _
  rw [Nat.testBit_two_pow_sub_one]
theorem tb_not (a : UInt32) (i : Nat) : tb (~~~a) i = (decide (i < 32) && !tb a i) := by
  unfold tb
  rw [UInt32.toNat_not, show UInt32.size - 1 - a.toNat = 2 ^ 32 - (a.toNat + 1) by simp [UInt32.size], Nat.testBit_two_pow_sub_succ a.toNat_lt]
/-! ### Folding with refusals -/
end Go.Proofs.YtahdjajdaggmjaaDoor.H
