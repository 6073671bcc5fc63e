/-
PLAIN LAW: clauses as pairs of 32-bit words; what Least tells, by its members and its order; formulas by what they say of a clause. No program in sight.
-/
namespace Go.Proofs.YtfbcgjkagdbckaaDoor.H

abbrev C := UInt32 × UInt32

def r1 (s : UInt32) : Bool := decide (s.toNat < 16777216)
def ok (c : C) : Bool := r1 c.1 && r1 c.2
def meet (a b : C) : C := (a.1 ||| b.1, a.2 ||| b.2)
def below (a b : C) : Bool := decide (meet a b = a)
def clash (c : C) : Bool := decide (c.1 &&& c.2 ≠ 0)
def ltC (a b : C) : Bool := decide (a.1.toNat < b.1.toNat ∨ a.1 = b.1 ∧ a.2.toNat < b.2.toNat)

/-! ### Order of clauses -/
theorem ltC_irrefl (a : C) : ltC a a = false := by simp [ltC]
theorem ltC_trans {a b c : C} (h1 : ltC a b = true) (h2 : ltC b c = true) : ltC a c = true := by
  simp only [ltC, decide_eq_true_eq] at *
  rcases h1 with h1 | ⟨h1, h1'⟩ <;> rcases h2 with h2 | ⟨h2, h2'⟩
  · left; omega
  · left; rw [← h2]; exact h1
  · left; rw [h1]; exact h2
  · right; exact ⟨h1.trans h2, by omega⟩
theorem ltC_total {a b : C} (h : a ≠ b) : ltC a b = true ∨ ltC b a = true := by
  simp only [ltC, decide_eq_true_eq]
  by_cases h1 : a.1 = b.1
  · by_cases h2 : a.2 = b.2
    · exact absurd (Prod.ext h1 h2) h
    · have : a.2.toNat ≠ b.2.toNat := fun e => h2 (UInt32.toNat_inj.1 e)
      rcases Nat.lt_or_gt_of_ne this with h3 | h3
      · left; right; exact ⟨h1, h3⟩
      · right; right; exact ⟨h1.symm, h3⟩
  · have : a.1.toNat ≠ b.1.toNat := fun e => h1 (UInt32.toNat_inj.1 e)
    rcases Nat.lt_or_gt_of_ne this with h3 | h3
    · left; left; exact h3
    · right; left; exact h3
theorem ltC_asymm {a b : C} (h : ltC a b = true) : ltC b a = false := by
  cases hb : ltC b a
  · rfl
  · have := ltC_trans h hb
    rw [ltC_irrefl] at this
    cases this

def Sorted (l : List C) : Prop := l.Pairwise fun a b => ltC a b = true

theorem Sorted.nodup {l : List C} (h : Sorted l) : l.Nodup :=
  List.Pairwise.imp (fun {a b} (h : ltC a b = true) => fun e => by subst e; rw [ltC_irrefl] at h; cases h) h

theorem sorted_unique : ∀ {l m : List C}, Sorted l → Sorted m → (∀ c, c ∈ l ↔ c ∈ m) → l = m
  | [], [], _, _, _ => rfl
  | [], b :: m, _, _, h => absurd ((h b).2 (by simp)) (by simp)
  | a :: l, [], _, _, h => absurd ((h a).1 (by simp)) (by simp)
  | a :: l, b :: m, hl, hm, h => by
    obtain ⟨ha, hl'⟩ := List.pairwise_cons.1 hl
    obtain ⟨hb, hm'⟩ := List.pairwise_cons.1 hm
    have hab : a = b := by
      by_cases e : a = b
      · exact e
      · have h1 : a ∈ m := by
          have := (h a).1 (by simp)
          rcases List.mem_cons.1 this with h' | h'
          · exact absurd h' e
          · exact h'
        have h2 : b ∈ l := by
          have := (h b).2 (by simp)
          rcases List.mem_cons.1 this with h' | h'
          · exact absurd h'.symm e
          · exact h'
        have h3 := hb a h1
        have h4 := ha b h2
        rw [ltC_asymm h3] at h4
        cases h4
    subst hab
    have hla : a ∉ l := fun hx => by have := ha a hx; rw [ltC_irrefl] at this; cases this
    have hma : a ∉ m := fun hx => by have := hb a hx; rw [ltC_irrefl] at this; cases this
    congr 1
    refine sorted_unique hl' hm' fun c => ⟨fun hc => ?_, fun hc => ?_⟩
    · rcases List.mem_cons.1 ((h c).1 (List.mem_cons_of_mem _ hc)) with e | e
      · subst e; exact absurd hc hla
      · exact e
    · rcases List.mem_cons.1 ((h c).2 (List.mem_cons_of_mem _ hc)) with e | e
      · subst e; exact absurd hc hma
      · exact e

/-! ### The program's Least -/
def dd (l : List C) : List C := l.foldl (fun out c => if c ∈ out then out else out ++ [c]) []
theorem dd_snoc (l : List C) (c : C) : dd (l ++ [c]) = if c ∈ dd l then dd l else dd l ++ [c] := by unfold dd; rw [List.foldl_append]; rfl
theorem dd_nil : dd [] = [] := rfl
theorem dd_take_succ (l : List C) (k : Nat) (h : k < l.length) : dd (l.take (k + 1)) = if l[k] ∈ dd (l.take k) then dd (l.take k) else dd (l.take k) ++ [l[k]] := by
  rw [List.take_succ_eq_append_getElem h, dd_snoc]
theorem dd_facts (l : List C) : (∀ c, c ∈ dd l ↔ c ∈ l) ∧ (dd l).Nodup ∧ (dd l).length ≤ l.length := by
  have key : ∀ n, ∀ l : List C, l.length = n → (∀ c, c ∈ dd l ↔ c ∈ l) ∧ (dd l).Nodup ∧ (dd l).length ≤ l.length := by
    intro n
    induction n with
    | zero => intro l hl; obtain rfl := List.eq_nil_of_length_eq_zero hl; simp [dd_nil]
    | succ n ih =>
      intro l hl
      have hne : l ≠ [] := by intro e; subst e; simp at hl
      obtain ⟨p, c, rfl⟩ : ∃ p c, l = p ++ [c] := ⟨l.dropLast, l.getLast hne, (List.dropLast_concat_getLast hne).symm⟩
      obtain ⟨h1, h2, h3⟩ := ih p (by simp at hl; exact hl)
      rw [dd_snoc]
      split
      · rename_i hc
        refine ⟨fun d => ?_, h2, by simp; omega⟩
        rw [h1]
        simp only [List.mem_append, List.mem_singleton]
        constructor
        · exact Or.inl
        · rintro (h | rfl)
          · exact h
          · exact (h1 _).1 hc
      · rename_i hc
        refine ⟨fun d => by simp [h1], ?_, by simp; omega⟩
        rw [List.nodup_append]
        refine ⟨h2, by simp, ?_⟩
        intro a ha b hb
        simp at hb
        subst hb
        exact fun e => hc (e ▸ ha)
  exact key l.length l rfl
theorem mem_dd {l : List C} {c : C} : c ∈ dd l ↔ c ∈ l := (dd_facts l).1 c
theorem nodup_dd (l : List C) : (dd l).Nodup := (dd_facts l).2.1
theorem length_dd (l : List C) : (dd l).length ≤ l.length := (dd_facts l).2.2

def needless (out : List C) (c : C) : Bool := out.any fun d => decide (c ≠ d) && below c d
def keep (l : List C) : List C := (dd l).filter fun c => !needless (dd l) c
def sortC (l : List C) : List C := l.mergeSort fun x y => !ltC y x
def least (l : List C) : List C × Int :=
  if l.all ok then (if (keep l).length ≤ 64 then (sortC (keep l), 0) else ([], 3)) else ([], 2)

theorem mem_keep {l : List C} {c : C} : c ∈ keep l ↔ c ∈ l ∧ ∀ d ∈ l, below c d = true → d = c := by
  unfold keep needless
  rw [List.mem_filter, mem_dd]
  constructor
  · rintro ⟨h, hn⟩
    refine ⟨h, fun d hd hb => ?_⟩
    simp only [Bool.not_eq_true', List.any_eq_false, mem_dd] at hn
    have := hn d hd
    simp only [hb, Bool.and_true, decide_eq_true_eq] at this
    exact Classical.byContradiction fun e => this fun e' => e e'.symm
  · rintro ⟨h, hn⟩
    refine ⟨h, ?_⟩
    simp only [Bool.not_eq_true', List.any_eq_false, mem_dd, Bool.and_eq_true, decide_eq_true_eq]
    rintro d hd ⟨hne, hb⟩
    exact hne (hn d hd hb).symm
theorem nodup_keep (l : List C) : (keep l).Nodup := (nodup_dd l).filter _
theorem length_keep (l : List C) : (keep l).length ≤ l.length := Nat.le_trans (List.length_filter_le _ _) (length_dd l)

theorem mem_sortC {l : List C} {c : C} : c ∈ sortC l ↔ c ∈ l := (List.mergeSort_perm l _).mem_iff
theorem length_sortC (l : List C) : (sortC l).length = l.length := (List.mergeSort_perm l _).length_eq
theorem sorted_sortC {l : List C} (h : l.Nodup) : Sorted (sortC l) := by
  have hs : (sortC l).Pairwise fun x y => (!ltC y x) = true := by
    refine List.pairwise_mergeSort ?_ ?_ l
    · intro a b c h1 h2
      simp only [Bool.not_eq_true'] at *
      cases hc : ltC c a
      · rfl
      · exfalso
        by_cases e : b = a
        · subst e; rw [h2] at hc; cases hc
        · rcases ltC_total e with h3 | h3
          · rw [h1] at h3; cases h3
          · have := ltC_trans hc h3; rw [h2] at this; cases this
    · intro a b
      simp only [Bool.or_eq_true, Bool.not_eq_true']
      cases h1 : ltC b a
      · exact Or.inl rfl
      · exact Or.inr (ltC_asymm h1)
  have hn : (sortC l).Nodup := ((List.mergeSort_perm l _).nodup_iff).2 h
  refine (hs.and hn).imp ?_
  rintro a b ⟨h1, h2⟩
  simp only [Bool.not_eq_true'] at h1
  rcases ltC_total h2 with h3 | h3
  · exact h3
  · rw [h1] at h3; cases h3

/-- What Least tells, by its members and its order. -/
def IsLeast (l o : List C) : Prop := Sorted o ∧ ∀ c, c ∈ o ↔ c ∈ l ∧ ∀ d ∈ l, below c d = true → d = c
theorem IsLeast.unique {l o o' : List C} (h : IsLeast l o) (h' : IsLeast l o') : o = o' := sorted_unique h.1 h'.1 fun c => (h.2 c).trans (h'.2 c).symm
theorem isLeast_keep (l : List C) : IsLeast l (sortC (keep l)) := ⟨sorted_sortC (nodup_keep l), fun c => by rw [mem_sortC, mem_keep]⟩
/-- Least hangs on the set of clauses alone. -/
theorem sort_keep_congr {l m : List C} (h : ∀ c, c ∈ l ↔ c ∈ m) : sortC (keep l) = sortC (keep m) :=
  (isLeast_keep l).unique ⟨(isLeast_keep m).1, fun c => by
    rw [(isLeast_keep m).2 c]
    constructor
    · rintro ⟨h1, h2⟩; exact ⟨(h c).2 h1, fun d hd => h2 d ((h d).1 hd)⟩
    · rintro ⟨h1, h2⟩; exact ⟨(h c).1 h1, fun d hd => h2 d ((h d).2 hd)⟩⟩
theorem all_congr {l m : List C} (p : C → Bool) (h : ∀ c, c ∈ l ↔ c ∈ m) : l.all p = m.all p := by
  rw [Bool.eq_iff_iff, List.all_eq_true, List.all_eq_true]
  exact ⟨fun g c hc => g c ((h c).2 hc), fun g c hc => g c ((h c).1 hc)⟩
theorem least_congr {l m : List C} (h : ∀ c, c ∈ l ↔ c ∈ m) : least l = least m := by
  have h1 := sort_keep_congr h
  have h2 : (keep l).length = (keep m).length := by rw [← length_sortC, h1, length_sortC]
  simp only [least, all_congr ok h, h1, h2]

/-- Three ways out. -/
theorem least_cases (l : List C) : (l.all ok = false ∧ least l = ([], 2)) ∨ (l.all ok = true ∧ 64 < (keep l).length ∧ least l = ([], 3)) ∨ (l.all ok = true ∧ (keep l).length ≤ 64 ∧ least l = (sortC (keep l), 0)) := by
  unfold least
  cases h : l.all ok
  · left; simp
  · right
    by_cases h2 : (keep l).length ≤ 64
    · right; simp [h2]
    · left; simp [h2]; omega

/-- Right: a formula in its one form. -/
def right (f : List C) : Bool := decide ((least f).2 = 0) && decide ((least f).1 = f)

theorem right_iff {f : List C} : right f = true ↔ f.all ok = true ∧ f.length ≤ 64 ∧ IsLeast f f := by
  unfold right
  rcases least_cases f with ⟨h, e⟩ | ⟨h, h2, e⟩ | ⟨h, h2, e⟩
  · rw [e]; simp [h]
  · rw [e]
    simp only [Bool.and_eq_true, decide_eq_true_eq]
    constructor
    · rintro ⟨h3, _⟩; cases h3
    · rintro ⟨_, h3, h4⟩
      have := (isLeast_keep f).unique h4
      have h5 : (keep f).length = f.length := by rw [← length_sortC, this]
      omega
  · rw [e]
    simp only [Bool.and_eq_true, decide_eq_true_eq]
    constructor
    · rintro ⟨_, h3⟩
      refine ⟨h, ?_, ?_⟩
      · rw [← h3, length_sortC]; exact h2
      · have := isLeast_keep f; rw [h3] at this; exact this
    · rintro ⟨_, _, h4⟩
      exact ⟨trivial, (isLeast_keep f).unique h4⟩

/-- What Least tells is right. -/
theorem below_refl (a : C) : below a a = true := by simp [below, meet]
theorem below_iff {a b : C} : below a b = true ↔ a.1 ||| b.1 = a.1 ∧ a.2 ||| b.2 = a.2 := by
  simp [below, meet, Prod.ext_iff]
theorem isLeast_self {l o : List C} (h : IsLeast l o) : IsLeast o o := by
  refine ⟨h.1, fun c => ⟨fun hc => ⟨hc, fun d hd hb => ?_⟩, fun hc => hc.1⟩⟩
  exact ((h.2 c).1 hc).2 d ((h.2 d).1 hd).1 hb
theorem right_least {l : List C} (h : (least l).2 = 0) : right (least l).1 = true := by
  rcases least_cases l with ⟨h1, e⟩ | ⟨h1, h2, e⟩ | ⟨h1, h2, e⟩
  · rw [e] at h; cases h
  · rw [e] at h; cases h
  · rw [e, right_iff]
    refine ⟨?_, by rw [length_sortC]; exact h2, isLeast_self (isLeast_keep l)⟩
    rw [List.all_eq_true] at h1 ⊢
    intro c hc
    exact h1 c (((isLeast_keep l).2 c).1 hc).1


/-! ### Bits -/
def tb (s : UInt32) (i : Nat) : Bool := s.toNat.testBit i
theorem tb_or (a b : UInt32) (i : Nat) : tb (a ||| b) i = (tb a i || tb b i) := by simp [tb, UInt32.toNat_or, Nat.testBit_or]
theorem tb_and (a b : UInt32) (i : Nat) : tb (a &&& b) i = (tb a i && tb b i) := by simp [tb, UInt32.toNat_and, Nat.testBit_and]
theorem tb_ext {a b : UInt32} (h : ∀ i, tb a i = tb b i) : a = b := UInt32.toNat_inj.1 (Nat.eq_of_testBit_eq h)
theorem tb_zero (i : Nat) : tb 0 i = false := by simp [tb]
theorem or_eq_iff {a b : UInt32} : a ||| b = a ↔ ∀ i, tb b i = true → tb a i = true := by
  constructor
  · intro h i hb
    rw [← h, tb_or, hb, Bool.or_true]
  · intro h
    refine tb_ext fun i => ?_
    rw [tb_or]
    cases hb : tb b i
    · simp
    · rw [h i hb]; rfl
theorem below_bits {a b : C} : below a b = true ↔ (∀ i, tb b.1 i = true → tb a.1 i = true) ∧ (∀ i, tb b.2 i = true → tb a.2 i = true) := by
  rw [below_iff, or_eq_iff, or_eq_iff]
theorem below_trans {a b c : C} (h1 : below a b = true) (h2 : below b c = true) : below a c = true := by
  rw [below_bits] at *
  exact ⟨fun i h => h1.1 i (h2.1 i h), fun i h => h1.2 i (h2.2 i h)⟩
theorem below_antisymm {a b : C} (h1 : below a b = true) (h2 : below b a = true) : a = b := by
  rw [below_bits] at *
  refine Prod.ext (tb_ext fun i => ?_) (tb_ext fun i => ?_)
  · rw [Bool.eq_iff_iff]; exact ⟨h2.1 i, h1.1 i⟩
  · rw [Bool.eq_iff_iff]; exact ⟨h2.2 i, h1.2 i⟩
theorem below_meet {c a b : C} : below c (meet a b) = true ↔ below c a = true ∧ below c b = true := by
  simp only [below_bits, meet, tb_or, Bool.or_eq_true]
  constructor
  · rintro ⟨h1, h2⟩
    exact ⟨⟨fun i h => h1 i (.inl h), fun i h => h2 i (.inl h)⟩, ⟨fun i h => h1 i (.inr h), fun i h => h2 i (.inr h)⟩⟩
  · rintro ⟨⟨h1, h2⟩, h3, h4⟩
    exact ⟨fun i h => h.elim (h1 i) (h3 i), fun i h => h.elim (h2 i) (h4 i)⟩
theorem le_of_or {a b : UInt32} (h : a ||| b = a) : b.toNat ≤ a.toNat := by
  have := congrArg UInt32.toNat h
  rw [UInt32.toNat_or] at this
  rw [← this]
  exact Nat.right_le_or
theorem below_le {a b : C} (h : below a b = true) : b.1.toNat ≤ a.1.toNat ∧ b.2.toNat ≤ a.2.toNat := by
  rw [below_iff] at h
  exact ⟨le_of_or h.1, le_of_or h.2⟩
theorem below_lt {a b : C} (h : below a b = true) (hne : b ≠ a) : b.1.toNat + b.2.toNat < a.1.toNat + a.2.toNat := by
  obtain ⟨h1, h2⟩ := below_le h
  rcases Nat.lt_or_ge (b.1.toNat + b.2.toNat) (a.1.toNat + a.2.toNat) with h3 | h3
  · exact h3
  · exact absurd (Prod.ext (UInt32.toNat_inj.1 (by omega)) (UInt32.toNat_inj.1 (by omega))) hne

/-! ### What a formula says of a clause -/
def E (f : List C) (c : C) : Bool := f.any (below c)
theorem E_iff {f : List C} {c : C} : E f c = true ↔ ∃ d ∈ f, below c d = true := by simp [E]
theorem E_mono {f : List C} {c d : C} (h : below c d = true) (hd : E f d = true) : E f c = true := by
  rw [E_iff] at *
  obtain ⟨e, he, hb⟩ := hd
  exact ⟨e, he, below_trans h hb⟩
theorem E_self {f : List C} {c : C} (h : c ∈ f) : E f c = true := E_iff.2 ⟨c, h, below_refl c⟩
theorem E_append (f g : List C) (c : C) : E (f ++ g) c = (E f c || E g c) := by simp [E]
def meets (f g : List C) : List C := f.flatMap fun a => g.map (meet a)
theorem E_meets (f g : List C) (c : C) : E (meets f g) c = (E f c && E g c) := by
  rw [Bool.eq_iff_iff, Bool.and_eq_true, E_iff, E_iff, E_iff]
  unfold meets
  constructor
  · rintro ⟨d, hd, hb⟩
    obtain ⟨a, ha, hd⟩ := List.mem_flatMap.1 hd
    obtain ⟨b, hb', rfl⟩ := List.mem_map.1 hd
    obtain ⟨h1, h2⟩ := below_meet.1 hb
    exact ⟨⟨a, ha, h1⟩, ⟨b, hb', h2⟩⟩
  · rintro ⟨⟨a, ha, h1⟩, ⟨b, hb', h2⟩⟩
    exact ⟨meet a b, List.mem_flatMap.2 ⟨a, ha, List.mem_map.2 ⟨b, hb', rfl⟩⟩, below_meet.2 ⟨h1, h2⟩⟩
theorem exists_top (l : List C) : ∀ (n : Nat) (d : C), d.1.toNat + d.2.toNat ≤ n → d ∈ l → ∃ e ∈ l, below d e = true ∧ ∀ x ∈ l, below e x = true → x = e := by
  intro n
  induction n with
  | zero =>
    intro d hn hd
    refine ⟨d, hd, below_refl d, fun x _ hb => ?_⟩
    exact Classical.byContradiction fun e => by have := below_lt hb e; omega
  | succ n ih =>
    intro d hn hd
    by_cases h : ∀ x ∈ l, below d x = true → x = d
    · exact ⟨d, hd, below_refl d, h⟩
    · obtain ⟨x, hx⟩ := Classical.not_forall.1 h
      obtain ⟨hx1, hx2⟩ := Classical.not_imp.1 hx
      obtain ⟨hx2, hx3⟩ := Classical.not_imp.1 hx2
      have := below_lt hx2 hx3
      obtain ⟨e, he, hb, hm⟩ := ih x (by omega) hx1
      exact ⟨e, he, below_trans hx2 hb, hm⟩
theorem E_isLeast {l o : List C} (h : IsLeast l o) (c : C) : E o c = E l c := by
  rw [Bool.eq_iff_iff, E_iff, E_iff]
  constructor
  · rintro ⟨d, hd, hb⟩
    exact ⟨d, ((h.2 d).1 hd).1, hb⟩
  · rintro ⟨d, hd, hb⟩
    obtain ⟨e, he, hde, hm⟩ := exists_top l _ d (Nat.le_refl _) hd
    exact ⟨e, (h.2 e).2 ⟨he, hm⟩, below_trans hb hde⟩
theorem least_ok {l : List C} (h : (least l).2 = 0) : least l = (sortC (keep l), 0) := by
  rcases least_cases l with ⟨h1, e⟩ | ⟨h1, h2, e⟩ | ⟨h1, h2, e⟩
  · rw [e] at h; cases h
  · rw [e] at h; cases h
  · exact e
theorem E_least {l : List C} (h : (least l).2 = 0) (c : C) : E (least l).1 c = E l c := by
  rw [least_ok h]
  exact E_isLeast (isLeast_keep l) c
/-- Two right formulas that say the same are one. -/
theorem right_ext {f g : List C} (hf : right f = true) (hg : right g = true) (h : ∀ c, ok c = true → E f c = E g c) : f = g := by
  obtain ⟨of, _, lf⟩ := right_iff.1 hf
  obtain ⟨og, _, lg⟩ := right_iff.1 hg
  have key : ∀ {f g : List C}, f.all ok = true → IsLeast f f → g.all ok = true → IsLeast g g → (∀ c, ok c = true → E f c = E g c) → ∀ c, c ∈ f → c ∈ g := by
    intro f g of lf og lg h c hc
    have hok : ok c = true := List.all_eq_true.1 of c hc
    have h1 : E g c = true := (h c hok) ▸ E_self hc
    obtain ⟨d, hd, hb⟩ := E_iff.1 h1
    have hokd : ok d = true := List.all_eq_true.1 og d hd
    have h2 : E f d = true := (h d hokd).symm ▸ E_self hd
    obtain ⟨e, he, hb2⟩ := E_iff.1 h2
    have : e = c := ((lf.2 c).1 hc).2 e he (below_trans hb hb2)
    subst this
    have := below_antisymm hb hb2
    rw [this]; exact hd
  exact sorted_unique lf.1 lg.1 fun c => ⟨key of lf og lg h c, key og lg of lf (fun c hc => (h c hc).symm) c⟩
/-! ### The reference's Least: sorted insertion -/
def insAt : List C → C → Nat
  | [], _ => 0
  | x :: r, c => if ltC x c = true then insAt r c + 1 else 0
def ins (out : List C) (c : C) : List C := if out[insAt out c]? = some c then out else out.take (insAt out c) ++ c :: out.drop (insAt out c)
def needed (l : List C) (c : C) : Bool := !(l.any fun d => decide (d ≠ c) && below c d)
def insAll (l : List C) (p : List C) : List C := p.foldl (fun out c => if needed l c = true then ins out c else out) []
def leastR (l : List C) : List C × Int := if l.all ok then (if (insAll l l).length ≤ 64 then (insAll l l, 0) else ([], 3)) else ([], 2)

theorem ins_cons (x : C) (r : List C) (c : C) : ins (x :: r) c = if ltC x c = true then x :: ins r c else if x = c then x :: r else c :: x :: r := by
  have e : insAt (x :: r) c = if ltC x c = true then insAt r c + 1 else 0 := rfl
  unfold ins
  rw [e]
  split
  · rw [List.getElem?_cons_succ, List.take_succ_cons, List.drop_succ_cons]
    by_cases h : r[insAt r c]? = some c
    · rw [if_pos h, if_pos h]
    · rw [if_neg h, if_neg h]; rfl
  · simp only [List.getElem?_cons_zero, Option.some.injEq, List.take_zero, List.drop_zero, List.nil_append]
theorem ins_nil (c : C) : ins [] c = [c] := by simp [ins, insAt]
theorem mem_ins : ∀ {out : List C} {c d : C}, d ∈ ins out c ↔ d = c ∨ d ∈ out
  | [], c, d => by simp [ins_nil]
  | x :: r, c, d => by
    rw [ins_cons]
    split
    · rw [List.mem_cons, mem_ins, List.mem_cons]
      constructor
      · rintro (h | h | h) <;> simp [h]
      · rintro (h | h | h) <;> simp [h]
    · split
      · rename_i e
        subst e
        simp [List.mem_cons]
      · simp [List.mem_cons]
theorem sorted_ins : ∀ {out : List C} {c : C}, Sorted out → Sorted (ins out c)
  | [], c, _ => by rw [ins_nil]; exact List.pairwise_singleton _ _
  | x :: r, c, h => by
    obtain ⟨hx, hr⟩ := List.pairwise_cons.1 h
    rw [ins_cons]
    split
    · rename_i hlt
      refine List.pairwise_cons.2 ⟨fun d hd => ?_, sorted_ins hr⟩
      rcases mem_ins.1 hd with rfl | hd
      · exact hlt
      · exact hx d hd
    · rename_i hlt
      split
      · exact h
      · rename_i hne
        have hcx : ltC c x = true := by
          rcases ltC_total hne with h1 | h1
          · exact absurd h1 hlt
          · exact h1
        refine List.pairwise_cons.2 ⟨fun d hd => ?_, h⟩
        rcases List.mem_cons.1 hd with rfl | hd
        · exact hcx
        · exact ltC_trans hcx (hx d hd)
theorem insAll_snoc (l p : List C) (c : C) : insAll l (p ++ [c]) = if needed l c = true then ins (insAll l p) c else insAll l p := by unfold insAll; rw [List.foldl_append]; rfl
theorem insAll_nil (l : List C) : insAll l [] = [] := rfl
theorem insAll_take_succ (l : List C) (k : Nat) (h : k < l.length) : insAll l (l.take (k + 1)) = if needed l l[k] = true then ins (insAll l (l.take k)) l[k] else insAll l (l.take k) := by
  rw [List.take_succ_eq_append_getElem h, insAll_snoc]
theorem insAll_facts (l p : List C) : Sorted (insAll l p) ∧ (∀ c, c ∈ insAll l p ↔ c ∈ p ∧ needed l c = true) := by
  have key : ∀ n, ∀ p : List C, p.length = n → Sorted (insAll l p) ∧ (∀ c, c ∈ insAll l p ↔ c ∈ p ∧ needed l c = true) := by
    intro n
    induction n with
    | zero => intro p hl; obtain rfl := List.eq_nil_of_length_eq_zero hl; exact ⟨List.Pairwise.nil, by simp [insAll_nil]⟩
    | succ n ih =>
      intro p hl
      have hne : p ≠ [] := by intro e; subst e; simp at hl
      obtain ⟨q, c, rfl⟩ : ∃ q c, p = q ++ [c] := ⟨p.dropLast, p.getLast hne, (List.dropLast_concat_getLast hne).symm⟩
      obtain ⟨h1, h2⟩ := ih q (by simp at hl; exact hl)
      rw [insAll_snoc]
      split
      · rename_i hc
        refine ⟨sorted_ins h1, fun d => ?_⟩
        rw [mem_ins, h2]
        simp only [List.mem_append, List.mem_singleton]
        constructor
        · rintro (rfl | ⟨h3, h4⟩)
          · exact ⟨.inr rfl, hc⟩
          · exact ⟨.inl h3, h4⟩
        · rintro ⟨h3 | rfl, h4⟩
          · exact .inr ⟨h3, h4⟩
          · exact .inl rfl
      · rename_i hc
        refine ⟨h1, fun d => ?_⟩
        rw [h2]
        simp only [List.mem_append, List.mem_singleton]
        constructor
        · rintro ⟨h3, h4⟩; exact ⟨.inl h3, h4⟩
        · rintro ⟨h3 | rfl, h4⟩
          · exact ⟨h3, h4⟩
          · exact absurd h4 hc
  exact key p.length p rfl
theorem length_ins (out : List C) (c : C) : (ins out c).length ≤ out.length + 1 := by
  unfold ins
  split
  · omega
  · simp; omega
theorem length_insAll (l p : List C) : (insAll l p).length ≤ p.length := by
  have key : ∀ n, ∀ p : List C, p.length = n → (insAll l p).length ≤ n := by
    intro n
    induction n with
    | zero => intro p hl; obtain rfl := List.eq_nil_of_length_eq_zero hl; simp [insAll_nil]
    | succ n ih =>
      intro p hl
      have hne : p ≠ [] := by intro e; subst e; simp at hl
      obtain ⟨q, c, rfl⟩ : ∃ q c, p = q ++ [c] := ⟨p.dropLast, p.getLast hne, (List.dropLast_concat_getLast hne).symm⟩
      have := ih q (by simp at hl; exact hl)
      rw [insAll_snoc]
      split
      · have := length_ins (insAll l q) c; omega
      · omega
  exact key p.length p rfl
theorem needed_iff {l : List C} {c : C} : needed l c = true ↔ ∀ d ∈ l, below c d = true → d = c := by
  unfold needed
  simp only [Bool.not_eq_true', List.any_eq_false, Bool.and_eq_true, decide_eq_true_eq]
  constructor
  · intro h d hd hb
    exact Classical.byContradiction fun e => h d hd ⟨e, hb⟩
  · rintro h d hd ⟨hne, hb⟩
    exact hne (h d hd hb)
theorem isLeast_insAll (l : List C) : IsLeast l (insAll l l) := ⟨(insAll_facts l l).1, fun c => by rw [(insAll_facts l l).2, needed_iff]⟩
theorem leastR_eq (l : List C) : leastR l = least l := by
  have h := (isLeast_insAll l).unique (isLeast_keep l)
  unfold leastR least
  rw [h, length_sortC]
/-! ### Sets of dimensions -/
def one (i : Nat) : UInt32 := UInt32.ofNat (2 ^ i)
theorem toNat_one {i : Nat} (h : i < 32) : (one i).toNat = 2 ^ i := by
  unfold one
  rw [UInt32.toNat_ofNat']
  exact Nat.mod_eq_of_lt (Nat.pow_lt_pow_right (by omega) h)
theorem tb_one {i : Nat} (h : i < 32) (j : Nat) : tb (one i) j = decide (i = j) := by
  unfold tb
  rw [toNat_one h, Nat.testBit_two_pow]
theorem tb_lt {s : UInt32} {i : Nat} (h : tb s i = true) : i < 32 := by
  unfold tb at h
  rcases Nat.lt_or_ge i 32 with h1 | h1
  · exact h1
  · rw [Nat.testBit_lt_two_pow] at h
    · cases h
    · have := s.toNat_lt
      exact Nat.lt_of_lt_of_le this (Nat.pow_le_pow_right (by omega) h1)
theorem r1_iff {s : UInt32} : r1 s = true ↔ ∀ i, tb s i = true → i < 24 := by
  unfold r1 tb
  rw [decide_eq_true_eq]
  constructor
  · intro h i hi
    rcases Nat.lt_or_ge i 24 with h1 | h1
    · exact h1
    · rw [Nat.testBit_lt_two_pow] at hi
      · cases hi
      · exact Nat.lt_of_lt_of_le (show s.toNat < 2 ^ 24 from h) (Nat.pow_le_pow_right (by omega) h1)
  · intro h
    show s.toNat < 2 ^ 24
    refine Nat.lt_pow_two_of_testBit _ fun i hi => ?_
    cases hb : s.toNat.testBit i
    · rfl
    · have := h i hb; omega
def dims (s : UInt32) : List Nat := (List.range 24).filter fun i => tb s i
theorem mem_dims {s : UInt32} {i : Nat} : i ∈ dims s ↔ i < 24 ∧ tb s i = true := by simp [dims]
theorem length_dims (s : UInt32) : (dims s).length ≤ 24 := by
  have := List.length_filter_le (fun i => tb s i) (List.range 24)
  simpa [dims] using this
theorem r1_one {i : Nat} (h : i < 24) : r1 (one i) = true := by
  rw [r1_iff]
  intro j hj
  rw [tb_one (by omega), decide_eq_true_eq] at hj
  omega
theorem r1_zero : r1 0 = true := by decide
theorem r1_or {a b : UInt32} : r1 (a ||| b) = (r1 a && r1 b) := by
  rw [Bool.eq_iff_iff, Bool.and_eq_true, r1_iff, r1_iff, r1_iff]
  constructor
  · intro h
    exact ⟨fun i hi => h i (by rw [tb_or, hi]; rfl), fun i hi => h i (by rw [tb_or, hi, Bool.or_true])⟩
  · rintro ⟨h1, h2⟩ i hi
    rw [tb_or, Bool.or_eq_true] at hi
    exact hi.elim (h1 i) (h2 i)
theorem ok_meet {a b : C} : ok (meet a b) = (ok a && ok b) := by
  unfold ok meet
  simp only [r1_or]
  cases r1 a.1 <;> cases r1 a.2 <;> cases r1 b.1 <;> cases r1 b.2 <;> rfl
theorem ok_meets {f g : List C} (hf : f.all ok = true) (hg : g.all ok = true) : (meets f g).all ok = true := by
  rw [List.all_eq_true] at *
  intro c hc
  obtain ⟨a, ha, hc⟩ := List.mem_flatMap.1 hc
  obtain ⟨b, hb, rfl⟩ := List.mem_map.1 hc
  rw [ok_meet, hf a ha, hg b hb]
  rfl
theorem ok_append {f g : List C} : (f ++ g).all ok = (f.all ok && g.all ok) := List.all_append

/-! ### The opposite -/
def opps (c : C) : List C := (dims c.1).map (fun i => (0, one i)) ++ (dims c.2).map (fun i => (one i, 0))
theorem ok_opps (c : C) : (opps c).all ok = true := by
  rw [List.all_eq_true]
  intro d hd
  unfold opps at hd
  rcases List.mem_append.1 hd with h | h
  · obtain ⟨i, hi, rfl⟩ := List.mem_map.1 h
    have h1 : r1 (one i) = true := r1_one (mem_dims.1 hi).1
    show (r1 0 && r1 (one i)) = true
    rw [h1, r1_zero]; rfl
  · obtain ⟨i, hi, rfl⟩ := List.mem_map.1 h
    have h1 : r1 (one i) = true := r1_one (mem_dims.1 hi).1
    show (r1 (one i) && r1 0) = true
    rw [h1, r1_zero]; rfl
theorem opps_told (c : C) : (least (opps c)).2 = 0 := by
  rcases least_cases (opps c) with ⟨h, e⟩ | ⟨_, h, e⟩ | ⟨_, _, e⟩
  · rw [ok_opps] at h; cases h
  · have h1 := length_keep (opps c)
    have h2 : (opps c).length = (dims c.1).length + (dims c.2).length := by simp [opps]
    have h3 := length_dims c.1
    have h4 := length_dims c.2
    omega
  · rw [e]
def M24 : UInt32 := 16777215
theorem tb_M24 (i : Nat) : tb M24 i = decide (i < 24) := by
  show (2 ^ 24 - 1).testBit i = _
  rw [Nat.testBit_two_pow_sub_one]
theorem tb_not (a : UInt32) (i : Nat) : tb (~~~a) i = (decide (i < 32) && !tb a i) := by
  unfold tb
  rw [UInt32.toNat_not, show UInt32.size - 1 - a.toNat = 2 ^ 32 - (a.toNat + 1) by simp [UInt32.size], Nat.testBit_two_pow_sub_succ a.toNat_lt]
def dual (c : C) : C := (~~~c.2 &&& M24, ~~~c.1 &&& M24)
theorem tb_dual1 (c : C) (i : Nat) : tb (dual c).1 i = (decide (i < 24) && !tb c.2 i) := by
  unfold dual
  rw [tb_and, tb_not, tb_M24]
  by_cases h : i < 24
  · simp [h, show i < 32 by omega]
  · simp [h]
theorem tb_dual2 (c : C) (i : Nat) : tb (dual c).2 i = (decide (i < 24) && !tb c.1 i) := by
  unfold dual
  rw [tb_and, tb_not, tb_M24]
  by_cases h : i < 24
  · simp [h, show i < 32 by omega]
  · simp [h]
theorem ok_iff {c : C} : ok c = true ↔ (∀ i, tb c.1 i = true → i < 24) ∧ (∀ i, tb c.2 i = true → i < 24) := by
  unfold ok
  rw [Bool.and_eq_true, r1_iff, r1_iff]
theorem ok_dual (c : C) : ok (dual c) = true := by
  rw [ok_iff]
  constructor <;> intro i hi
  · rw [tb_dual1] at hi; simp at hi; exact hi.1
  · rw [tb_dual2] at hi; simp at hi; exact hi.1
theorem dual_dual {c : C} (h : ok c = true) : dual (dual c) = c := by
  rw [ok_iff] at h
  refine Prod.ext (tb_ext fun i => ?_) (tb_ext fun i => ?_)
  · rw [tb_dual1, tb_dual2]
    by_cases hi : i < 24
    · simp [hi]
    · simp [hi]
      cases hb : tb c.1 i
      · rfl
      · exact absurd (h.1 i hb) hi
  · rw [tb_dual2, tb_dual1]
    by_cases hi : i < 24
    · simp [hi]
    · simp [hi]
      cases hb : tb c.2 i
      · rfl
      · exact absurd (h.2 i hb) hi
theorem below_lit1 {c : C} {i : Nat} (h : i < 32) : below c (0, one i) = tb c.2 i := by
  rw [Bool.eq_iff_iff, below_bits]
  constructor
  · intro hb
    exact hb.2 i (by rw [tb_one h]; simp)
  · intro hc
    refine ⟨fun j hj => ?_, fun j hj => ?_⟩
    · rw [tb_zero] at hj; cases hj
    · rw [tb_one h, decide_eq_true_eq] at hj
      subst hj; exact hc
theorem below_lit2 {c : C} {i : Nat} (h : i < 32) : below c (one i, 0) = tb c.1 i := by
  rw [Bool.eq_iff_iff, below_bits]
  constructor
  · intro hb
    exact hb.1 i (by rw [tb_one h]; simp)
  · intro hc
    refine ⟨fun j hj => ?_, fun j hj => ?_⟩
    · rw [tb_one h, decide_eq_true_eq] at hj
      subst hj; exact hc
    · rw [tb_zero] at hj; cases hj
theorem E_opps {d : C} (hd : ok d = true) (c : C) : E (opps d) c = !(below (dual c) d) := by
  rw [ok_iff] at hd
  rw [Bool.eq_iff_iff, Bool.not_eq_true', ← Bool.not_eq_true, below_bits, E_iff]
  constructor
  · rintro ⟨e, he, hb⟩ ⟨h1, h2⟩
    rcases List.mem_append.1 he with h | h
    · obtain ⟨i, hi, rfl⟩ := List.mem_map.1 h
      obtain ⟨hi1, hi2⟩ := mem_dims.1 hi
      rw [below_lit1 (by omega)] at hb
      have := h1 i hi2
      rw [tb_dual1, hb] at this
      simp at this
    · obtain ⟨i, hi, rfl⟩ := List.mem_map.1 h
      obtain ⟨hi1, hi2⟩ := mem_dims.1 hi
      rw [below_lit2 (by omega)] at hb
      have := h2 i hi2
      rw [tb_dual2, hb] at this
      simp at this
  · intro h
    refine Classical.byContradiction fun hn => h ⟨fun i hi => ?_, fun i hi => ?_⟩
    · have hi24 := hd.1 i hi
      rw [tb_dual1]
      simp only [hi24, decide_true, Bool.true_and, Bool.not_eq_true']
      cases hb : tb c.2 i
      · rfl
      · exact absurd ⟨(0, one i), List.mem_append.2 (.inl (List.mem_map.2 ⟨i, mem_dims.2 ⟨hi24, hi⟩, rfl⟩)), by rw [below_lit1 (by omega)]; exact hb⟩ hn
    · have hi24 := hd.2 i hi
      rw [tb_dual2]
      simp only [hi24, decide_true, Bool.true_and, Bool.not_eq_true']
      cases hb : tb c.1 i
      · rfl
      · exact absurd ⟨(one i, 0), List.mem_append.2 (.inr (List.mem_map.2 ⟨i, mem_dims.2 ⟨hi24, hi⟩, rfl⟩)), by rw [below_lit2 (by omega)]; exact hb⟩ hn

/-! ### Folding with refusals -/
def foldE {α β : Type} (z : β) (f : β → α → β × Int) : List α → β → β × Int
  | [], have_ => (have_, 0)
  | c :: l, have_ => if (f have_ c).2 = 0 then foldE z f l (f have_ c).1 else (z, (f have_ c).2)
theorem foldE_inv {α β : Type} {z : β} {f : β → α → β × Int} (Q : List α → β → Prop) {l : List α} (hstep : ∀ pre c b, (∃ post, l = pre ++ c :: post) → Q pre b → (f b c).2 = 0 → Q (pre ++ [c]) (f b c).1) :
    ∀ {pre post : List α} {b : β}, l = pre ++ post → Q pre b → (foldE z f post b).2 = 0 → Q l (foldE z f post b).1
  | pre, [], b, hl, hq, _ => by rw [hl, List.append_nil]; exact hq
  | pre, c :: post, b, hl, hq, h => by
    unfold foldE at h ⊢
    by_cases hc : (f b c).2 = 0
    · rw [if_pos hc] at h ⊢
      exact foldE_inv Q hstep (pre := pre ++ [c]) (post := post) (by simp [hl]) (hstep pre c b ⟨post, hl⟩ hq hc) h
    · rw [if_neg hc] at h
      exact absurd h hc
def joinF (f g : List C) : List C × Int := least (f ++ g)
def meetF (f g : List C) : List C × Int := least (meets f g)
def top : C := (0, 0)
def notStep (have_ : List C) (c : C) : List C × Int := if (least (opps c)).2 = 0 then meetF have_ (least (opps c)).1 else ([], (least (opps c)).2)
theorem notStep_eq (b : List C) (c : C) : notStep b c = meetF b (least (opps c)).1 := by unfold notStep; rw [if_pos (opps_told c)]
def notF (f : List C) : List C × Int := foldE [] notStep f [top]
theorem E_top (c : C) : E [top] c = true := by
  rw [E_iff]
  refine ⟨top, by simp, ?_⟩
  rw [below_bits]
  refine ⟨fun i h => ?_, fun i h => ?_⟩
  · rw [show top.1 = 0 from rfl, tb_zero] at h
    cases h
  · rw [show top.2 = 0 from rfl, tb_zero] at h
    cases h
theorem right_top : right [top] = true := by
  rw [right_iff]
  refine ⟨by decide, by decide, List.pairwise_singleton _ _, fun c => ?_⟩
  simp only [List.mem_singleton]
  constructor
  · rintro rfl
    exact ⟨rfl, fun d hd _ => hd⟩
  · exact fun h => h.1
theorem notF_facts {f : List C} (hf : f.all ok = true) (ht : (notF f).2 = 0) : right (notF f).1 = true ∧ ∀ c, E (notF f).1 c = !(E f (dual c)) := by
  have := foldE_inv (z := []) (f := notStep) (l := f) (fun pre b => right b = true ∧ ∀ c, E b c = pre.all fun d => !(below (dual c) d)) (fun pre c b hl hq hc => by
    obtain ⟨post, hl⟩ := hl
    have hokc : ok c = true := List.all_eq_true.1 hf c (by rw [hl]; simp)
    rw [notStep_eq] at hc ⊢
    refine ⟨right_least hc, fun x => ?_⟩
    unfold meetF at hc ⊢
    rw [E_least hc, E_meets, E_least (opps_told c), E_opps hokc, hq.2 x, List.all_append]
    simp) (pre := []) (post := f) (b := [top]) rfl ⟨right_top, fun c => by rw [E_top]; rfl⟩ ht
  refine ⟨this.1, fun c => (this.2 c).trans ?_⟩
  unfold E
  rw [List.not_any_eq_all_not]

end Go.Proofs.YtfbcgjkagdbckaaDoor.H
