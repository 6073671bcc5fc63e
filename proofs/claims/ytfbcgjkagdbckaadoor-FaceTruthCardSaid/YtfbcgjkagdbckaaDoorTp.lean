/-
PLAIN LAW: the four values, as pairs of truths; a formula's value is what it says of one clause and of its dual. No program in sight.
-/
import Derived.Test.YtfbcgjkagdbckaaDoorFp
import Derived.Test.YtfbcgjkagdbckaaDoorTt
namespace Go.Proofs.YtfbcgjkagdbckaaDoor
open H

/-- A value's two truths. -/
def val (a : Int) : Bool × Bool := (decide (a % 4 = 1 ∨ a % 4 = 2), decide (a % 4 = 1 ∨ a % 4 = 3))
def code : Bool × Bool → Int
  | (true, true) => 1
  | (true, false) => 2
  | (false, true) => 3
  | (false, false) => 0
theorem val_code (p : Bool × Bool) : val (code p) = p := by
  obtain ⟨a, b⟩ := p
  cases a <;> cases b <;> decide
theorem code_val (a : Int) : code (val a) = a % 4 := by
  have h : a % 4 = 0 ∨ a % 4 = 1 ∨ a % 4 = 2 ∨ a % 4 = 3 := by omega
  unfold val
  rcases h with h | h | h | h <;> rw [h] <;> decide
theorem code_inj {p q : Bool × Bool} (h : code p = code q) : p = q := by rw [← val_code p, h, val_code]
theorem val_mod (a : Int) : val (a % 4) = val a := by
  unfold val
  rw [show a % 4 % 4 = a % 4 by omega]
def vMeet (p q : Bool × Bool) : Bool × Bool := (p.1 && q.1, p.2 && q.2)
def vJoin (p q : Bool × Bool) : Bool × Bool := (p.1 || q.1, p.2 || q.2)
def vNot (p : Bool × Bool) : Bool × Bool := (!p.2, !p.1)
theorem tMeet_code (a b : Int) : tMeet a b = code (vMeet (val a) (val b)) := by
  have h : a % 4 = 0 ∨ a % 4 = 1 ∨ a % 4 = 2 ∨ a % 4 = 3 := by omega
  have g : b % 4 = 0 ∨ b % 4 = 1 ∨ b % 4 = 2 ∨ b % 4 = 3 := by omega
  unfold tMeet val
  rcases h with h | h | h | h <;> rcases g with g | g | g | g <;> rw [h, g] <;> decide
theorem tJoin_code (a b : Int) : tJoin a b = code (vJoin (val a) (val b)) := by
  have h : a % 4 = 0 ∨ a % 4 = 1 ∨ a % 4 = 2 ∨ a % 4 = 3 := by omega
  have g : b % 4 = 0 ∨ b % 4 = 1 ∨ b % 4 = 2 ∨ b % 4 = 3 := by omega
  unfold tJoin val
  rcases h with h | h | h | h <;> rcases g with g | g | g | g <;> rw [h, g] <;> decide
theorem tNot_code (a : Int) : tNot a = code (vNot (val a)) := by
  have h : a % 4 = 0 ∨ a % 4 = 1 ∨ a % 4 = 2 ∨ a % 4 = 3 := by omega
  unfold tNot val
  rcases h with h | h | h | h <;> rw [h] <;> decide
theorem code_range (p : Bool × Bool) : 0 ≤ code p ∧ code p < 4 := by
  obtain ⟨a, b⟩ := p
  cases a <;> cases b <;> decide
/-- A set of dimensions, by its members. -/
def ofBits (p : Nat → Bool) : UInt32 := (List.range 24).foldl (fun s i => if p i = true then s ||| H.one i else s) 0
theorem tb_ofBits (p : Nat → Bool) (j : Nat) : tb (ofBits p) j = (decide (j < 24) && p j) := by
  have key : ∀ (n : Nat) (s : UInt32), n ≤ 24 → tb ((List.range n).foldl (fun s i => if p i = true then s ||| H.one i else s) s) j = (tb s j || (decide (j < n) && p j)) := by
    intro n
    induction n with
    | zero => intro s _; simp
    | succ n ih =>
      intro s hn
      rw [List.range_succ, List.foldl_append, List.foldl_cons, List.foldl_nil]
      by_cases hp : p n = true
      · rw [if_pos hp, tb_or, ih s (by omega), tb_one (by omega)]
        by_cases hj : n = j
        · subst hj
          simp [hp]
        · rw [decide_eq_false hj, Bool.or_false]
          congr 2
          rw [Bool.eq_iff_iff]
          simp
          omega
      · rw [if_neg hp, ih s (by omega)]
        by_cases hj : n = j
        · subst hj
          have : p n = false := by simpa using hp
          simp [this]
        · congr 2
          rw [Bool.eq_iff_iff]
          simp
          omega
  unfold ofBits
  rw [key 24 0 (Nat.le_refl _), tb_zero, Bool.false_or]
/-- The clause of an assignment: what is at least half true, and what is at least half false. -/
def clauseOf (v : Nat → Bool × Bool) : C := (ofBits fun i => (v i).1, ofBits fun i => !(v i).2)
theorem tbc1 (v : Nat → Bool × Bool) (j : Nat) : tb (clauseOf v).1 j = (decide (j < 24) && (v j).1) := tb_ofBits _ j
theorem tbc2 (v : Nat → Bool × Bool) (j : Nat) : tb (clauseOf v).2 j = (decide (j < 24) && !(v j).2) := tb_ofBits _ j
theorem ok_clauseOf (v : Nat → Bool × Bool) : ok (clauseOf v) = true := by
  rw [ok_iff]
  constructor <;> intro i hi
  · rw [tbc1] at hi
    simp at hi
    exact hi.1
  · rw [tbc2] at hi
    simp at hi
    exact hi.1
def valOf (f : List C) (v : Nat → Bool × Bool) : Bool × Bool := (E f (clauseOf v), E f (dual (clauseOf v)))
/-- One clause's value, literal by literal. -/
def cv (c : C) (v : Nat → Bool × Bool) : Bool × Bool := ((dims c.1).all (fun i => (v i).1) && (dims c.2).all (fun i => !(v i).2), (dims c.1).all (fun i => (v i).2) && (dims c.2).all (fun i => !(v i).1))
theorem below_clauseOf {c : C} (hc : ok c = true) (v : Nat → Bool × Bool) : below (clauseOf v) c = ((dims c.1).all (fun i => (v i).1) && (dims c.2).all (fun i => !(v i).2)) := by
  rw [ok_iff] at hc
  rw [Bool.eq_iff_iff, Bool.and_eq_true, List.all_eq_true, List.all_eq_true, below_bits]
  have e1 : ∀ j, tb (clauseOf v).1 j = (decide (j < 24) && (v j).1) := fun j => tb_ofBits _ j
  have e2 : ∀ j, tb (clauseOf v).2 j = (decide (j < 24) && !(v j).2) := fun j => tb_ofBits _ j
  constructor
  · rintro ⟨h1, h2⟩
    refine ⟨fun i hi => ?_, fun i hi => ?_⟩
    · have := h1 i (mem_dims.1 hi).2
      rw [e1] at this
      simp at this
      exact this.2
    · have := h2 i (mem_dims.1 hi).2
      rw [e2] at this
      simp at this
      simp [this.2]
  · rintro ⟨h1, h2⟩
    refine ⟨fun i hi => ?_, fun i hi => ?_⟩
    · rw [e1, h1 i (mem_dims.2 ⟨hc.1 i hi, hi⟩)]
      simp [hc.1 i hi]
    · rw [e2, h2 i (mem_dims.2 ⟨hc.2 i hi, hi⟩)]
      simp [hc.2 i hi]
theorem dual_clauseOf (v : Nat → Bool × Bool) : dual (clauseOf v) = clauseOf fun i => ((v i).2, (v i).1) := by
  refine Prod.ext (tb_ext fun j => ?_) (tb_ext fun j => ?_)
  · rw [tb_dual1, tbc2, tbc1]
    by_cases hj : j < 24
    · simp [hj]
    · simp [hj]
  · rw [tb_dual2, tbc1, tbc2]
    by_cases hj : j < 24
    · simp [hj]
    · simp [hj]
theorem cv_eq {c : C} (hc : ok c = true) (v : Nat → Bool × Bool) : cv c v = (below (clauseOf v) c, below (dual (clauseOf v)) c) := by
  rw [dual_clauseOf, below_clauseOf hc, below_clauseOf hc]
  rfl
theorem valOf_nil (v : Nat → Bool × Bool) : valOf [] v = (false, false) := rfl
theorem valOf_snoc (f : List C) (c : C) (hc : ok c = true) (v : Nat → Bool × Bool) : valOf (f ++ [c]) v = vJoin (valOf f v) (cv c v) := by
  unfold valOf vJoin
  rw [E_append, E_append, cv_eq hc]
  simp [E]
/-- The assignment that a clause stands for. -/
def atOf (x : C) (i : Nat) : Bool × Bool := (tb x.1 i, !tb x.2 i)
theorem clauseOf_atOf {x : C} (hx : ok x = true) : clauseOf (atOf x) = x := by
  rw [ok_iff] at hx
  refine Prod.ext (tb_ext fun j => ?_) (tb_ext fun j => ?_)
  · rw [tbc1]
    show (decide (j < 24) && tb x.1 j) = _
    cases h : tb x.1 j
    · simp
    · simp [hx.1 j h]
  · rw [tbc2]
    show (decide (j < 24) && !!tb x.2 j) = _
    cases h : tb x.2 j
    · simp
    · simp [hx.2 j h]
/-- A formula's value hangs on its dimensions alone. -/
def inDims (f : List C) (i : Nat) : Bool := f.any fun c => tb c.1 i || tb c.2 i
theorem valOf_congr {f : List C} (hf : f.all ok = true) {v u : Nat → Bool × Bool} (h : ∀ i, i < 24 → inDims f i = true → v i = u i) : valOf f v = valOf f u := by
  have key : ∀ c ∈ f, cv c v = cv c u := fun c hc => by
    have hd : ∀ i, i < 24 → (tb c.1 i || tb c.2 i) = true → v i = u i := fun i hi hb => h i hi (List.any_eq_true.2 ⟨c, hc, hb⟩)
    have a1 : ∀ (p : Bool × Bool → Bool), (dims c.1).all (fun i => p (v i)) = (dims c.1).all (fun i => p (u i)) := fun p => by
      rw [Bool.eq_iff_iff, List.all_eq_true, List.all_eq_true]
      constructor <;> intro g i hi
      · rw [← hd i (mem_dims.1 hi).1 (by rw [(mem_dims.1 hi).2]; rfl)]; exact g i hi
      · rw [hd i (mem_dims.1 hi).1 (by rw [(mem_dims.1 hi).2]; rfl)]; exact g i hi
    have a2 : ∀ (p : Bool × Bool → Bool), (dims c.2).all (fun i => p (v i)) = (dims c.2).all (fun i => p (u i)) := fun p => by
      rw [Bool.eq_iff_iff, List.all_eq_true, List.all_eq_true]
      constructor <;> intro g i hi
      · rw [← hd i (mem_dims.1 hi).1 (by rw [(mem_dims.1 hi).2, Bool.or_true])]; exact g i hi
      · rw [hd i (mem_dims.1 hi).1 (by rw [(mem_dims.1 hi).2, Bool.or_true])]; exact g i hi
    unfold cv
    rw [a1 (fun p => p.1), a1 (fun p => p.2), a2 (fun p => !p.1), a2 (fun p => !p.2)]
  unfold valOf E
  refine Prod.ext (any_congr' fun c hc => ?_) (any_congr' fun c hc => ?_)
  · have h1 := key c hc
    rw [cv_eq (List.all_eq_true.1 hf c hc), cv_eq (List.all_eq_true.1 hf c hc)] at h1
    exact congrArg Prod.fst h1
  · have h1 := key c hc
    rw [cv_eq (List.all_eq_true.1 hf c hc), cv_eq (List.all_eq_true.1 hf c hc)] at h1
    exact congrArg Prod.snd h1
/-- Two formulas with the same values everywhere are one. -/
theorem decides {f g : List C} (hf : H.right f = true) (hg : H.right g = true) (h : ∀ v : Nat → Bool × Bool, valOf f v = valOf g v) : f = g := by
  refine right_ext hf hg fun x hx => ?_
  have h1 := congrArg Prod.fst (h (atOf x))
  unfold valOf at h1
  rw [clauseOf_atOf hx] at h1
  exact h1
/-! ### What is made -/
theorem val_join {f g r : List C} (h : ∀ c, E r c = (E f c || E g c)) (v : Nat → Bool × Bool) : valOf r v = vJoin (valOf f v) (valOf g v) := by
  unfold valOf vJoin
  rw [h, h]
theorem val_meet {f g r : List C} (h : ∀ c, E r c = (E f c && E g c)) (v : Nat → Bool × Bool) : valOf r v = vMeet (valOf f v) (valOf g v) := by
  unfold valOf vMeet
  rw [h, h]
theorem val_not {f r : List C} (h : ∀ c, E r c = !(E f (dual c))) (v : Nat → Bool × Bool) : valOf r v = vNot (valOf f v) := by
  unfold valOf vNot
  rw [h, h, dual_dual (ok_clauseOf v)]
theorem val_put {f r p : List C} {i : Int} (hd : dimI i = true) (hf : f.all ok = true) (hr : r.all ok = true) (hn : (f.any fun c => hasI c.2 i) = true → (H.notF r).2 = 0) (h : ∀ x, E p x = f.any (putSays i r x)) (v : Nat → Bool × Bool) :
    valOf p v = valOf f (fun j => if j = i.toNat then valOf r v else v j) := by
  have h24 := of_decide_eq_true hd
  have key : ∀ (v : Nat → Bool × Bool), f.any (putSays i r (clauseOf v)) = E f (clauseOf fun j => if j = i.toNat then valOf r v else v j) := fun v => by
    unfold E
    refine any_congr' fun c hc => ?_
    have hokc := List.all_eq_true.1 hf c hc
    rw [below_wo hd hokc]
    have hw : below (clauseOf fun j => if j = i.toNat then valOf r v else v j) (woC c i) = below (clauseOf v) (woC c i) := by
      have hwok := woC_ok hd c
      rw [below_clauseOf hwok, below_clauseOf hwok]
      have hne : ∀ x, (x = (woC c i).1 ∨ x = (woC c i).2) → ∀ j ∈ dims x, ¬ j = i.toNat := fun x hx j hj e => by
        have hb := (mem_dims.1 hj).2
        obtain ⟨w1, w2⟩ := woC_has hd c
        rw [hasI_eq hd] at w1 w2
        rw [e] at hb
        rcases hx with rfl | rfl
        · rw [w1] at hb; cases hb
        · rw [w2] at hb; cases hb
      congr 1
      · rw [Bool.eq_iff_iff, List.all_eq_true, List.all_eq_true]
        constructor <;> intro g j hj
        · have := g j hj; rw [if_neg (hne _ (.inl rfl) j hj)] at this; exact this
        · rw [if_neg (hne _ (.inl rfl) j hj)]; exact g j hj
      · rw [Bool.eq_iff_iff, List.all_eq_true, List.all_eq_true]
        constructor <;> intro g j hj
        · have := g j hj; rw [if_neg (hne _ (.inr rfl) j hj)] at this; exact this
        · rw [if_neg (hne _ (.inr rfl) j hj)]; exact g j hj
    have t1 : tb (clauseOf fun j => if j = i.toNat then valOf r v else v j).1 i.toNat = E r (clauseOf v) := by
      rw [tbc1, decide_eq_true (by omega), Bool.true_and]
      show (if i.toNat = i.toNat then valOf r v else v i.toNat).1 = _
      rw [if_pos rfl]
      rfl
    have t2 : tb (clauseOf fun j => if j = i.toNat then valOf r v else v j).2 i.toNat = !(E r (dual (clauseOf v))) := by
      rw [tbc2, decide_eq_true (by omega), Bool.true_and]
      show (!(if i.toNat = i.toNat then valOf r v else v i.toNat).2) = _
      rw [if_pos rfl]
      rfl
    rw [hw, t1, t2]
    unfold putSays
    cases h2 : hasI c.2 i
    · simp
    · rw [(notF_facts hr (hn (List.any_eq_true.2 ⟨c, hc, h2⟩))).2]
  refine Prod.ext ?_ ?_
  · show E p (clauseOf v) = _
    rw [h, key]
    rfl
  · show E p (dual (clauseOf v)) = E f (dual (clauseOf _))
    rw [h, dual_clauseOf, dual_clauseOf, key]
    have e : (fun j => if j = i.toNat then valOf r (fun i => ((v i).2, (v i).1)) else ((v j).2, (v j).1)) = fun j => ((if j = i.toNat then valOf r v else v j).2, (if j = i.toNat then valOf r v else v j).1) := by
      funext j
      by_cases hj : j = i.toNat
      · rw [if_pos hj, if_pos hj]
        show (E r (clauseOf _), E r (dual (clauseOf _))) = (E r (dual (clauseOf v)), E r (clauseOf v))
        rw [← dual_clauseOf, dual_dual (ok_clauseOf v)]
      · rw [if_neg hj, if_neg hj]
    rw [e]
/-! ### Faces and values -/
theorem below_dual {c : C} (hc : ok c = true) (hn : H.clash c = false) : below (dual c) c = true := by
  rw [ok_iff] at hc
  rw [below_bits]
  have hcl : ∀ i, tb c.1 i = true → tb c.2 i = true → False := by
    unfold H.clash at hn
    rw [decide_eq_false_iff_not, ne_eq, Decidable.not_not] at hn
    intro i h1 h2
    have h3 := tb_and c.1 c.2 i
    rw [hn, tb_zero, h1, h2] at h3
    exact absurd h3 (by decide)
  refine ⟨fun i hi => ?_, fun i hi => ?_⟩
  · rw [tb_dual1]
    cases h : tb c.2 i
    · simp [hc.1 i hi]
    · exact (hcl i hi h).elim
  · rw [tb_dual2]
    cases h : tb c.1 i
    · simp [hc.2 i hi]
    · exact (hcl i h hi).elim
end Go.Proofs.YtfbcgjkagdbckaaDoor
