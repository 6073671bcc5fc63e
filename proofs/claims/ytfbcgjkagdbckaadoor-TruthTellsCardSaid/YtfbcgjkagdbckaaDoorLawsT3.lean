/-
PLAIN LAW: the statements TruthValues, TruthEvals, TruthAlgebra, TruthDecides.
-/
import Derived.Test.YtfbcgjkagdbckaaDoorLawsT1
import Derived.Test.YtfbcgjkagdbckaaDoorLawsT2
namespace Go.Proofs.YtfbcgjkagdbckaaDoor.Pure
open Go.RowKit Go.Proofs.YtfbcgjkagdbckaaDoor.XTr Go.Proofs.YtfbcgjkagdbckaaDoorW.PrintWords Go.Proofs.YtfbcgjkagdbckaaDoorW.PrintLast Go.Proofs.YtfbcgjkagdbckaaDoorW.PrintMore H

theorem ints_l0 (l : List Int) (hl : l.length < 4611686018427387904) : ∀ (d k i : Nat), i + d = l.length → d < k → hypercuberef01_Ints.l0 k l l (i : Int) = some true
  | d, 0, _, _, hk => absurd hk (by omega)
  | 0, k + 1, i, hi, _ => by rw [hypercuberef01_Ints.l0, if_neg (by omega)]
  | d + 1, k + 1, i, hi, hk => by
    have e2 : wrap64 ((i : Int) + 1) = ((i + 1 : Nat) : Int) := by
      unfold wrap64
      omega
    rw [hypercuberef01_Ints.l0, if_pos (by omega), if_pos (by omega), if_pos (by omega), if_pos rfl, e2]
    exact ints_l0 l hl d k (i + 1) (by omega) (by omega)
theorem ints (l : List Int) (k : Nat) (hl : l.length < 4611686018427387904) (hk : l.length < k) : hypercuberef01_Ints.f k l l = some true := by
  unfold hypercuberef01_Ints.f
  rw [if_pos rfl]
  exact ints_l0 l hl l.length k 0 (by omega) hk
theorem works (k : Nat) (hk : 20000 ≤ k) : hypercubelaw04_works.f k = some true := by
  have e1 := EvalL [2] [(1, 1)] k (by decide) (by simp; omega)
  have e2 := TellL [(1, 0)] [(2, 0)] k (by decide) (by decide) (by simp; omega)
  have e3 := TellL [(0, 1), (1, 0)] [(0, 0)] k (by decide) (by decide) (by simp; omega)
  rw [show (if H.right [(1, 1)] = true then (code (valOf [(1, 1)] (atv [2])), 0) else (0, 2)) = ((2, 0) : Int × Int) by decide +kernel] at e1
  rw [show tellP [(1, 0)] [(2, 0)] = ([1, 0], 0) by decide +kernel] at e2
  rw [show tellP [(0, 1), (1, 0)] [(0, 0)] = ([2], 0) by unfold tellP; rw [if_pos ⟨rightIs' m7, rightIs' m6⟩]; decide +kernel] at e3
  have f1 : LC [(1, 1)] = [⟨1, 1⟩] := rfl
  have f2 : LC [(1, 0)] = [⟨1, 0⟩] := rfl
  have f3 : LC [(2, 0)] = [⟨2, 0⟩] := rfl
  have f4 : LC [(0, 1), (1, 0)] = [⟨0, 1⟩, ⟨1, 0⟩] := rfl
  have f5 : LC [(0, 0)] = [⟨0, 0⟩] := rfl
  have s1 := ints [1, 0] k (by decide) (by simp; omega)
  have s2 := ints [2] k (by decide) (by simp; omega)
  rw [f1] at e1
  rw [f2, f3] at e2
  rw [f4, f5] at e3
  unfold hypercubelaw04_works.f
  rw [e1, Option.bind_some, e2, Option.bind_some]
  unfold formula_One.f
  rw [Option.bind_some, e3, Option.bind_some, show truth_Meet.f 2 3 = some 0 from rfl, Option.bind_some, if_pos rfl, show truth_Join.f 2 3 = some 1 from rfl, Option.bind_some, if_pos rfl, show truth_Not.f 2 = some 2 from rfl, Option.bind_some, if_pos rfl, if_pos rfl, if_pos rfl, if_pos rfl, s1, Option.bind_some, if_pos rfl, if_pos rfl, s2]
  rfl
theorem digits : ∀ (m : Nat) (g : Nat → Nat), (∀ j, g j < 4) → ∃ n, n < 4 ^ m ∧ ∀ j, j < m → digs n m j = g j
  | 0, _, _ => ⟨0, by decide, fun j h => absurd h (by omega)⟩
  | m + 1, g, hg => by
    obtain ⟨n, hn, h⟩ := digits m (fun j => g (j + 1)) fun j => hg (j + 1)
    have h0 := hg 0
    refine ⟨g 0 + 4 * n, by rw [Nat.pow_succ]; omega, fun j hj => ?_⟩
    unfold digs
    rw [if_pos hj]
    cases j with
    | zero =>
      rw [Nat.pow_zero, Nat.div_one]
      omega
    | succ j =>
      have h2 := h j (by omega)
      unfold digs at h2
      rw [if_pos (by omega)] at h2
      rw [Nat.pow_succ, Nat.mul_comm (4 ^ j) 4, ← Nat.div_div_eq_div_mul, show (g 0 + 4 * n) / 4 = n by omega]
      exact h2
theorem tellG_nil (f g : List C) (D : List Nat) (size : Nat) (hs : 0 < size) : ∀ (d n : Nat), tellG f g D size d n = [] ↔ ∀ j, n ≤ j → j < n + d → valOf f (atv (atF D size (digs j D.length))) = valOf g (atv (atF D size (digs j D.length)))
  | 0, n => by
    constructor
    · intro _ j h1 h2
      omega
    · intro _
      rfl
  | d + 1, n => by
    have ih := tellG_nil f g D size hs d (n + 1)
    unfold tellG
    by_cases h : valOf f (atv (atF D size (digs n D.length))) = valOf g (atv (atF D size (digs n D.length)))
    · rw [if_pos h, ih]
      constructor
      · intro h2 j h3 h4
        by_cases e : j = n
        · rw [e]; exact h
        · exact h2 j (by omega) (by omega)
      · intro h2 j h3 h4
        exact h2 j (by omega) (by omega)
    · rw [if_neg h]
      constructor
      · intro h2
        have h3 := congrArg List.length h2
        rw [atF_len] at h3
        simp at h3
        omega
      · intro h2
        exact absurd (h2 n (Nat.le_refl _) (by omega)) h
theorem code_nat (p : Bool × Bool) : ((code p).toNat : Int) = code p ∧ (code p).toNat < 4 := by
  have := code_range p
  omega
theorem in_dims (f g : List C) (i : Nat) (hi : i < 24) (h : inDims f i = true ∨ inDims g i = true) : i ∈ dimsFG f g := by
  refine mem_dims.2 ⟨hi, ?_⟩
  rw [tb_or, tb_dimsF, tb_dimsF, decide_eq_true hi, Bool.true_and, Bool.true_and]
  unfold inDims at h
  rcases h with h | h
  · rw [h, Bool.true_or]
  · rw [h, Bool.or_true]
theorem all_same {f g : List C} (hf : H.right f = true) (hg : H.right g = true) (h : ∀ j, j < 4 ^ (dimsFG f g).length → valOf f (atv (atF (dimsFG f g) (sizeFG f g) (digs j (dimsFG f g).length))) = valOf g (atv (atF (dimsFG f g) (sizeFG f g) (digs j (dimsFG f g).length)))) : f = g := by
  refine decides hf hg fun v => ?_
  obtain ⟨n, hn, hd⟩ := digits (dimsFG f g).length (fun k => (code (v ((dimsFG f g).getD k 0))).toNat) fun j => (code_nat _).2
  have key : ∀ i, i ∈ dimsFG f g → v i = atv (atF (dimsFG f g) (sizeFG f g) (digs n (dimsFG f g).length)) i := fun i hi => by
    obtain ⟨k, hk, rfl⟩ := List.getElem_of_mem hi
    unfold atv
    rw [atF_getD _ _ _ _ (lt_size f g), look_at _ _ k hk (dims_nodup _), hd k hk, List.getD_eq_getElem?_getD, List.getElem?_eq_getElem hk]
    show v (dimsFG f g)[k] = val (((code (v (dimsFG f g)[k])).toNat : Nat) : Int)
    rw [(code_nat _).1, val_code]
  rw [valOf_congr (right_ok hf) fun i hi hb => key i (in_dims f g i hi (.inl hb)), valOf_congr (right_ok hg) fun i hi hb => key i (in_dims f g i hi (.inr hb))]
  exact h n hn
theorem tell_nil {f g : List C} (hf : H.right f = true) (hg : H.right g = true) : tellG f g (dimsFG f g) (sizeFG f g) (4 ^ (dimsFG f g).length) 0 = [] ↔ f = g := by
  rw [tellG_nil f g _ _ (show 0 < sizeFG f g from Nat.succ_pos _)]
  constructor
  · intro h
    exact all_same hf hg fun j hj => h j (Nat.zero_le _) (by omega)
  · rintro rfl j _ _
    rfl
theorem TruthValues (a : Int) (_wa : (Lit.int .i64 a).wf = true) (b : Int) (_wb : (Lit.int .i64 b).wf = true) : ∃ k, hypercubelaw04_TruthValues.f k a b = some true := by
  obtain ⟨k, hk⟩ : ∃ k, k = 20000 := ⟨_, rfl⟩
  refine ⟨k, ?_⟩
  unfold hypercubelaw04_TruthValues.f
  rw [tmeet, Option.bind_some, rmeet _ _ _ (by omega), Option.bind_some, if_pos rfl, tjoin, Option.bind_some, rjoin _ _ _ (by omega), Option.bind_some, if_pos rfl, tnot, Option.bind_some, rnot _ _ (by omega), Option.bind_some, if_pos rfl, works k (by omega)]
  rfl
theorem TruthEvals (f : List C) (u : List Int) : ∃ k, hypercubelaw04_TruthEvals.f k (LC f) u = some true := by
  obtain ⟨k, hk⟩ : ∃ k, k = 20000 := ⟨_, rfl⟩
  refine ⟨k, ?_⟩
  unfold hypercubelaw04_TruthEvals.f
  rw [LC_len]
  by_cases h : (f.length : Int) > 80
  · rw [if_pos h, works k (by omega)]
    rfl
  · rw [if_neg h, EvalL u f k (by omega) (by omega), Option.bind_some, REvalL u f k (by omega) (by omega), Option.bind_some, if_pos rfl, if_pos rfl, works k (by omega)]
    rfl
theorem TruthAlgebra (a : Int) (_wa : (Lit.int .i64 a).wf = true) (b : Int) (_wb : (Lit.int .i64 b).wf = true) (c : Int) (_wc : (Lit.int .i64 c).wf = true) : ∃ k, hypercubelaw04_TruthAlgebra.f k a b c = some true := by
  obtain ⟨k, hk⟩ : ∃ k, k = 20000 := ⟨_, rfl⟩
  refine ⟨k + 3, ?_⟩
  unfold hypercubelaw04_TruthAlgebra.f
  rw [works _ (by omega), Option.bind_some, if_pos rfl, tjoin, Option.bind_some, tjoin, Option.bind_some, tjoin, Option.bind_some]
  generalize vJoin (val 0) (val a) = p
  generalize vJoin (val 0) (val b) = q
  generalize vJoin (val 0) (val c) = r
  rcases p with ⟨p, p'⟩
  rcases q with ⟨q, q'⟩
  rcases r with ⟨r, r'⟩
  cases p <;> cases p' <;> cases q <;> cases q' <;> cases r <;> cases r' <;> rfl
theorem SameL (f g : List C) (k : Nat) (hlf : f.length ≤ 10000) (hlg : g.length ≤ 10000) (hk : 10400 + (f.length + g.length) * 60 < k) : truth_Same.f k (LC f) (LC g) = some ((if (tellP f g).1 = [] then ((tellP f g).2 == 0) else false), (tellP f g).2) := by
  unfold truth_Same.f
  rw [TellL f g k hlf hlg hk, Option.bind_some]
  by_cases h : (tellP f g).1 = []
  · rw [if_pos (by rw [h]; rfl), if_pos h]
  · rw [if_neg (fun e => h (List.length_eq_zero_iff.1 (by omega))), if_neg h]
theorem TruthDecides (f g : List C) : ∃ k, hypercubelaw04_TruthDecides.f k (LC f) (LC g) = some true := by
  obtain ⟨k, hk⟩ : ∃ k, k = 30000 := ⟨_, rfl⟩
  refine ⟨k + 1, ?_⟩
  unfold hypercubelaw04_TruthDecides.f
  rw [works _ (by omega), Option.bind_some, if_pos rfl, LC_len, LC_len]
  by_cases h1 : (f.length : Int) > 80
  · rw [if_pos h1, hypercubelaw04_TruthDecides.j0, if_pos rfl]
  rw [if_neg h1]
  by_cases h2 : (g.length : Int) > 80
  · rw [decide_eq_true h2, hypercubelaw04_TruthDecides.j0, if_pos rfl]
  rw [decide_eq_false h2, hypercubelaw04_TruthDecides.j0, if_neg Bool.false_ne_true, SameL f g k (by omega) (by omega) (by omega), Option.bind_some, sameL f g k (by omega) (by omega)]
  by_cases h3 : H.right f = true ∧ H.right g = true
  · by_cases h4 : 5 < (dimsFG f g).length
    · rw [show tellP f g = ([], 3) by unfold tellP; rw [if_pos h3, if_pos h4]]
      rfl
    · have e : tellP f g = (tellG f g (dimsFG f g) (sizeFG f g) (4 ^ (dimsFG f g).length) 0, 0) := by unfold tellP; rw [if_pos h3, if_neg h4]
      have hn := tell_nil h3.1 h3.2
      rw [e, Option.bind_some, if_pos rfl]
      by_cases h5 : f = g
      · rw [if_pos (hn.2 h5), decide_eq_true h5]
        rfl
      · rw [if_neg (fun z => h5 (hn.1 z)), decide_eq_false h5]
        rfl
  · rw [show tellP f g = ([], 2) by unfold tellP; rw [if_neg h3]]
    rfl
end Go.Proofs.YtfbcgjkagdbckaaDoor.Pure
