/-
PLAIN LAW: the document's values.
-/
import Derived.Test.YtfbcgjkagdbckaaDoorLawsT0
namespace Go.Proofs.YtfbcgjkagdbckaaDoor.Pure
open Go.RowKit Go.Proofs.YtfbcgjkagdbckaaDoor.XTr Go.Proofs.YtfbcgjkagdbckaaDoorW.PrintWords Go.Proofs.YtfbcgjkagdbckaaDoorW.PrintLast Go.Proofs.YtfbcgjkagdbckaaDoorW.PrintMore H

theorem same_l0 (a b : List C) (hab : a.length = b.length) (hl : a.length < 4611686018427387904) : ∀ (d k i : Nat), i + d = a.length → d < k → a.take i = b.take i → hypercuberef02_Same.l0 k (LC a) (LC b) (i : Int) = some (decide (a = b))
  | d, 0, _, _, hk, _ => absurd hk (by omega)
  | 0, k + 1, i, hi, _, ht => by
    have e : a = b := by rw [← List.take_of_length_le (l := a) (i := i) (by omega), ht, List.take_of_length_le (by omega)]
    rw [hypercuberef02_Same.l0, if_neg (by rw [LC_len]; omega), decide_eq_true e]
  | d + 1, k + 1, i, hi, hk, ht => by
    have hia : i < a.length := by omega
    have hib : i < b.length := by omega
    have e2 : wrap64 ((i : Int) + 1) = ((i + 1 : Nat) : Int) := by
      unfold wrap64
      omega
    rw [hypercuberef02_Same.l0, if_pos (by rw [LC_len]; omega), if_pos (by omega), if_pos (by rw [LC_len]; omega), rdC a i hia, rdC b i hib]
    have hq : (!((ofC24 a[i]).f0 == (ofC24 b[i]).f0) || !((ofC24 a[i]).f1 == (ofC24 b[i]).f1)) = !decide (a[i] = b[i]) := by
      unfold ofC24
      rw [un_beq, un_beq, Bool.eq_iff_iff]
      simp [Prod.ext_iff]
    rw [hq, e2]
    by_cases hc : a[i] = b[i]
    · rw [if_neg (by simp [hc])]
      refine same_l0 a b hab hl d k (i + 1) (by omega) (by omega) ?_
      rw [List.take_succ_eq_append_getElem hia, List.take_succ_eq_append_getElem hib, ht, hc]
    · rw [if_pos (by simp [hc]), decide_eq_false (fun e => hc (by subst e; rfl))]
theorem sameL (a b : List C) (k : Nat) (hl : a.length < 4611686018427387904) (hk : a.length < k) : hypercuberef02_Same.f k (LC a) (LC b) = some (decide (a = b)) := by
  unfold hypercuberef02_Same.f
  rw [LC_len, LC_len]
  by_cases h : a.length = b.length
  · rw [if_pos (by omega)]
    exact same_l0 a b h hl a.length k 0 (by omega) hk rfl
  · rw [if_neg (by omega), decide_eq_false (fun e => h (by rw [e]))]
theorem same (l : List C) (k : Nat) (hl : l.length < 4611686018427387904) (hk : l.length < k) : hypercuberef02_Same.f k (LC l) (LC l) = some true := by
  rw [sameL l l k hl hk, decide_eq_true rfl]
theorem power_l0 (n : Nat) (hn : n ≤ 40) : ∀ (d k i : Nat), i + d = n → d < k → hypercuberef01_power.l0 k (n : Int) ((2 ^ i : Nat) : Int) (i : Int) = some ((2 ^ n : Nat) : Int)
  | d, 0, _, _, hk => absurd hk (by omega)
  | 0, k + 1, i, hi, _ => by
    unfold hypercuberef01_power.l0
    rw [if_neg (by omega), show i = n by omega]
  | d + 1, k + 1, i, hi, hk => by
    have hp : 2 ^ (i + 1) ≤ 2 ^ 40 := Nat.pow_le_pow_right (by omega) (by omega)
    have he : 2 ^ (i + 1) = 2 ^ i * 2 := Nat.pow_succ ..
    have e1 : wrap64 (((2 ^ i : Nat) : Int) * 2) = ((2 ^ (i + 1) : Nat) : Int) := by
      rw [wrap64_small (by omega) (by omega)]
      omega
    have e2 : wrap64 ((i : Int) + 1) = ((i + 1 : Nat) : Int) := by
      rw [wrap64_small (by omega) (by omega)]
      omega
    unfold hypercuberef01_power.l0
    rw [if_pos (by omega), e1, e2]
    exact power_l0 n hn d k (i + 1) (by omega) (by omega)
theorem power (n k : Nat) (hn : n ≤ 40) (hk : 41 ≤ k) : hypercuberef01_power.f k (n : Int) = some ((2 ^ n : Nat) : Int) := by
  unfold hypercuberef01_power.f
  exact power_l0 n hn n k 0 (by omega) (by omega)

theorem has (s k : Nat) (i : Int) (hs : s < 4294967296) (hk : 41 ≤ k) : hypercuberef01_Has.f k (s : Int) i = some (decide (0 ≤ i ∧ i < 24) && s.testBit i.toNat) := by
  unfold hypercuberef01_Has.f
  by_cases h0 : i ≥ 0
  · by_cases h1 : i < 24
    · obtain ⟨n, rfl⟩ := Int.eq_ofNat_of_zero_le h0
      have hp : 0 < 2 ^ n := Nat.two_pow_pos n
      have hd : s / 2 ^ n ≤ s := Nat.div_le_self ..
      rw [if_pos h0, if_pos h1, power n k (by omega) hk]
      simp only [Option.bind_some]
      rw [if_neg (by omega), wrap64_small (n := (s : Int)) (by omega) (by omega), ← Int.ofNat_tdiv, wrap64_small (Int.le_trans (by decide) (Int.natCast_nonneg _)) (Int.lt_of_le_of_lt (Int.ofNat_le.2 hd) (by omega))]
      rw [show (2 : Int) = ((2 : Nat) : Int) from rfl, ← Int.ofNat_tmod, Int.toNat_natCast, Nat.testBit_eq_decide_div_mod_eq]
      rw [Option.some.injEq, Bool.eq_iff_iff]
      simp only [beq_iff_eq, Bool.and_eq_true, decide_eq_true_eq]
      omega
    · rw [if_pos h0, if_neg h1]
      simp [h1]
  · rw [if_neg h0]
    have : ¬ 0 ≤ i := h0
    simp [this]
theorem refleastL (l : List C) (h : l.length ≤ 1000000) : hypercuberef02_Least.f (LC l) = some (LC (least l).1, (least l).2) := by
  unfold hypercuberef02_Least.f
  rw [if_pos (okLC h), backLC, leastR_eq]
  rfl
theorem least_le64 (l : List C) : (least l).1.length ≤ 64 := by
  rcases least_cases l with ⟨_, e⟩ | ⟨_, _, e⟩ | ⟨_, h2, e⟩
  · rw [e]; simp
  · rw [e]; simp
  · rw [e]
    show (sortC (keep l)).length ≤ 64
    rw [length_sortC]
    exact h2
theorem ref3right (l : List C) (k : Nat) (h : l.length ≤ 1000000) (hk : 64 < k) : hypercuberef03_Right.f k (LC l) = some (H.right l) := by
  have h64 := least_le64 l
  unfold hypercuberef03_Right.f H.right
  rw [refleastL l h, Option.bind_some]
  by_cases he : (least l).2 = 0
  · rw [if_pos he, sameL _ _ k (by omega) (by omega), Option.bind_some, decide_eq_true he, Bool.true_and]
  · rw [if_neg he, decide_eq_false he, Bool.false_and]
theorem pairL (a : Int) : hypercuberef04_pair.f a = some (val a) := by
  have e : Int.tmod (wrap64 (Int.tmod a 4 + 4)) 4 = a % 4 := by
    have h1 : Int.tmod a 4 = a % 4 ∨ Int.tmod a 4 = a % 4 - 4 := by
      by_cases h : 0 ≤ a
      · exact .inl (Int.tmod_eq_emod_of_nonneg h)
      · have h2 := Int.neg_tmod (-a) 4
        rw [Int.neg_neg] at h2
        rw [h2, Int.tmod_eq_emod_of_nonneg (by omega)]
        omega
    have h2 : wrap64 (Int.tmod a 4 + 4) = Int.tmod a 4 + 4 := wrap64_small (by omega) (by omega)
    rw [h2]
    rcases h1 with h | h <;> rw [h, Int.tmod_eq_emod_of_nonneg (by omega)] <;> omega
  unfold hypercuberef04_pair.f
  rw [e]
  have h : a % 4 = 0 ∨ a % 4 = 1 ∨ a % 4 = 2 ∨ a % 4 = 3 := by omega
  unfold val
  rcases h with h | h | h | h <;> rw [h] <;> rfl
theorem valueL (k : Nat) (x y : Bool) (hk : 2 < k) : hypercuberef04_value.f k x y = some (code (x, y)) := by
  obtain ⟨k, rfl⟩ : ∃ m, k = m + 3 := ⟨k - 3, by omega⟩
  cases x <;> cases y <;> rfl
theorem rmeet (k : Nat) (a b : Int) (hk : 2 < k) : hypercuberef04_Meet.f k a b = some (code (vMeet (val a) (val b))) := by
  unfold hypercuberef04_Meet.f
  rw [pairL, Option.bind_some, pairL, Option.bind_some]
  rcases val a with ⟨p, q⟩
  rcases val b with ⟨r, s⟩
  cases p <;> cases q <;> simp [valueL k _ _ hk, vMeet]
theorem rjoin (k : Nat) (a b : Int) (hk : 2 < k) : hypercuberef04_Join.f k a b = some (code (vJoin (val a) (val b))) := by
  unfold hypercuberef04_Join.f
  rw [pairL, Option.bind_some, pairL, Option.bind_some]
  rcases val a with ⟨p, q⟩
  rcases val b with ⟨r, s⟩
  cases p <;> cases q <;> simp [valueL k _ _ hk, vJoin]
theorem rnot (k : Nat) (a : Int) (hk : 2 < k) : hypercuberef04_Not.f k a = some (code (vNot (val a))) := by
  unfold hypercuberef04_Not.f
  rw [pairL, Option.bind_some, valueL k _ _ hk]
  rfl
theorem hasT (x : UInt32) (k i : Nat) (hk : 41 ≤ k) (hi : i < 24) : hypercuberef01_Has.f k (un x) (i : Int) = some (tb x i) := by
  have h := has x.toNat k (i : Int) (by have := x.toNat_lt; omega) hk
  rw [decide_eq_true (by omega), Bool.true_and, Int.toNat_natCast] at h
  exact h
theorem atL (u : List Int) (i : Nat) : hypercuberef04_at.f u (i : Int) = some (u.getD i 0) := by
  unfold hypercuberef04_at.f
  by_cases hi : i < u.length
  · rw [if_pos (by omega), if_pos (by omega)]
    unfold rd
    rw [Int.toNat_natCast]
  · rw [if_neg (by omega), List.getD_eq_getElem?_getD, List.getElem?_eq_none (by omega)]
    rfl
/-- What the literals from i on say. -/
def from_ (c : C) (v : Nat → Bool × Bool) (i : Nat) : Bool × Bool :=
  (((List.range 24).drop i).all fun j => (!tb c.1 j || (v j).1) && (!tb c.2 j || !(v j).2), ((List.range 24).drop i).all fun j => (!tb c.1 j || (v j).2) && (!tb c.2 j || !(v j).1))
theorem from_zero (c : C) (v : Nat → Bool × Bool) : from_ c v 0 = cv c v := by
  have key : ∀ p q : Nat → Bool, ((List.range 24).all fun j => (!tb c.1 j || p j) && (!tb c.2 j || q j)) = ((dims c.1).all p && (dims c.2).all q) := fun p q => by
    rw [Bool.eq_iff_iff, Bool.and_eq_true, List.all_eq_true, List.all_eq_true, List.all_eq_true]
    constructor
    · intro h
      refine ⟨fun j hj => ?_, fun j hj => ?_⟩
      · obtain ⟨h1, h2⟩ := mem_dims.1 hj
        have := h j (List.mem_range.2 h1)
        rw [h2] at this
        simp at this
        exact this.1
      · obtain ⟨h1, h2⟩ := mem_dims.1 hj
        have := h j (List.mem_range.2 h1)
        rw [h2] at this
        simp at this
        exact this.2
    · rintro ⟨h1, h2⟩ j hj
      rw [List.mem_range] at hj
      cases a1 : tb c.1 j
      · cases a2 : tb c.2 j
        · rfl
        · simp [h2 j (mem_dims.2 ⟨hj, a2⟩)]
      · cases a2 : tb c.2 j
        · simp [h1 j (mem_dims.2 ⟨hj, a1⟩)]
        · simp [h1 j (mem_dims.2 ⟨hj, a1⟩), h2 j (mem_dims.2 ⟨hj, a2⟩)]
  unfold from_ cv
  rw [List.drop_zero, key (fun j => (v j).1) (fun j => !(v j).2), key (fun j => (v j).2) (fun j => !(v j).1)]
theorem from_step (c : C) (v : Nat → Bool × Bool) (i : Nat) (hi : i < 24) : from_ c v i = vMeet (vMeet (!tb c.1 i || (v i).1, !tb c.1 i || (v i).2) (!tb c.2 i || !(v i).2, !tb c.2 i || !(v i).1)) (from_ c v (i + 1)) := by
  have e : (List.range 24).drop i = i :: (List.range 24).drop (i + 1) := by
    rw [List.drop_eq_getElem_cons (by rw [List.length_range]; exact hi), List.getElem_range]
  unfold from_ vMeet
  rw [e, List.all_cons, List.all_cons]
theorem vMeet_assoc (a b c : Bool × Bool) : vMeet (vMeet a b) c = vMeet a (vMeet b c) := by
  unfold vMeet
  simp [Bool.and_assoc]
theorem reval_l1 (u : List Int) (f : List C) (s : Bool × Bool) (n : Nat) (hn : n < f.length) (hl : f.length ≤ 10000) (R : Option Int) (K0 : Nat) (hK : 50 ≤ K0) : ∀ (d k i : Nat) (p : Bool × Bool), i + d = 24 → K0 + 2 * d < k →
    (∀ k', K0 ≤ k' → hypercuberef04_eval.l0 k' (LC f) u (code (vJoin s (vMeet p (from_ f[n] (atv u) i)))) (wrap64 ((n : Int) + 1)) = R) → hypercuberef04_eval.l1 k (LC f) u (code s) (n : Int) (code p) (i : Int) = R
  | d, 0, _, _, _, hk, _ => absurd hk (by omega)
  | 0, k + 1, i, p, hi, hk, h => by
    have h2 := h k (by omega)
    have e : from_ f[n] (atv u) i = (true, true) := by
      unfold from_
      rw [List.drop_eq_nil_of_le (by rw [List.length_range]; omega), List.all_nil, List.all_nil]
    rw [e, show vMeet p (true, true) = p by unfold vMeet; simp] at h2
    rw [hypercuberef04_eval.l1, if_neg (by omega), rjoin _ _ _ (by omega), Option.bind_some, val_code, val_code]
    exact h2
  | d + 1, k + 1, i, p, hi, hk, h => by
    obtain ⟨k, rfl⟩ : ∃ m, k = m + 1 := ⟨k - 1, by omega⟩
    have e2 : wrap64 ((i : Int) + 1) = ((i + 1 : Nat) : Int) := by
      unfold wrap64
      omega
    have hj : ∀ q : Bool × Bool, q = vMeet p (!tb f[n].1 i || (atv u i).1, !tb f[n].1 i || (atv u i).2) → hypercuberef04_eval.j2 (k + 1) (LC f) u (code s) (n : Int) (code q) (i : Int) = R := by
      rintro q rfl
      have ih := fun q' h' => reval_l1 u f s n hn hl R K0 hK d k (i + 1) q' (by omega) (by omega) h'
      rw [hypercuberef04_eval.j2, if_pos (by omega), if_pos (by rw [LC_len]; omega), rdC f n hn]
      show (hypercuberef01_Has.f k (un f[n].2) (i : Int)).bind _ = _
      rw [hasT _ k i (by omega) (by omega), Option.bind_some]
      by_cases h2 : tb f[n].2 i = true
      · rw [if_pos h2, atL, Option.bind_some, rnot _ _ (by omega), Option.bind_some, rmeet _ _ _ (by omega), Option.bind_some, val_code, val_code, e2]
        refine ih _ fun k' hk' => ?_
        have h3 := h k' hk'
        rw [from_step _ _ i (by omega), ← vMeet_assoc, ← vMeet_assoc, h2] at h3
        exact h3
      · rw [if_neg h2, e2]
        refine ih _ fun k' hk' => ?_
        have h3 := h k' hk'
        rw [from_step _ _ i (by omega), ← vMeet_assoc, ← vMeet_assoc, show tb f[n].2 i = false by simpa using h2] at h3
        have e3 : ∀ z : Bool × Bool, vMeet z (!false || !(atv u i).2, !false || !(atv u i).1) = z := fun z => by unfold vMeet; simp
        rw [e3] at h3
        exact h3
    rw [hypercuberef04_eval.l1, if_pos (by omega), if_pos (by omega), if_pos (by rw [LC_len]; omega), rdC f n hn]
    show (hypercuberef01_Has.f (k + 1) (un f[n].1) (i : Int)).bind _ = _
    rw [hasT _ (k + 1) i (by omega) (by omega), Option.bind_some]
    by_cases h1 : tb f[n].1 i = true
    · rw [if_pos h1, atL, Option.bind_some, rmeet _ _ _ (by omega), Option.bind_some, val_code]
      refine hj _ ?_
      rw [h1]
      rfl
    · rw [if_neg h1]
      refine hj _ ?_
      rw [show tb f[n].1 i = false by simpa using h1]
      unfold vMeet
      simp
theorem reval_l0 (u : List Int) (f : List C) (hf : f.all ok = true) (hl : f.length ≤ 10000) : ∀ (d k i : Nat), i + d = f.length → d * 60 + 110 < k →
    hypercuberef04_eval.l0 k (LC f) u (code (valOf (f.take i) (atv u))) (i : Int) = some (code (valOf f (atv u)))
  | d, 0, _, _, hk => absurd hk (by omega)
  | 0, k + 1, i, hi, _ => by rw [hypercuberef04_eval.l0, if_neg (by rw [LC_len]; omega), List.take_of_length_le (by omega)]
  | d + 1, k + 1, i, hi, hk => by
    have hil : i < f.length := by omega
    have e2 : wrap64 ((i : Int) + 1) = ((i + 1 : Nat) : Int) := by
      unfold wrap64
      omega
    have hok : ok f[i] = true := List.all_eq_true.1 hf _ (List.getElem_mem _)
    rw [hypercuberef04_eval.l0, if_pos (by rw [LC_len]; omega)]
    show hypercuberef04_eval.l1 k (LC f) u _ (i : Int) (code (true, true)) ((0 : Nat) : Int) = _
    refine reval_l1 u f _ i hil hl _ (d * 60 + 111) (by omega) 24 k 0 (true, true) (by omega) (by omega) fun k' hk' => ?_
    have ih := reval_l0 u f hf hl d k' (i + 1) (by omega) (by omega)
    rw [List.take_succ_eq_append_getElem hil, valOf_snoc _ _ hok] at ih
    rw [from_zero, e2, show vMeet (true, true) (cv f[i] (atv u)) = cv f[i] (atv u) by unfold vMeet; simp]
    exact ih
theorem revalL (u : List Int) (f : List C) (k : Nat) (hf : f.all ok = true) (hl : f.length ≤ 10000) (hk : f.length * 60 + 110 < k) : hypercuberef04_eval.f k (LC f) u = some (code (valOf f (atv u))) := by
  unfold hypercuberef04_eval.f
  exact reval_l0 u f hf hl f.length k 0 (by omega) hk
theorem REvalL (u : List Int) (f : List C) (k : Nat) (hl : f.length ≤ 10000) (hk : f.length * 60 + 120 < k) : hypercuberef04_Eval.f k (LC f) u = some (if H.right f = true then (code (valOf f (atv u)), 0) else (0, 2)) := by
  unfold hypercuberef04_Eval.f
  rw [ref3right f k (by omega) (by omega), Option.bind_some]
  by_cases h : H.right f = true
  · rw [if_pos h, if_pos h, revalL u f k (right_ok h) hl (by omega), Option.bind_some]
  · rw [if_neg h, if_neg h]
end Go.Proofs.YtfbcgjkagdbckaaDoor.Pure
