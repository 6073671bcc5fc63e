/-
PLAIN LAW: the statement TruthTells.
-/
import Derived.Test.YtfbcgjkagdbckaaDoorLawsT3
namespace Go.Proofs.YtfbcgjkagdbckaaDoor.Pure
open Go.RowKit Go.Proofs.YtfbcgjkagdbckaaDoor.XTr Go.Proofs.YtfbcgjkagdbckaaDoorW.PrintWords Go.Proofs.YtfbcgjkagdbckaaDoorW.PrintLast Go.Proofs.YtfbcgjkagdbckaaDoorW.PrintMore H

theorem list_l0 (s : Nat) (hs : s < 4294967296) : ∀ (d k i : Nat), i + d = 24 → d + 41 ≤ k →
    hypercuberef01_List.l0 k (s : Int) (L ((List.range i).filter fun j => s.testBit j)) (i : Int) = some (L (dimsN s))
  | d, 0, _, _, hk => absurd hk (by omega)
  | 0, k + 1, i, hi, _ => by
    obtain rfl : i = 24 := by omega
    unfold hypercuberef01_List.l0
    rw [if_neg (by omega)]
    rfl
  | d + 1, k + 1, i, hi, hk => by
    have e2 : wrap64 ((i : Int) + 1) = ((i + 1 : Nat) : Int) := by
      rw [wrap64_small (by omega) (by omega)]
      omega
    have hl : ((List.range i).filter fun j => s.testBit j).length ≤ i := by
      have := List.length_filter_le (fun j => s.testBit j) (List.range i)
      rwa [List.length_range] at this
    have ih := list_l0 s hs d k (i + 1) (by omega) (by omega)
    rw [List.range_succ, List.filter_append] at ih
    unfold hypercuberef01_List.l0
    rw [if_pos (by omega), has s k i hs (by omega)]
    simp only [Option.bind_some]
    rw [Int.toNat_natCast, show decide (0 ≤ (i : Int) ∧ (i : Int) < 24) = true from decide_eq_true (by omega), Bool.true_and, e2]
    by_cases hb : s.testBit i = true
    · rw [if_pos hb, if_pos (by rw [L_len]; omega)]
      rw [show L ((List.range i).filter fun j => s.testBit j) ++ [(i : Int)] = L (((List.range i).filter fun j => s.testBit j) ++ [i].filter fun j => s.testBit j) by simp [L, hb]]
      exact ih
    · rw [if_neg hb]
      rw [show L ((List.range i).filter fun j => s.testBit j) = L (((List.range i).filter fun j => s.testBit j) ++ [i].filter fun j => s.testBit j) by simp [hb]]
      exact ih
theorem list (s k : Nat) (hs : s < 4294967296) (hk : 65 ≤ k) : hypercuberef01_List.f k (s : Int) = some (L (dimsN s)) := by
  unfold hypercuberef01_List.f
  exact list_l0 s hs 24 k 0 (by omega) (by omega)

theorem set_l0 (l : List Nat) (hl : l.length ≤ 25) (hb : ∀ x ∈ l, x < 24) : ∀ (post pre : List Nat) (k : Nat), pre ++ post = l → post.length + 41 < k →
    hypercuberef01_Set.l0 k (L l) ((sumPow pre : Nat) : Int) (pre.length : Int) = some ((sumPow l : Nat) : Int)
  | _, _, 0, _, hk => absurd hk (by omega)
  | [], pre, k + 1, he, _ => by
    rw [List.append_nil] at he
    subst he
    have := sumPow_le (l := pre) 23 fun x hx => by have := hb x hx; omega
    have h2 : pre.length * 2 ^ 23 ≤ 25 * 2 ^ 23 := Nat.mul_le_mul_right _ hl
    unfold hypercuberef01_Set.l0
    rw [if_neg (by rw [L_len]; omega), Int.emod_eq_of_lt (by omega) (by omega)]
  | a :: post, pre, k + 1, he, hk => by
    subst he
    have ha : a < 24 := hb a (by simp)
    rw [List.length_append, List.length_cons] at hl
    rw [List.length_cons] at hk
    have h1 := sumPow_le (l := pre ++ [a]) 23 fun x hx => by
      have := hb x (by simp at hx ⊢; rcases hx with h | h; exact .inl h; exact .inr (.inl h))
      omega
    rw [List.length_append, List.length_singleton] at h1
    have h2 : (pre.length + 1) * 2 ^ 23 ≤ 25 * 2 ^ 23 := Nat.mul_le_mul_right _ (by omega)
    have h3 : sumPow (pre ++ [a]) = sumPow pre + 2 ^ a := by
      rw [sumPow_append]
      simp [sumPow]
    have e1 : wrap64 (((sumPow pre : Nat) : Int) + ((2 ^ a : Nat) : Int)) = ((sumPow (pre ++ [a]) : Nat) : Int) := by
      rw [wrap64_small (by omega) (by omega), h3]
      omega
    have e2 : wrap64 ((pre.length : Int) + 1) = (((pre ++ [a]).length : Nat) : Int) := by
      rw [wrap64_small (by omega) (by omega), List.length_append, List.length_singleton]
      omega
    unfold hypercuberef01_Set.l0
    rw [if_pos (by rw [L_len, List.length_append, List.length_cons]; omega), if_pos (by omega), rd_mid, power a k (by omega) (by omega)]
    simp only [Option.bind_some]
    rw [e1, e2]
    have e3 : pre ++ a :: post = (pre ++ [a]) ++ post := by simp
    exact set_l0 (pre ++ a :: post) (by rw [List.length_append, List.length_cons]; omega) hb post (pre ++ [a]) k e3.symm (by omega)
theorem set (l : List Nat) (k : Nat) (hl : l.length ≤ 25) (hb : ∀ x ∈ l, x < 24) (hk : 70 ≤ k) : hypercuberef01_Set.f k (L l) = some ((sumPow l : Nat) : Int) := by
  unfold hypercuberef01_Set.f
  exact set_l0 l hl hb l [] k rfl (by omega)
theorem rdims_l1 (f : List C) (hl : f.length ≤ 10000) (i : Nat) (hi : i < 24) (pre : List Nat) (hpre : pre.length ≤ i) (R : Option Int) (K0 : Nat) (hK : 50 ≤ K0) : ∀ (d k j : Nat) (b : Bool), j + d = f.length → K0 + d < k →
    (∀ k', K0 ≤ k' → hypercuberef03_Dims.l0 k' (LC f) (L (if (b || (f.drop j).any fun c => tb c.1 i || tb c.2 i) = true then pre ++ [i] else pre)) ((i + 1 : Nat) : Int) = R) → hypercuberef03_Dims.l1 k (LC f) (L pre) (i : Int) b (j : Int) = R
  | d, 0, _, _, _, hk, _ => absurd hk (by omega)
  | 0, k + 1, j, b, hj, hk, h => by
    have e2 : wrap64 ((i : Int) + 1) = ((i + 1 : Nat) : Int) := by
      unfold wrap64
      omega
    have h2 := h k (by omega)
    rw [List.drop_eq_nil_of_le (by omega), List.any_nil, Bool.or_false] at h2
    rw [hypercuberef03_Dims.l1, if_neg (by rw [LC_len]; omega), e2]
    cases b
    · rw [if_neg Bool.false_ne_true]
      rw [if_neg Bool.false_ne_true] at h2
      exact h2
    · rw [if_pos rfl, if_pos (by rw [L_len]; omega)]
      rw [if_pos rfl] at h2
      rw [show L pre ++ [(i : Int)] = L (pre ++ [i]) by simp [L]]
      exact h2
  | d + 1, k + 1, j, b, hj, hk, h => by
    have hjl : j < f.length := by omega
    have e2 : wrap64 ((j : Int) + 1) = ((j + 1 : Nat) : Int) := by
      unfold wrap64
      omega
    have ih := fun b' h' => rdims_l1 f hl i hi pre hpre R K0 hK d k (j + 1) b' (by omega) (by omega) h'
    rw [hypercuberef03_Dims.l1, if_pos (by rw [LC_len]; omega), e2]
    rw [List.drop_eq_getElem_cons hjl] at h
    cases b
    · rw [if_neg Bool.false_ne_true, if_pos (by omega), rdC f j hjl]
      show (hypercuberef01_Has.f k (un f[j].1) (i : Int)).bind _ = _
      rw [hasT _ k i (by omega) hi, Option.bind_some]
      by_cases h1 : tb f[j].1 i = true
      · rw [if_pos h1]
        refine ih true fun k' hk' => ?_
        have h3 := h k' hk'
        rw [List.any_cons, h1, Bool.true_or, Bool.true_or, Bool.or_true] at h3
        rw [Bool.true_or]
        exact h3
      · rw [if_neg h1]
        show (hypercuberef01_Has.f k (un f[j].2) (i : Int)).bind _ = _
        rw [hasT _ k i (by omega) hi, Option.bind_some]
        refine ih _ fun k' hk' => ?_
        have h3 := h k' hk'
        rw [List.any_cons, show tb f[j].1 i = false by simpa using h1, Bool.false_or, Bool.false_or] at h3
        exact h3
    · rw [if_pos rfl]
      refine ih true fun k' hk' => ?_
      have h3 := h k' hk'
      rw [Bool.true_or] at h3 ⊢
      exact h3
theorem rdims_l0 (f : List C) (hl : f.length ≤ 10000) (R : Option Int) (h : ∀ k', 90 ≤ k' → hypercuberef01_Set.f k' (L ((List.range 24).filter fun i => f.any fun c => tb c.1 i || tb c.2 i)) = R) : ∀ (d k i : Nat), i + d = 24 → 100 + d * (f.length + 5) < k →
    hypercuberef03_Dims.l0 k (LC f) (L ((List.range i).filter fun i => f.any fun c => tb c.1 i || tb c.2 i)) (i : Int) = R
  | d, 0, _, _, hk => absurd hk (by omega)
  | 0, k + 1, i, hi, hk => by
    obtain rfl : i = 24 := by omega
    rw [hypercuberef03_Dims.l0, if_neg (by omega), h k (by omega)]
    cases R <;> rfl
  | d + 1, k + 1, i, hi, hk => by
    have hm : (d + 1) * (f.length + 5) = d * (f.length + 5) + (f.length + 5) := Nat.succ_mul ..
    have hlen : ((List.range i).filter fun i => f.any fun c => tb c.1 i || tb c.2 i).length ≤ i := by
      have := List.length_filter_le (fun i => f.any fun c => tb c.1 i || tb c.2 i) (List.range i)
      rwa [List.length_range] at this
    rw [hypercuberef03_Dims.l0, if_pos (by omega)]
    refine rdims_l1 f hl i (by omega) _ hlen R (101 + d * (f.length + 5)) (by omega) f.length k 0 false (by omega) (by omega) fun k' hk' => ?_
    have ih := rdims_l0 f hl R h d k' (i + 1) (by omega) (by omega)
    rw [List.range_succ, List.filter_append] at ih
    rw [List.drop_zero, Bool.false_or]
    by_cases hb : (f.any fun c => tb c.1 i || tb c.2 i) = true
    · rw [if_pos hb]
      rw [show List.filter (fun i => f.any fun c => tb c.1 i || tb c.2 i) [i] = [i] by rw [List.filter_cons, if_pos hb]; rfl] at ih
      exact ih
    · rw [if_neg hb]
      rw [show List.filter (fun i => f.any fun c => tb c.1 i || tb c.2 i) [i] = [] by rw [List.filter_cons, if_neg hb]; rfl, List.append_nil] at ih
      exact ih
theorem refdims (f : List C) (k : Nat) (hl : f.length ≤ 10000) (hk : 300 + 24 * f.length < k) : hypercuberef03_Dims.f k (LC f) = some (un (dimsF f)) := by
  unfold hypercuberef03_Dims.f
  have hr : r1 (dimsF f) = true := r1_iff.2 fun i hi => by
    rw [tb_dimsF, Bool.and_eq_true, decide_eq_true_iff] at hi
    exact hi.1
  have hlt : (dimsF f).toNat < 16777216 := of_decide_eq_true hr
  have e : ((List.range 24).filter fun i => f.any fun c => tb c.1 i || tb c.2 i) = dimsN (dimsF f).toNat := by
    unfold dimsN
    refine List.filter_congr fun i hi => ?_
    have h := tb_dimsF f i
    rw [decide_eq_true (List.mem_range.1 hi), Bool.true_and] at h
    exact h.symm
  refine rdims_l0 f hl _ (fun k' hk' => ?_) 24 k 0 (by omega) (by omega)
  rw [e, set _ k' (by have := dimsN_len (dimsF f).toNat; omega) (fun x hx => (mem_dimsN.1 hx).1) (by have := dimsN_len (dimsF f).toNat; omega), sumPow_dimsN, Nat.mod_eq_of_lt hlt]
  rfl
theorem dimsF_append (f g : List C) : dimsF (f ++ g) = dimsF f ||| dimsF g := tb_ext fun j => by
  rw [tb_or, tb_dimsF, tb_dimsF, tb_dimsF, List.any_append]
  cases decide (j < 24) <;> rfl
theorem step_digs (n m j : Nat) (hm : m ≤ 5) (hj : j < m) (hlow : n % 4 ^ j = 4 ^ j - 1) (hd : n / 4 ^ j % 4 ≠ 3) (t : Nat) : digs (n + 1) m t = if t = j then n / 4 ^ j % 4 + 1 else if t < j then 0 else digs n m t := by
  unfold digs
  by_cases ht : t < m
  · rw [if_pos ht, if_pos ht]
    have h1 : j = 0 ∨ j = 1 ∨ j = 2 ∨ j = 3 ∨ j = 4 := by omega
    have h2 : t = 0 ∨ t = 1 ∨ t = 2 ∨ t = 3 ∨ t = 4 := by omega
    rcases h1 with rfl | rfl | rfl | rfl | rfl <;> rcases h2 with rfl | rfl | rfl | rfl | rfl <;> simp only [Nat.reducePow] at hlow hd ⊢ <;> simp <;> omega
  · rw [if_neg ht, if_neg ht, if_neg (by omega), if_neg (by omega)]
theorem last_digs (n m j : Nat) (hm : m ≤ 5) (hj : j < m) (hn : n + 1 = 4 ^ m) : n / 4 ^ j % 4 = 3 := by
  have h1 : j = 0 ∨ j = 1 ∨ j = 2 ∨ j = 3 ∨ j = 4 := by omega
  have h2 : m = 1 ∨ m = 2 ∨ m = 3 ∨ m = 4 ∨ m = 5 := by omega
  rcases h1 with rfl | rfl | rfl | rfl | rfl <;> rcases h2 with rfl | rfl | rfl | rfl | rfl <;> simp only [Nat.reducePow] at hn ⊢ <;> omega
theorem low_digs (n j : Nat) (hlow : n % 4 ^ j = 4 ^ j - 1) (hd : n / 4 ^ j % 4 = 3) : n % 4 ^ (j + 1) = 4 ^ (j + 1) - 1 := by
  have h := Nat.mod_pow_succ (b := 4) (k := j) (x := n)
  have hp : 0 < 4 ^ j := Nat.pow_pos (by omega)
  rw [h, hlow, hd, Nat.pow_succ]
  omega
theorem rd_atF (D : List Nat) (size : Nat) (g : Nat → Nat) (j : Nat) (hj : j < D.length) (hD : D.Nodup) (hs : ∀ x ∈ D, x < size) : rd (atF D size g) ((D[j] : Nat) : Int) = ((g j : Nat) : Int) := by
  have h := atF_getD D size g D[j] hs
  rw [look_at D g j hj hD] at h
  unfold rd
  rw [Int.toNat_natCast]
  exact h
/-- The digits below j are all 3. -/
def Low (n j : Nat) : Prop := n % 4 ^ j = 4 ^ j - 1
def dg (n j : Nat) : Nat := n / 4 ^ j % 4
theorem low_zero (n : Nat) : Low n 0 := by
  unfold Low
  rw [Nat.pow_zero, Nat.mod_one]
theorem low_end {n m N : Nat} (h : Low n m) (hN : N = 4 ^ m) (hn : n < N) : n + 1 = N := by
  unfold Low at h
  rw [← hN] at h
  rw [Nat.mod_eq_of_lt hn] at h
  omega
theorem low_step {n j : Nat} (h : Low n j) (hd : dg n j = 3) : Low n (j + 1) := low_digs n j h hd
theorem dg_lt (n j : Nat) : dg n j < 4 := Nat.mod_lt _ (by decide)
theorem digs_dg {n m j : Nat} (h : j < m) : digs n m j = dg n j := by
  unfold digs
  rw [if_pos h]
  rfl
theorem dg_step {n m j : Nat} (hm : m ≤ 5) (hj : j < m) (hlow : Low n j) (hd : dg n j ≠ 3) : (fun t => if t = j then dg n j + 1 else if t < j then 0 else digs n m t) = digs (n + 1) m := by
  funext t
  exact (step_digs n m j hm hj hlow hd t).symm
theorem dg_more {n m j N : Nat} (hm : m ≤ 5) (hj : j < m) (hN : N = 4 ^ m) (hn : n < N) (hd : dg n j ≠ 3) : n + 1 < N := by
  rcases Nat.lt_or_ge (n + 1) N with h | h
  · exact h
  · exact absurd (last_digs n m j hm hj (by rw [← hN]; exact Nat.le_antisymm hn h)) hd
theorem clear_digs (n m j : Nat) : (fun t => if t = j then 0 else if t < j then 0 else digs n m t) = fun t => if t < j + 1 then 0 else digs n m t := by
  funext t
  by_cases a : t = j
  · rw [if_pos a, if_pos (by omega)]
  · rw [if_neg a]
    by_cases b : t < j
    · rw [if_pos b, if_pos (by omega)]
    · rw [if_neg b, if_neg (by omega)]
theorem odo (f g : List C) (D : List Nat) (hD : D.Nodup) (size : Nat) (hs : ∀ x ∈ D, x < size) (hm : D.length ≤ 5) (n N : Nat) (hN : N = 4 ^ D.length) (hn : n < N) (R : Option (List Int × Int)) (K0 : Nat)
    (h1 : n + 1 < N → ∀ k', K0 ≤ k' → hypercuberef04_Tell.l0 k' (LC f) (LC g) (L D) (atF D size (digs (n + 1) D.length)) = R) (h2 : n + 1 = N → R = some ([], 0)) : ∀ (d k j : Nat), j + d = D.length → K0 + d < k → Low n j →
    hypercuberef04_Tell.l1 k (LC f) (LC g) (L D) (atF D size fun t => if t < j then 0 else digs n D.length t) (j : Int) = R := by
  intro d
  induction d with
  | zero =>
    intro k j hj hk hlow
    obtain ⟨k, rfl⟩ : ∃ m, k = m + 1 := ⟨k - 1, by omega⟩
    have e : j = D.length := by omega
    rw [e] at hlow ⊢
    rw [h2 (low_end hlow hN hn), hypercuberef04_Tell.l1, if_neg (by rw [L_len]; exact Int.lt_irrefl _), if_pos (by rw [L_len])]
  | succ d ih =>
    intro k j hj hk hlow
    obtain ⟨k, rfl⟩ : ∃ m, k = m + 1 := ⟨k - 1, by omega⟩
    have hjl : j < D.length := by omega
    have e2 : wrap64 ((j : Int) + 1) = ((j + 1 : Nat) : Int) := wrap64_small (by omega) (by omega)
    have hsz := hs _ (List.getElem_mem hjl)
    have hjL : (j : Int) < ((L D).length : Int) := by
      rw [L_len]
      exact Int.ofNat_lt.2 hjl
    have hr := rd_atF D size (fun t => if t < j then 0 else digs n D.length t) j hjl hD hs
    have hdg : (if j < j then 0 else digs n D.length j) = dg n j := by rw [if_neg (Nat.lt_irrefl j), digs_dg hjl]
    rw [hdg] at hr
    have hin : (((D[j] : Nat) : Int)) < ((atF D size fun t => if t < j then 0 else digs n D.length t).length : Int) := by
      rw [atF_len]
      exact Int.ofNat_lt.2 hsz
    rw [hypercuberef04_Tell.l1, if_pos hjL, if_pos (Int.natCast_nonneg j), rdL D j hjl, if_pos (Int.natCast_nonneg _), if_pos hin, hr, Int.toNat_natCast, e2]
    by_cases h3 : dg n j = 3
    · have hset := atF_set D size (fun t => if t < j then 0 else digs n D.length t) j 0 hjl hD hs
      rw [clear_digs n D.length j] at hset
      rw [if_pos (by rw [h3]; rfl)]
      refine Eq.trans (congrArg (fun z => hypercuberef04_Tell.l1 k (LC f) (LC g) (L D) z ((j + 1 : Nat) : Int)) hset) ?_
      exact ih k (j + 1) (by omega) (by omega) (low_step hlow h3)
    · have hlt := dg_lt n j
      have hset := atF_set D size (fun t => if t < j then 0 else digs n D.length t) j (dg n j + 1) hjl hD hs
      rw [dg_step hm hjl hlow h3] at hset
      have h4 := h1 (dg_more hm hjl hN hn h3) k (by omega)
      generalize dg n j = z at *
      have e3 : wrap64 ((z : Int) + 1) = ((z + 1 : Nat) : Int) := wrap64_small (by omega) (by omega)
      have hz3 : ¬ ((z : Nat) : Int) = 3 := fun e => h3 (Int.ofNat_inj.1 e)
      rw [if_neg hz3, if_neg (Int.ne_of_lt hjL), e3]
      refine Eq.trans (congrArg (fun y => hypercuberef04_Tell.l0 k (LC f) (LC g) (L D) y) hset) ?_
      exact h4
theorem rtell_l0 (f g : List C) (hf : f.all ok = true) (hg : g.all ok = true) (hlf : f.length ≤ 10000) (hlg : g.length ≤ 10000) (D : List Nat) (hD : D.Nodup) (size : Nat) (hs : ∀ x ∈ D, x < size) (hm : D.length ≤ 5) (N : Nat) (hN : N = 4 ^ D.length) : ∀ (d k n : Nat), n + d = N → 0 < d → d * 10 + (f.length + g.length) * 60 + 130 < k →
    hypercuberef04_Tell.l0 k (LC f) (LC g) (L D) (atF D size (digs n D.length)) = some (tellG f g D size d n, 0)
  | d, 0, _, _, _, hk => absurd hk (by omega)
  | 0, _, _, _, h0, _ => absurd h0 (by omega)
  | d + 1, k + 1, n, hi, _, hk => by
    rw [hypercuberef04_Tell.l0, revalL _ f k hf hlf (by omega), Option.bind_some, revalL _ g k hg hlg (by omega), Option.bind_some]
    unfold tellG
    by_cases hv : valOf f (atv (atF D size (digs n D.length))) = valOf g (atv (atF D size (digs n D.length)))
    · rw [if_pos (by rw [hv]), if_pos hv]
      have h := odo f g D hD size hs hm n N hN (by omega) (some (tellG f g D size d (n + 1), 0)) (d * 10 + (f.length + g.length) * 60 + 131)
        (fun h1 k' hk' => rtell_l0 f g hf hg hlf hlg D hD size hs hm N hN d k' (n + 1) (by omega) (by omega) (by omega))
        (fun h1 => by
          obtain rfl : d = 0 := by omega
          rfl) D.length k 0 (by omega) (by omega) (low_zero n)
      rw [show (fun t => if t < 0 then 0 else digs n D.length t) = digs n D.length by funext t; rw [if_neg (by omega)]] at h
      exact h
    · rw [if_neg (fun e => hv (code_inj e)), if_neg hv]
theorem RTellL (f g : List C) (k : Nat) (hlf : f.length ≤ 100) (hlg : g.length ≤ 100) (hk : 30000 < k) : hypercuberef04_Tell.f k (LC f) (LC g) = some (tellP f g) := by
  obtain ⟨k, rfl⟩ : ∃ m, k = m + 2 := ⟨k - 2, by omega⟩
  unfold hypercuberef04_Tell.f tellP
  rw [ref3right f _ (by omega) (by omega), Option.bind_some]
  by_cases hf : H.right f = true
  · rw [if_pos hf, ref3right g _ (by omega) (by omega), Option.bind_some]
    by_cases hg : H.right g = true
    · have hlst := list (dimsF f ||| dimsF g).toNat (k + 1) (by have := (dimsF f ||| dimsF g).toNat_lt; omega) (by omega)
      rw [if_pos ⟨hf, hg⟩, hg, hypercuberef04_Tell.j0, if_neg (by decide), Option.bind_some, if_pos (by rw [LC_len]; simp; omega), List.nil_append, Option.bind_some, if_pos (by rw [LC_len, LC_len]; omega), ← LC_append, refdims _ _ (by rw [List.length_append]; omega) (by rw [List.length_append]; omega), Option.bind_some, dimsF_append]
      rw [show hypercuberef01_List.f (k + 1) (un (dimsF f ||| dimsF g)) = some (L (dimsFG f g)) from hlst, Option.bind_some, L_len]
      have hsz := lt_size f g
      have hnd : (dimsFG f g).Nodup := dims_nodup (dimsF f ||| dimsF g)
      have hlt : ∀ x ∈ dimsFG f g, x < 24 := dims24 (dimsF f ||| dimsF g)
      unfold sizeFG at hsz ⊢
      generalize dimsFG f g = D at *
      by_cases h5 : 5 < D.length
      · rw [if_pos (by omega), if_pos h5]
      · rw [if_neg (by omega), if_neg h5]
        have hp := pow4 D.length (by omega)
        have hp0 : 0 < 4 ^ D.length := Nat.pow_pos (by omega)
        have h24 : D.getD (D.length - 1) 0 < 24 := by
          rw [List.getD_eq_getElem?_getD]
          by_cases h0 : 0 < D.length
          · rw [List.getElem?_eq_getElem (by omega)]
            exact hlt _ (List.getElem_mem _)
          · rw [List.getElem?_eq_none (by omega)]
            decide
        have key : hypercuberef04_Tell.j1 (k + 1) (LC f) (LC g) (L D) ((D.getD (D.length - 1) 0 + 1 : Nat) : Int) = some (tellG f g D (D.getD (D.length - 1) 0 + 1) (4 ^ D.length) 0, 0) := by
          rw [hypercuberef04_Tell.j1, if_pos (by omega), Int.toNat_natCast, if_pos (by omega), atF_zero D, show (fun _ => 0 : Nat → Nat) = digs 0 D.length by funext j; unfold digs; rw [Nat.zero_div]; split <;> rfl]
          exact rtell_l0 f g (right_ok hf) (right_ok hg) (by omega) (by omega) D hnd _ hsz (by omega) _ rfl (4 ^ D.length) k 0 (Nat.zero_add _) hp0 (by omega)
        by_cases h0 : 0 < D.length
        · have e : wrap64 ((D.length : Int) - 1) = ((D.length - 1 : Nat) : Int) := by
            unfold wrap64
            omega
          have e2 : D.getD (D.length - 1) 0 = D[D.length - 1] := by
            rw [List.getD_eq_getElem?_getD, List.getElem?_eq_getElem (by omega)]
            rfl
          have h25 : D[D.length - 1] < 24 := by rw [← e2]; exact h24
          have e3 : wrap64 (((D[D.length - 1] : Nat) : Int) + 1) = ((D[D.length - 1] + 1 : Nat) : Int) := by
            unfold wrap64
            omega
          rw [if_pos (by omega), e, if_pos (by omega), if_pos (by omega), rdL D _ (by omega), e3]
          rw [e2] at key ⊢
          exact key
        · rw [if_neg (by omega)]
          have e2 : D.getD (D.length - 1) 0 = 0 := by
            rw [List.getD_eq_getElem?_getD, List.getElem?_eq_none (by omega)]
            rfl
          rw [e2] at key ⊢
          exact key
    · rw [if_neg (fun h => hg h.2), show H.right g = false by simpa using hg, hypercuberef04_Tell.j0]
      rfl
  · rw [if_neg hf, if_neg (fun h => hf h.1), hypercuberef04_Tell.j0]
    rfl
theorem tellP_none {f g : List C} (h : (tellP f g).2 ≠ 0) : (tellP f g).1 = [] := by
  unfold tellP at h ⊢
  split at h
  · split at h
    · rename_i h1 h2
      rw [if_pos h1, if_pos h2]
    · exact absurd rfl h
  · rename_i h1
    rw [if_neg h1]
theorem tellG_len (f g : List C) (D : List Nat) (size : Nat) : ∀ (d n : Nat), (tellG f g D size d n).length ≤ size
  | 0, _ => Nat.zero_le _
  | d + 1, n => by
    unfold tellG
    split
    · exact tellG_len f g D size d (n + 1)
    · rw [atF_len]
      exact Nat.le_refl _
theorem tellP_len (f g : List C) : (tellP f g).1.length ≤ 1000 := by
  have hsz : sizeFG f g ≤ 25 := by
    unfold sizeFG
    rw [List.getD_eq_getElem?_getD]
    by_cases h0 : 0 < (dimsFG f g).length
    · rw [List.getElem?_eq_getElem (by omega)]
      have := dims24 (dimsF f ||| dimsF g) _ (List.getElem_mem (l := dimsFG f g) (n := (dimsFG f g).length - 1) (by omega))
      show (dimsFG f g)[(dimsFG f g).length - 1] + 1 ≤ 25
      omega
    · rw [List.getElem?_eq_none (by omega)]
      decide
  unfold tellP
  split
  · split
    · simp
    · have := tellG_len f g (dimsFG f g) (sizeFG f g) (4 ^ (dimsFG f g).length) 0
      exact Nat.le_trans this (by omega)
  · simp
theorem TruthTells (f g : List C) : ∃ k, hypercubelaw04_TruthTells.f k (LC f) (LC g) = some true := by
  obtain ⟨k, hk⟩ : ∃ k, k = 40000 := ⟨_, rfl⟩
  refine ⟨k + 1, ?_⟩
  have j0t : hypercubelaw04_TruthTells.j0 (k + 1) (LC f) (LC g) true = some true := by
    rw [hypercubelaw04_TruthTells.j0, if_pos rfl, works _ (by omega)]
    rfl
  unfold hypercubelaw04_TruthTells.f
  rw [LC_len, LC_len]
  by_cases h1 : (f.length : Int) > 80
  · rw [if_pos h1]
    exact j0t
  rw [if_neg h1]
  by_cases h2 : (g.length : Int) > 80
  · rw [decide_eq_true h2]
    exact j0t
  have hlen := tellP_len f g
  rw [decide_eq_false h2, hypercubelaw04_TruthTells.j0, if_neg Bool.false_ne_true, TellL f g k (by omega) (by omega) (by omega), Option.bind_some, RTellL f g k (by omega) (by omega) (by omega), Option.bind_some, SameL f g k (by omega) (by omega) (by omega), Option.bind_some, ints _ k (by omega) (by omega), Option.bind_some, if_pos rfl, if_pos rfl, if_pos rfl, works _ (by omega), Option.bind_some]
  by_cases h3 : (tellP f g).2 = 0
  · rw [if_pos h3, if_pos ?_]
    rw [h3]
    by_cases h4 : (tellP f g).1 = []
    · rw [if_pos h4, h4]
      rfl
    · rw [if_neg h4, beq_iff_eq, eq_comm, beq_eq_false_iff_ne]
      intro e
      exact h4 (List.length_eq_zero_iff.1 (by omega))
  · rw [if_neg h3, if_pos ?_]
    rw [tellP_none h3, if_pos rfl, beq_iff_eq, beq_eq_false_iff_ne]
    exact h3
end Go.Proofs.YtfbcgjkagdbckaaDoor.Pure
