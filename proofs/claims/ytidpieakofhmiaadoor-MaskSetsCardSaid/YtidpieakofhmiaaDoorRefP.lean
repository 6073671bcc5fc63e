/-
PLAIN LAW: what the document's functions of layer 1 compute.
-/
import Derived.Test.YtidpieakofhmiaaDoorXMaskx4
import Derived.Test.YtidpieakofhmiaaDoorXMaskx5
import Derived.Test.YtidpieakofhmiaaDoorNat
namespace Go.Proofs.YtidpieakofhmiaaDoor.Pure
open Go.RowKit Go.Proofs.YtidpieakofhmiaaDoor.XMask Go.Proofs.YtidpieakofhmiaaDoorW.PrintWords Go.Proofs.YtidpieakofhmiaaDoorW.PrintLast Go.Proofs.YtidpieakofhmiaaDoorW.PrintMore H

theorem wrap64_small {n : Int} (h1 : -9223372036854775808 ≤ n) (h2 : n < 9223372036854775808) : wrap64 n = n := by
  unfold wrap64
  omega
theorem wf_u32 {a : Int} (h : (Lit.int .u32 a).wf = true) : ∃ n : Nat, a = n ∧ n < 4294967296 := by
  have h' : 0 ≤ a ∧ a ≤ 4294967295 := by simpa [Lit.wf, IntKind.min, IntKind.max, IntKind.bits, IntKind.signed] using h
  exact ⟨a.toNat, by omega, by omega⟩
theorem wf_i64 {a : Int} (h : (Lit.int .i64 a).wf = true) : -9223372036854775808 ≤ a ∧ a < 9223372036854775808 := by
  have h' : -9223372036854775808 ≤ a ∧ a ≤ 9223372036854775807 := by simpa [Lit.wf, IntKind.min, IntKind.max, IntKind.bits, IntKind.signed] using h
  omega

def L (l : List Nat) : List Int := l.map fun i : Nat => (i : Int)
theorem L_len (l : List Nat) : (L l).length = l.length := List.length_map ..
theorem rd_mid (pre post : List Nat) (a : Nat) : rd (L (pre ++ a :: post)) (pre.length : Int) = (a : Int) := by
  unfold rd L
  simp
theorem set_mid (pre post : List Nat) (a b : Nat) : (L (pre ++ a :: post)).set ((pre.length : Int)).toNat (b : Int) = L (pre ++ b :: post) := by
  unfold L
  rw [Int.toNat_natCast, List.map_append, List.map_append, List.set_append]
  simp

theorem power_l0 (n : Nat) (hn : n ≤ 40) : ∀ (d k i : Nat), i + d = n → d < k → hypercuberef01_power.l0 k (n : Int) ((2 ^ i : Nat) : Int) (i : Int) = some ((2 ^ n : Nat) : Int)
  | d, 0, _, _, hk => absurd hk (by omega)
  | 0, k + 1, i, hi, _ => by
    unfold hypercuberef01_power.l0
    rw [if_neg (by omega), show i = n by omega]
  | d + 1, k + 1, i, hi, hk => by
    have hp : 2 ^ (i + 1) ≤ 2 ^ 40 := Nat.pow_le_pow_right (by omega) (by omega)
    have he : 2 ^ (i + 1) = 2 ^ i * 2 := Nat.pow_succ ..
    have e1 : wrap64 (((2 ^ i : Nat) : Int) * 2) = ((2 ^ (i + 1) : Nat) : Int) := by
      rw [wrap64_small (by omega) (by omega)]
      omega
    have e2 : wrap64 ((i : Int) + 1) = ((i + 1 : Nat) : Int) := by
      rw [wrap64_small (by omega) (by omega)]
      omega
    unfold hypercuberef01_power.l0
    rw [if_pos (by omega), e1, e2]
    exact power_l0 n hn d k (i + 1) (by omega) (by omega)
theorem power (n k : Nat) (hn : n ≤ 40) (hk : 41 ≤ k) : hypercuberef01_power.f k (n : Int) = some ((2 ^ n : Nat) : Int) := by
  unfold hypercuberef01_power.f
  exact power_l0 n hn n k 0 (by omega) (by omega)

theorem has (s k : Nat) (i : Int) (hs : s < 4294967296) (hk : 41 ≤ k) : hypercuberef01_Has.f k (s : Int) i = some (decide (0 ≤ i ∧ i < 24) && s.testBit i.toNat) := by
  unfold hypercuberef01_Has.f
  by_cases h0 : i ≥ 0
  · by_cases h1 : i < 24
    · obtain ⟨n, rfl⟩ := Int.eq_ofNat_of_zero_le h0
      have hp : 0 < 2 ^ n := Nat.two_pow_pos n
      have hd : s / 2 ^ n ≤ s := Nat.div_le_self ..
      rw [if_pos h0, if_pos h1, power n k (by omega) hk]
      simp only [Option.bind_some]
      rw [if_neg (by omega), wrap64_small (n := (s : Int)) (by omega) (by omega), ← Int.ofNat_tdiv, wrap64_small (Int.le_trans (by decide) (Int.natCast_nonneg _)) (Int.lt_of_le_of_lt (Int.ofNat_le.2 hd) (by omega))]
      rw [show (2 : Int) = ((2 : Nat) : Int) from rfl, ← Int.ofNat_tmod, Int.toNat_natCast, Nat.testBit_eq_decide_div_mod_eq]
      rw [Option.some.injEq, Bool.eq_iff_iff]
      simp only [beq_iff_eq, Bool.and_eq_true, decide_eq_true_eq]
      omega
    · rw [if_pos h0, if_neg h1]
      simp [h1]
  · rw [if_neg h0]
    have : ¬ 0 ≤ i := h0
    simp [this]

theorem list_l0 (s : Nat) (hs : s < 4294967296) : ∀ (d k i : Nat), i + d = 24 → d + 41 ≤ k →
    hypercuberef01_List.l0 k (s : Int) (L ((List.range i).filter fun j => s.testBit j)) (i : Int) = some (L (dimsN s))
  | d, 0, _, _, hk => absurd hk (by omega)
  | 0, k + 1, i, hi, _ => by
    obtain rfl : i = 24 := by omega
    unfold hypercuberef01_List.l0
    rw [if_neg (by omega)]
    rfl
  | d + 1, k + 1, i, hi, hk => by
    have e2 : wrap64 ((i : Int) + 1) = ((i + 1 : Nat) : Int) := by
      rw [wrap64_small (by omega) (by omega)]
      omega
    have hl : ((List.range i).filter fun j => s.testBit j).length ≤ i := by
      have := List.length_filter_le (fun j => s.testBit j) (List.range i)
      rwa [List.length_range] at this
    have ih := list_l0 s hs d k (i + 1) (by omega) (by omega)
    rw [List.range_succ, List.filter_append] at ih
    unfold hypercuberef01_List.l0
    rw [if_pos (by omega), has s k i hs (by omega)]
    simp only [Option.bind_some]
    rw [Int.toNat_natCast, show decide (0 ≤ (i : Int) ∧ (i : Int) < 24) = true from decide_eq_true (by omega), Bool.true_and, e2]
    by_cases hb : s.testBit i = true
    · rw [if_pos hb, if_pos (by rw [L_len]; omega)]
      rw [show L ((List.range i).filter fun j => s.testBit j) ++ [(i : Int)] = L (((List.range i).filter fun j => s.testBit j) ++ [i].filter fun j => s.testBit j) by simp [L, hb]]
      exact ih
    · rw [if_neg hb]
      rw [show L ((List.range i).filter fun j => s.testBit j) = L (((List.range i).filter fun j => s.testBit j) ++ [i].filter fun j => s.testBit j) by simp [hb]]
      exact ih
theorem list (s k : Nat) (hs : s < 4294967296) (hk : 65 ≤ k) : hypercuberef01_List.f k (s : Int) = some (L (dimsN s)) := by
  unfold hypercuberef01_List.f
  exact list_l0 s hs 24 k 0 (by omega) (by omega)

theorem set_l0 (l : List Nat) (hl : l.length ≤ 25) (hb : ∀ x ∈ l, x < 24) : ∀ (post pre : List Nat) (k : Nat), pre ++ post = l → post.length + 41 < k →
    hypercuberef01_Set.l0 k (L l) ((sumPow pre : Nat) : Int) (pre.length : Int) = some ((sumPow l : Nat) : Int)
  | _, _, 0, _, hk => absurd hk (by omega)
  | [], pre, k + 1, he, _ => by
    rw [List.append_nil] at he
    subst he
    have := sumPow_le (l := pre) 23 fun x hx => by have := hb x hx; omega
    have h2 : pre.length * 2 ^ 23 ≤ 25 * 2 ^ 23 := Nat.mul_le_mul_right _ hl
    unfold hypercuberef01_Set.l0
    rw [if_neg (by rw [L_len]; omega), Int.emod_eq_of_lt (by omega) (by omega)]
  | a :: post, pre, k + 1, he, hk => by
    subst he
    have ha : a < 24 := hb a (by simp)
    rw [List.length_append, List.length_cons] at hl
    rw [List.length_cons] at hk
    have h1 := sumPow_le (l := pre ++ [a]) 23 fun x hx => by
      have := hb x (by simp at hx ⊢; rcases hx with h | h; exact .inl h; exact .inr (.inl h))
      omega
    rw [List.length_append, List.length_singleton] at h1
    have h2 : (pre.length + 1) * 2 ^ 23 ≤ 25 * 2 ^ 23 := Nat.mul_le_mul_right _ (by omega)
    have h3 : sumPow (pre ++ [a]) = sumPow pre + 2 ^ a := by
      rw [sumPow_append]
      simp [sumPow]
    have e1 : wrap64 (((sumPow pre : Nat) : Int) + ((2 ^ a : Nat) : Int)) = ((sumPow (pre ++ [a]) : Nat) : Int) := by
      rw [wrap64_small (by omega) (by omega), h3]
      omega
    have e2 : wrap64 ((pre.length : Int) + 1) = (((pre ++ [a]).length : Nat) : Int) := by
      rw [wrap64_small (by omega) (by omega), List.length_append, List.length_singleton]
      omega
    unfold hypercuberef01_Set.l0
    rw [if_pos (by rw [L_len, List.length_append, List.length_cons]; omega), if_pos (by omega), rd_mid, power a k (by omega) (by omega)]
    simp only [Option.bind_some]
    rw [e1, e2]
    have e3 : pre ++ a :: post = (pre ++ [a]) ++ post := by simp
    exact set_l0 (pre ++ a :: post) (by rw [List.length_append, List.length_cons]; omega) hb post (pre ++ [a]) k e3.symm (by omega)
theorem set (l : List Nat) (k : Nat) (hl : l.length ≤ 25) (hb : ∀ x ∈ l, x < 24) (hk : 70 ≤ k) : hypercuberef01_Set.f k (L l) = some ((sumPow l : Nat) : Int) := by
  unfold hypercuberef01_Set.f
  exact set_l0 l hl hb l [] k rfl (by omega)

theorem without_l0 (i : Int) (l : List Nat) (hl : l.length ≤ 24) (hb : ∀ x ∈ l, x < 24) : ∀ (post pre : List Nat) (k : Nat), pre ++ post = l → post.length + 71 ≤ k →
    hypercuberef01_Without.l0 k i (L l) (L (pre.filter fun x : Nat => decide ((x : Int) ≠ i))) (pre.length : Int) = some ((sumPow (l.filter fun x : Nat => decide ((x : Int) ≠ i)) : Nat) : Int)
  | _, _, 0, _, hk => absurd hk (by omega)
  | [], pre, k + 1, he, hk => by
    rw [List.append_nil] at he
    subst he
    unfold hypercuberef01_Without.l0
    have hf := List.length_filter_le (fun x : Nat => decide ((x : Int) ≠ i)) pre
    rw [if_neg (by rw [L_len]; omega), set _ k (by omega) (fun x hx => hb x (List.mem_filter.1 hx).1) (by simp at hk; omega)]
    rfl
  | a :: post, pre, k + 1, he, hk => by
    subst he
    rw [List.length_cons] at hk
    have hl' := hl
    rw [List.length_append, List.length_cons] at hl'
    have e2 : wrap64 ((pre.length : Int) + 1) = (((pre ++ [a]).length : Nat) : Int) := by
      rw [wrap64_small (by omega) (by omega), List.length_append, List.length_singleton]
      omega
    have e3 : pre ++ a :: post = (pre ++ [a]) ++ post := by simp
    have ih := without_l0 i (pre ++ a :: post) hl hb post (pre ++ [a]) k e3.symm (by omega)
    have hf := List.length_filter_le (fun x : Nat => decide ((x : Int) ≠ i)) pre
    unfold hypercuberef01_Without.l0
    rw [if_pos (by rw [L_len, List.length_append, List.length_cons]; omega), if_pos (by omega), rd_mid, e2]
    by_cases h : (a : Int) = i
    · rw [if_pos h]
      rw [List.filter_append] at ih
      simp only [List.filter_cons, List.filter_nil, ne_eq, h, not_true, decide_false, Bool.false_eq_true, if_false, List.append_nil] at ih ⊢
      exact ih
    · rw [if_neg h, if_pos (by rw [L_len]; omega)]
      rw [show L (pre.filter fun x : Nat => decide ((x : Int) ≠ i)) ++ [(a : Int)] = L ((pre ++ [a]).filter fun x : Nat => decide ((x : Int) ≠ i)) by simp [L, List.filter_append, h]]
      exact ih
theorem without (s k : Nat) (i : Int) (hs : s < 4294967296) (hk : 95 ≤ k) : hypercuberef01_Without.f k (s : Int) i = some ((sumPow ((dimsN s).filter fun x : Nat => decide ((x : Int) ≠ i)) : Nat) : Int) := by
  unfold hypercuberef01_Without.f
  rw [list s k hs (by omega)]
  simp only [Option.bind_some]
  have := dimsN_len s
  exact without_l0 i (dimsN s) this (fun x hx => (mem_dimsN.1 hx).1) (dimsN s) [] k rfl (by omega)

theorem drop_l0 (i : Nat) : ∀ (post pre : List Nat) (k : Nat), (pre ++ post).length ≤ 24 → (∀ x ∈ pre ++ post, x < 24) → post.length + 71 ≤ k →
    hypercuberef01_Drop.l0 k (i : Int) (L (pre ++ post)) (pre.length : Int) = some ((sumPow (pre ++ post.map (lower i)) : Nat) : Int)
  | _, _, 0, _, _, hk => absurd hk (by omega)
  | [], pre, k + 1, hl, hb, hk => by
    rw [List.append_nil] at hl hb
    unfold hypercuberef01_Drop.l0
    rw [List.append_nil, if_neg (by rw [L_len]; omega), set _ k (by omega) hb (by simp at hk; omega)]
    simp
  | a :: post, pre, k + 1, hl, hb, hk => by
    have hl' := hl
    rw [List.length_append, List.length_cons] at hl'
    rw [List.length_cons] at hk
    have ha : a < 24 := hb a (by simp)
    have e2 : wrap64 ((pre.length : Int) + 1) = (((pre ++ [lower i a]).length : Nat) : Int) := by
      rw [wrap64_small (by omega) (by omega), List.length_append, List.length_singleton]
      omega
    have hlo : lower i a < 24 := by unfold lower; split <;> omega
    have ih := drop_l0 i post (pre ++ [lower i a]) k (by simp; omega) (by
      intro x hx
      simp at hx
      rcases hx with h | h | h
      · exact hb x (by simp [h])
      · omega
      · exact hb x (by simp [h])) (by omega)
    simp only [List.append_assoc, List.singleton_append] at ih
    unfold hypercuberef01_Drop.l0
    rw [if_pos (by rw [L_len, List.length_append, List.length_cons]; omega), if_pos (by omega), if_pos (by omega), rd_mid]
    have em : (a :: post).map (lower i) = lower i a :: post.map (lower i) := rfl
    rw [em]
    by_cases h : i < a
    · have e4 : wrap64 ((a : Int) - 1) = ((lower i a : Nat) : Int) := by
        rw [wrap64_small (by omega) (by omega)]
        unfold lower
        rw [if_pos h]
        omega
      rw [if_pos (by omega), e4, set_mid, e2]
      exact ih
    · have e4 : lower i a = a := by unfold lower; rw [if_neg h]
      rw [if_neg (by omega), e2]
      rw [e4] at ih ⊢
      exact ih
theorem drop_l0' (i : Nat) (D : List Nat) (k : Nat) (h1 : D.length ≤ 24) (h2 : ∀ x ∈ D, x < 24) (hk : 95 ≤ k) : hypercuberef01_Drop.l0 k (i : Int) (L D) 0 = some ((sumPow (D.map (lower i)) : Nat) : Int) :=
  drop_l0 i D [] k h1 h2 (by omega)
theorem drop_neg (i : Int) (hi : i < 0) : ∀ (post pre : List Nat) (k : Nat), (pre ++ post).length ≤ 24 → (∀ x ∈ pre ++ post, x < 24) → post.length + 71 ≤ k →
    hypercuberef01_Drop.l0 k i (L (pre ++ post)) (pre.length : Int) = some ((sumPow (pre ++ post) : Nat) : Int)
  | _, _, 0, _, _, hk => absurd hk (by omega)
  | [], pre, k + 1, hl, hb, hk => by
    rw [List.append_nil] at hl hb
    unfold hypercuberef01_Drop.l0
    rw [List.append_nil, if_neg (by rw [L_len]; omega), set _ k (by omega) hb (by simp at hk; omega)]
    simp
  | a :: post, pre, k + 1, hl, hb, hk => by
    have hl' := hl
    rw [List.length_append, List.length_cons] at hl'
    rw [List.length_cons] at hk
    have e2 : wrap64 ((pre.length : Int) + 1) = (((pre ++ [a]).length : Nat) : Int) := by
      rw [wrap64_small (by omega) (by omega), List.length_append, List.length_singleton]
      omega
    have ih := drop_neg i hi post (pre ++ [a]) k (by simp; omega) (by intro x hx; exact hb x (by simpa using hx)) (by omega)
    simp only [List.append_assoc, List.singleton_append] at ih
    unfold hypercuberef01_Drop.l0
    rw [if_pos (by rw [L_len, List.length_append, List.length_cons]; omega), if_neg (by omega), e2]
    exact ih
theorem drop_neg0 (i : Int) (hi : i < 0) (D : List Nat) (k : Nat) (h1 : D.length ≤ 24) (h2 : ∀ x ∈ D, x < 24) (hk : 95 ≤ k) : hypercuberef01_Drop.l0 k i (L D) 0 = some ((sumPow D : Nat) : Int) :=
  drop_neg i hi D [] k h1 h2 (by omega)
theorem dimsN_sum_filter (s : Nat) (p : Nat → Bool) : dimsN (sumPow ((dimsN s).filter p)) = (dimsN s).filter p :=
  dimsN_sumPow ((dimsN_asc s).filter _) fun _ hx => (mem_dimsN.1 (List.mem_filter.1 hx).1).1
theorem sum_filter_lt (s : Nat) (p : Nat → Bool) : sumPow ((dimsN s).filter p) < 16777216 :=
  sumPow_lt (nodup_of_asc ((dimsN_asc s).filter _)) fun _ hx => (mem_dimsN.1 (List.mem_filter.1 hx).1).1
/-- Drop, of a dimension. -/
theorem drop (s k i : Nat) (hs : s < 4294967296) (hk : 95 ≤ k) : hypercuberef01_Drop.f k (s : Int) (i : Int) = some ((dropped s i : Nat) : Int) := by
  have hlt := sum_filter_lt s fun x : Nat => decide ((x : Int) ≠ (i : Int))
  have hlen := dimsN_len (sumPow ((dimsN s).filter fun x : Nat => decide ((x : Int) ≠ (i : Int))))
  unfold hypercuberef01_Drop.f
  rw [without s k i hs hk]
  simp only [Option.bind_some]
  rw [list _ k (by omega) (by omega)]
  simp only [Option.bind_some]
  rw [drop_l0' i _ k hlen (fun x hx => (mem_dimsN.1 hx).1) hk, dimsN_sum_filter]
  unfold dropped
  congr 5
  funext x
  simp
  omega
theorem drop_neg' (s k : Nat) (i : Int) (hs : s < 4294967296) (hi : i < 0) (hk : 95 ≤ k) : hypercuberef01_Drop.f k (s : Int) i = some ((s % 16777216 : Nat) : Int) := by
  have hlt := sum_filter_lt s fun x : Nat => decide ((x : Int) ≠ i)
  have hlen := dimsN_len (sumPow ((dimsN s).filter fun x : Nat => decide ((x : Int) ≠ i)))
  unfold hypercuberef01_Drop.f
  rw [without s k i hs hk]
  simp only [Option.bind_some]
  rw [list _ k (by omega) (by omega)]
  simp only [Option.bind_some]
  rw [drop_neg0 i hi _ k hlen (fun x hx => (mem_dimsN.1 hx).1) hk, dimsN_sum_filter, List.filter_eq_self.2, sumPow_dimsN]
  intro x _
  simp
  omega

theorem lift_l0 (f b : Nat) (hf : f < 9223372036854775808) (hbb : b < 9223372036854775808) : ∀ (post pre : List Nat) (k : Nat), (pre ++ post).length ≤ 24 → (∀ x ∈ pre ++ post, x < 24) → post.length + 71 ≤ k →
    hypercuberef01_Lift.l0 k (f : Int) (b : Int) (L (pre ++ post)) (pre.length : Int) =
      some (if post.all (fun x => decide (x < f ∨ x + b < 24)) = true then (((sumPow (pre ++ post.map (moved f b)) : Nat) : Int), 0) else (0, 10))
  | _, _, 0, _, _, hk => absurd hk (by omega)
  | [], pre, k + 1, hl, hb, hk => by
    rw [List.append_nil] at hl hb
    unfold hypercuberef01_Lift.l0
    rw [List.append_nil, if_neg (by rw [L_len]; omega), set _ k (by omega) hb (by simp at hk; omega)]
    simp
  | a :: post, pre, k + 1, hl, hb, hk => by
    have hl' := hl
    rw [List.length_append, List.length_cons] at hl'
    rw [List.length_cons] at hk
    have ha : a < 24 := hb a (by simp)
    have e2 : ∀ v, wrap64 ((pre.length : Int) + 1) = (((pre ++ [v]).length : Nat) : Int) := by
      intro v
      rw [wrap64_small (by omega) (by omega), List.length_append, List.length_singleton]
      omega
    have em : (a :: post).map (moved f b) = moved f b a :: post.map (moved f b) := rfl
    unfold hypercuberef01_Lift.l0
    rw [if_pos (by rw [L_len, List.length_append, List.length_cons]; omega), if_pos (by omega), rd_mid, em, List.all_cons]
    by_cases h : a < f
    · have ih := lift_l0 f b hf hbb post (pre ++ [a]) k (by simp; omega) (by intro x hx; exact hb x (by simpa using hx)) (by omega)
      simp only [List.append_assoc, List.singleton_append] at ih
      have e4 : moved f b a = a := by unfold moved; rw [if_pos h]
      rw [if_pos (by omega), e2 a, ih, e4]
      simp [h]
    · have e5 : wrap64 (24 - (a : Int)) = 24 - (a : Int) := wrap64_small (by omega) (by omega)
      rw [if_neg (by omega), e5]
      by_cases h2 : a + b < 24
      · have e6 : wrap64 ((a : Int) + (b : Int)) = ((moved f b a : Nat) : Int) := by
          rw [wrap64_small (by omega) (by omega)]
          unfold moved
          rw [if_neg h]
          omega
        have hm : moved f b a < 24 := by unfold moved; rw [if_neg h]; exact h2
        have ih := lift_l0 f b hf hbb post (pre ++ [moved f b a]) k (by simp; omega) (by
          intro x hx
          simp at hx
          rcases hx with h | h | h
          · exact hb x (by simp [h])
          · omega
          · exact hb x (by simp [h])) (by omega)
        simp only [List.append_assoc, List.singleton_append] at ih
        rw [if_neg (by omega), e6, set_mid, e2 (moved f b a), ih]
        simp [h2]
      · rw [if_pos (by omega)]
        simp [h, h2]
theorem lift_l0' (f b : Nat) (hf : f < 9223372036854775808) (hbb : b < 9223372036854775808) (D : List Nat) (k : Nat) (h1 : D.length ≤ 24) (h2 : ∀ x ∈ D, x < 24) (hk : 95 ≤ k) :
    hypercuberef01_Lift.l0 k (f : Int) (b : Int) (L D) 0 = some (if D.all (fun x => decide (x < f ∨ x + b < 24)) = true then (((sumPow (D.map (moved f b)) : Nat) : Int), 0) else (0, 10)) :=
  lift_l0 f b hf hbb D [] k h1 h2 (by omega)
theorem reflift (s k f b : Nat) (hs : s < 4294967296) (hf : f < 9223372036854775808) (hbb : b < 9223372036854775808) (hk : 100 ≤ k) :
    hypercuberef01_Lift.f k (s : Int) (f : Int) (b : Int) = some (if movable s f b = true then (((lifted s f b : Nat) : Int), 0) else (0, 10)) := by
  have hlen := dimsN_len s
  obtain ⟨k', rfl⟩ : ∃ k', k = k' + 1 := ⟨k - 1, by omega⟩
  unfold hypercuberef01_Lift.f
  rw [if_neg (by omega), show decide ((b : Int) < 0) = false from decide_eq_false (by omega)]
  rw [hypercuberef01_Lift.j0, if_neg Bool.false_ne_true, list s k' hs (by omega)]
  simp only [Option.bind_some]
  rw [lift_l0' f b hf hbb (dimsN s) k' hlen (fun x hx => (mem_dimsN.1 hx).1) (by omega)]
  rfl
theorem reflift_neg (k : Nat) (s f b : Int) (h : f < 0 ∨ b < 0) (hk : 100 ≤ k) : hypercuberef01_Lift.f k s f b = some (0, 2) := by
  obtain ⟨k', rfl⟩ : ∃ k', k = k' + 1 := ⟨k - 1, by omega⟩
  unfold hypercuberef01_Lift.f
  by_cases hf : f < 0
  · rw [if_pos hf]
    rw [hypercuberef01_Lift.j0, if_pos rfl]
  · rw [if_neg hf, show decide (b < 0) = true from decide_eq_true (by omega)]
    rw [hypercuberef01_Lift.j0, if_pos rfl]
end Go.Proofs.YtidpieakofhmiaaDoor.Pure
