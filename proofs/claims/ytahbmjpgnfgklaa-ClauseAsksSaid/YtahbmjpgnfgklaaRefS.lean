/-
PLAIN LAW: the document's lists of dimensions, and what any set is lifted to; the program's lift.
-/
import Derived.Laws.BitsAllLaws
import Derived.Test.YtahbmjpgnfgklaaNat
import Derived.Test.YtahbmjpgnfgklaaClP
namespace Go.Proofs.Ytahbmjpgnfgklaa.Pure
open Go.RowKit Go.Proofs.Ytahbmjpgnfgklaa.XCm Go.Proofs.YtahbmjpgnfgklaaW.PrintWords Go.Proofs.YtahbmjpgnfgklaaW.PrintLast Go.Proofs.YtahbmjpgnfgklaaW.PrintMore H

theorem wf_u32 {a : Int} (h : (Lit.int .u32 a).wf = true) : ∃ n : Nat, a = n ∧ n < 4294967296 := by
  have h' : 0 ≤ a ∧ a ≤ 4294967295 := by simpa [Lit.wf, IntKind.min, IntKind.max, IntKind.bits, IntKind.signed] using h
  exact ⟨a.toNat, by omega, by omega⟩
theorem wf_i64 {a : Int} (h : (Lit.int .i64 a).wf = true) : -9223372036854775808 ≤ a ∧ a < 9223372036854775808 := by
  have h' : -9223372036854775808 ≤ a ∧ a ≤ 9223372036854775807 := by simpa [Lit.wf, IntKind.min, IntKind.max, IntKind.bits, IntKind.signed] using h
  omega

def L (l : List Nat) : List Int := l.map fun i : Nat => (i : Int)
theorem L_len (l : List Nat) : (L l).length = l.length := List.length_map ..
theorem rd_mid (pre post : List Nat) (a : Nat) : rd (L (pre ++ a :: post)) (pre.length : Int) = (a : Int) := by
  unfold rd L
  simp
theorem set_mid (pre post : List Nat) (a b : Nat) : (L (pre ++ a :: post)).set ((pre.length : Int)).toNat (b : Int) = L (pre ++ b :: post) := by
  unfold L
  rw [Int.toNat_natCast, List.map_append, List.map_append, List.set_append]
  simp

theorem power_l0 (n : Nat) (hn : n ≤ 40) : ∀ (d k i : Nat), i + d = n → d < k → hypercuberef01_power.l0 k (n : Int) ((2 ^ i : Nat) : Int) (i : Int) = some ((2 ^ n : Nat) : Int)
  | d, 0, _, _, hk => absurd hk (by omega)
  | 0, k + 1, i, hi, _ => by
    unfold hypercuberef01_power.l0
    rw [if_neg (by omega), show i = n by omega]
  | d + 1, k + 1, i, hi, hk => by
    have hp : 2 ^ (i + 1) ≤ 2 ^ 40 := Nat.pow_le_pow_right (by omega) (by omega)
    have he : 2 ^ (i + 1) = 2 ^ i * 2 := Nat.pow_succ ..
    have e1 : wrap64 (((2 ^ i : Nat) : Int) * 2) = ((2 ^ (i + 1) : Nat) : Int) := by
      rw [wrap64_small (by omega) (by omega)]
      omega
    have e2 : wrap64 ((i : Int) + 1) = ((i + 1 : Nat) : Int) := by
      rw [wrap64_small (by omega) (by omega)]
      omega
    unfold hypercuberef01_power.l0
    rw [if_pos (by omega), e1, e2]
    exact power_l0 n hn d k (i + 1) (by omega) (by omega)
theorem power (n k : Nat) (hn : n ≤ 40) (hk : 41 ≤ k) : hypercuberef01_power.f k (n : Int) = some ((2 ^ n : Nat) : Int) := by
  unfold hypercuberef01_power.f
  exact power_l0 n hn n k 0 (by omega) (by omega)

theorem has (s k : Nat) (i : Int) (hs : s < 4294967296) (hk : 41 ≤ k) : hypercuberef01_Has.f k (s : Int) i = some (decide (0 ≤ i ∧ i < 24) && s.testBit i.toNat) := by
  unfold hypercuberef01_Has.f
  by_cases h0 : i ≥ 0
  · by_cases h1 : i < 24
    · obtain ⟨n, rfl⟩ := Int.eq_ofNat_of_zero_le h0
      have hp : 0 < 2 ^ n := Nat.two_pow_pos n
      have hd : s / 2 ^ n ≤ s := Nat.div_le_self ..
      rw [if_pos h0, if_pos h1, power n k (by omega) hk]
      simp only [Option.bind_some]
      rw [if_neg (by omega), wrap64_small (n := (s : Int)) (by omega) (by omega), ← Int.ofNat_tdiv, wrap64_small (Int.le_trans (by decide) (Int.natCast_nonneg _)) (Int.lt_of_le_of_lt (Int.ofNat_le.2 hd) (by omega))]
      rw [show (2 : Int) = ((2 : Nat) : Int) from rfl, ← Int.ofNat_tmod, Int.toNat_natCast, Nat.testBit_eq_decide_div_mod_eq]
      rw [Option.some.injEq, Bool.eq_iff_iff]
      simp only [beq_iff_eq, Bool.and_eq_true, decide_eq_true_eq]
      omega
    · rw [if_pos h0, if_neg h1]
      simp [h1]
  · rw [if_neg h0]
    have : ¬ 0 ≤ i := h0
    simp [this]

theorem list_l0 (s : Nat) (hs : s < 4294967296) : ∀ (d k i : Nat), i + d = 24 → d + 41 ≤ k →
    hypercuberef01_List.l0 k (s : Int) (L ((List.range i).filter fun j => s.testBit j)) (i : Int) = some (L (dimsN s))
  | d, 0, _, _, hk => absurd hk (by omega)
  | 0, k + 1, i, hi, _ => by
    obtain rfl : i = 24 := by omega
    unfold hypercuberef01_List.l0
    rw [if_neg (by omega)]
    rfl
  | d + 1, k + 1, i, hi, hk => by
    have e2 : wrap64 ((i : Int) + 1) = ((i + 1 : Nat) : Int) := by
      rw [wrap64_small (by omega) (by omega)]
      omega
    have hl : ((List.range i).filter fun j => s.testBit j).length ≤ i := by
      have := List.length_filter_le (fun j => s.testBit j) (List.range i)
      rwa [List.length_range] at this
    have ih := list_l0 s hs d k (i + 1) (by omega) (by omega)
    rw [List.range_succ, List.filter_append] at ih
    unfold hypercuberef01_List.l0
    rw [if_pos (by omega), has s k i hs (by omega)]
    simp only [Option.bind_some]
    rw [Int.toNat_natCast, show decide (0 ≤ (i : Int) ∧ (i : Int) < 24) = true from decide_eq_true (by omega), Bool.true_and, e2]
    by_cases hb : s.testBit i = true
    · rw [if_pos hb, if_pos (by rw [L_len]; omega)]
      rw [show L ((List.range i).filter fun j => s.testBit j) ++ [(i : Int)] = L (((List.range i).filter fun j => s.testBit j) ++ [i].filter fun j => s.testBit j) by simp [L, hb]]
      exact ih
    · rw [if_neg hb]
      rw [show L ((List.range i).filter fun j => s.testBit j) = L (((List.range i).filter fun j => s.testBit j) ++ [i].filter fun j => s.testBit j) by simp [hb]]
      exact ih
theorem list (s k : Nat) (hs : s < 4294967296) (hk : 65 ≤ k) : hypercuberef01_List.f k (s : Int) = some (L (dimsN s)) := by
  unfold hypercuberef01_List.f
  exact list_l0 s hs 24 k 0 (by omega) (by omega)

theorem set_l0 (l : List Nat) (hl : l.length ≤ 25) (hb : ∀ x ∈ l, x < 24) : ∀ (post pre : List Nat) (k : Nat), pre ++ post = l → post.length + 41 < k →
    hypercuberef01_Set.l0 k (L l) ((sumPow pre : Nat) : Int) (pre.length : Int) = some ((sumPow l : Nat) : Int)
  | _, _, 0, _, hk => absurd hk (by omega)
  | [], pre, k + 1, he, _ => by
    rw [List.append_nil] at he
    subst he
    have := sumPow_le (l := pre) 23 fun x hx => by have := hb x hx; omega
    have h2 : pre.length * 2 ^ 23 ≤ 25 * 2 ^ 23 := Nat.mul_le_mul_right _ hl
    unfold hypercuberef01_Set.l0
    rw [if_neg (by rw [L_len]; omega), Int.emod_eq_of_lt (by omega) (by omega)]
  | a :: post, pre, k + 1, he, hk => by
    subst he
    have ha : a < 24 := hb a (by simp)
    rw [List.length_append, List.length_cons] at hl
    rw [List.length_cons] at hk
    have h1 := sumPow_le (l := pre ++ [a]) 23 fun x hx => by
      have := hb x (by simp at hx ⊢; rcases hx with h | h; exact .inl h; exact .inr (.inl h))
      omega
    rw [List.length_append, List.length_singleton] at h1
    have h2 : (pre.length + 1) * 2 ^ 23 ≤ 25 * 2 ^ 23 := Nat.mul_le_mul_right _ (by omega)
    have h3 : sumPow (pre ++ [a]) = sumPow pre + 2 ^ a := by
      rw [sumPow_append]
      simp [sumPow]
    have e1 : wrap64 (((sumPow pre : Nat) : Int) + ((2 ^ a : Nat) : Int)) = ((sumPow (pre ++ [a]) : Nat) : Int) := by
      rw [wrap64_small (by omega) (by omega), h3]
      omega
    have e2 : wrap64 ((pre.length : Int) + 1) = (((pre ++ [a]).length : Nat) : Int) := by
      rw [wrap64_small (by omega) (by omega), List.length_append, List.length_singleton]
      omega
    unfold hypercuberef01_Set.l0
    rw [if_pos (by rw [L_len, List.length_append, List.length_cons]; omega), if_pos (by omega), rd_mid, power a k (by omega) (by omega)]
    simp only [Option.bind_some]
    rw [e1, e2]
    have e3 : pre ++ a :: post = (pre ++ [a]) ++ post := by simp
    exact set_l0 (pre ++ a :: post) (by rw [List.length_append, List.length_cons]; omega) hb post (pre ++ [a]) k e3.symm (by omega)
theorem set (l : List Nat) (k : Nat) (hl : l.length ≤ 25) (hb : ∀ x ∈ l, x < 24) (hk : 70 ≤ k) : hypercuberef01_Set.f k (L l) = some ((sumPow l : Nat) : Int) := by
  unfold hypercuberef01_Set.f
  exact set_l0 l hl hb l [] k rfl (by omega)

theorem lift_l0 (f b : Nat) (hf : f < 9223372036854775808) (hbb : b < 9223372036854775808) : ∀ (post pre : List Nat) (k : Nat), (pre ++ post).length ≤ 24 → (∀ x ∈ pre ++ post, x < 24) → post.length + 71 ≤ k →
    hypercuberef01_Lift.l0 k (f : Int) (b : Int) (L (pre ++ post)) (pre.length : Int) =
      some (if post.all (fun x => decide (x < f ∨ x + b < 24)) = true then (((sumPow (pre ++ post.map (moved f b)) : Nat) : Int), 0) else (0, 10))
  | _, _, 0, _, _, hk => absurd hk (by omega)
  | [], pre, k + 1, hl, hb, hk => by
    rw [List.append_nil] at hl hb
    unfold hypercuberef01_Lift.l0
    rw [List.append_nil, if_neg (by rw [L_len]; omega), set _ k (by omega) hb (by simp at hk; omega)]
    simp
  | a :: post, pre, k + 1, hl, hb, hk => by
    have hl' := hl
    rw [List.length_append, List.length_cons] at hl'
    rw [List.length_cons] at hk
    have ha : a < 24 := hb a (by simp)
    have e2 : ∀ v, wrap64 ((pre.length : Int) + 1) = (((pre ++ [v]).length : Nat) : Int) := by
      intro v
      rw [wrap64_small (by omega) (by omega), List.length_append, List.length_singleton]
      omega
    have em : (a :: post).map (moved f b) = moved f b a :: post.map (moved f b) := rfl
    unfold hypercuberef01_Lift.l0
    rw [if_pos (by rw [L_len, List.length_append, List.length_cons]; omega), if_pos (by omega), rd_mid, em, List.all_cons]
    by_cases h : a < f
    · have ih := lift_l0 f b hf hbb post (pre ++ [a]) k (by simp; omega) (by intro x hx; exact hb x (by simpa using hx)) (by omega)
      simp only [List.append_assoc, List.singleton_append] at ih
      have e4 : moved f b a = a := by unfold moved; rw [if_pos h]
      rw [if_pos (by omega), e2 a, ih, e4]
      simp [h]
    · have e5 : wrap64 (24 - (a : Int)) = 24 - (a : Int) := wrap64_small (by omega) (by omega)
      rw [if_neg (by omega), e5]
      by_cases h2 : a + b < 24
      · have e6 : wrap64 ((a : Int) + (b : Int)) = ((moved f b a : Nat) : Int) := by
          rw [wrap64_small (by omega) (by omega)]
          unfold moved
          rw [if_neg h]
          omega
        have hm : moved f b a < 24 := by unfold moved; rw [if_neg h]; exact h2
        have ih := lift_l0 f b hf hbb post (pre ++ [moved f b a]) k (by simp; omega) (by
          intro x hx
          simp at hx
          rcases hx with h | h | h
          · exact hb x (by simp [h])
          · omega
          · exact hb x (by simp [h])) (by omega)
        simp only [List.append_assoc, List.singleton_append] at ih
        rw [if_neg (by omega), e6, set_mid, e2 (moved f b a), ih]
        simp [h2]
      · rw [if_pos (by omega)]
        simp [h, h2]
theorem lift_l0' (f b : Nat) (hf : f < 9223372036854775808) (hbb : b < 9223372036854775808) (D : List Nat) (k : Nat) (h1 : D.length ≤ 24) (h2 : ∀ x ∈ D, x < 24) (hk : 95 ≤ k) :
    hypercuberef01_Lift.l0 k (f : Int) (b : Int) (L D) 0 = some (if D.all (fun x => decide (x < f ∨ x + b < 24)) = true then (((sumPow (D.map (moved f b)) : Nat) : Int), 0) else (0, 10)) :=
  lift_l0 f b hf hbb D [] k h1 h2 (by omega)
theorem reflift (s k f b : Nat) (hs : s < 4294967296) (hf : f < 9223372036854775808) (hbb : b < 9223372036854775808) (hk : 100 ≤ k) :
    hypercuberef01_Lift.f k (s : Int) (f : Int) (b : Int) = some (if movable s f b = true then (((lifted s f b : Nat) : Int), 0) else (0, 10)) := by
  have hlen := dimsN_len s
  obtain ⟨k', rfl⟩ : ∃ k', k = k' + 1 := ⟨k - 1, by omega⟩
  unfold hypercuberef01_Lift.f
  rw [if_neg (by omega), show decide ((b : Int) < 0) = false from decide_eq_false (by omega)]
  rw [hypercuberef01_Lift.j0, if_neg Bool.false_ne_true, list s k' hs (by omega)]
  simp only [Option.bind_some]
  rw [lift_l0' f b hf hbb (dimsN s) k' hlen (fun x hx => (mem_dimsN.1 hx).1) (by omega)]
  rfl
theorem reflift_neg (k : Nat) (s f b : Int) (h : f < 0 ∨ b < 0) (hk : 100 ≤ k) : hypercuberef01_Lift.f k s f b = some (0, 2) := by
  obtain ⟨k', rfl⟩ : ∃ k', k = k' + 1 := ⟨k - 1, by omega⟩
  unfold hypercuberef01_Lift.f
  by_cases hf : f < 0
  · rw [if_pos hf]
    rw [hypercuberef01_Lift.j0, if_pos rfl]
  · rw [if_neg hf, show decide (b < 0) = true from decide_eq_true (by omega)]
    rw [hypercuberef01_Lift.j0, if_pos rfl]
theorem u32w (n : Nat) (h : n < 4294967296) : IntKind.u32.wrap (n : Int) = (n : Int) := by
  rw [IntKind.wrap_u32]
  omega
theorem mand (s : Nat) (hs : s < 4294967296) : bits .and .u32 (s : Int) 16777215 = ((s % 16777216 : Nat) : Int) := by
  have := u32_and_nat s 16777215 hs (by omega)
  rw [show ((16777215 : Nat) : Int) = 16777215 from rfl] at this
  rw [this, show (16777215 : Nat) = 2 ^ 24 - 1 from rfl, Nat.and_two_pow_sub_one_eq_mod]
theorem shl64_one (j : Nat) (h : j ≤ 24) : shl .u64 1 (j : Int) = ((2 ^ j : Nat) : Int) := by
  have hp : 2 ^ j ≤ 2 ^ 24 := Nat.pow_le_pow_right (by omega) h
  have e : min j 64 = j := by omega
  unfold shl
  rw [Int.toNat_natCast, show IntKind.u64.bits = 64 from rfl, e, Int.one_mul, show ((2 : Int) ^ j) = ((2 ^ j : Nat) : Int) by rw [Int.natCast_pow]; rfl]
  exact u64w _ (by omega)
theorem shl32_nat (a j : Nat) (h : a * 2 ^ j < 4294967296) (hj : j ≤ 32) : shl .u32 (a : Int) (j : Int) = ((a * 2 ^ j : Nat) : Int) := by
  have e : min j 32 = j := by omega
  unfold shl
  rw [Int.toNat_natCast, show IntKind.u32.bits = 32 from rfl, e, show ((2 : Int) ^ j) = ((2 ^ j : Nat) : Int) by rw [Int.natCast_pow]; rfl, ← Int.natCast_mul]
  exact u32w _ h
theorem shl64_nat (a j : Nat) (h : a * 2 ^ j < 18446744073709551616) (hj : j ≤ 64) : shl .u64 (a : Int) (j : Int) = ((a * 2 ^ j : Nat) : Int) := by
  have e : min j 64 = j := by omega
  unfold shl
  rw [Int.toNat_natCast, show IntKind.u64.bits = 64 from rfl, e, show ((2 : Int) ^ j) = ((2 ^ j : Nat) : Int) by rw [Int.natCast_pow]; rfl, ← Int.natCast_mul]
  exact u64w _ h
theorem shr32_nat (a j : Nat) (hj : j ≤ 32) : shr .u32 (a : Int) (j : Int) = ((a / 2 ^ j : Nat) : Int) := by
  have e : min j 32 = j := by omega
  unfold shr
  rw [Int.toNat_natCast, show IntKind.u32.bits = 32 from rfl, e, show ((2 : Int) ^ j) = ((2 ^ j : Nat) : Int) by rw [Int.natCast_pow]; rfl, ← Int.natCast_ediv]
theorem pow_le24 {j : Nat} (h : j ≤ 24) : 2 ^ j ≤ 16777216 := Nat.pow_le_pow_right (n := 2) (by omega) h

theorem below (i : Nat) : mask_below.f (i : Int) = some ((2 ^ min i 24 - 1 : Nat) : Int) := by
  have hp := pow_le24 (Nat.min_le_right i 24)
  have h0 := Nat.two_pow_pos (min i 24)
  have e1 : mn (i : Int) 24 = ((min i 24 : Nat) : Int) := by
    unfold mn
    split <;> omega
  unfold mask_below.f
  rw [e1, u64w _ (by omega), if_pos (by omega), shl64_one _ (Nat.min_le_right i 24)]
  rw [show ((2 ^ min i 24 : Nat) : Int) - 1 = ((2 ^ min i 24 - 1 : Nat) : Int) by omega, u64w _ (by omega), Int.emod_eq_of_lt (by omega) (by omega)]
theorem and_below (m j : Nat) (hm : m < 4294967296) (hj : j ≤ 24) : bits .and .u32 (m : Int) ((2 ^ j - 1 : Nat) : Int) = ((m % 2 ^ j : Nat) : Int) := by
  have hp := pow_le24 hj
  rw [u32_and_nat _ _ hm (by omega), Nat.and_two_pow_sub_one_eq_mod]
theorem testBit_not32 (x : Nat) (h : x < 4294967296) (i : Nat) : (4294967295 - x).testBit i = (decide (i < 32) && !x.testBit i) := by
  have := Nat.testBit_two_pow_sub_succ (n := 32) (show x < 2 ^ 32 from h) i
  rw [show (2 : Nat) ^ 32 - (x + 1) = 4294967295 - x by omega] at this
  exact this
theorem testBit_lt32 {m i : Nat} (hm : m < 4294967296) (h : m.testBit i = true) : i < 32 := by
  rcases Nat.lt_or_ge i 32 with h1 | h1
  · exact h1
  · rw [Nat.testBit_lt_two_pow (Nat.lt_of_lt_of_le (show m < 2 ^ 32 from hm) (Nat.pow_le_pow_right (by omega) h1))] at h
    cases h
theorem andNot_below (m j : Nat) (hm : m < 4294967296) (hj : j ≤ 24) : bits .andNot .u32 (m : Int) ((2 ^ j - 1 : Nat) : Int) = ((2 ^ j * (m / 2 ^ j) : Nat) : Int) := by
  have hp := pow_le24 hj
  rw [u32_andNot_nat _ _ hm (by omega)]
  congr 1
  apply Nat.eq_of_testBit_eq
  intro i
  rw [Nat.testBit_and, testBit_not32 _ (by omega), high_testBit, Nat.testBit_two_pow_sub_one, Bool.eq_iff_iff]
  simp only [Bool.and_eq_true, decide_eq_true_eq, Bool.not_eq_true', decide_eq_false_iff_not]
  constructor
  · rintro ⟨h1, h2, h3⟩; exact ⟨by omega, h1⟩
  · rintro ⟨h1, h2⟩; exact ⟨h2, testBit_lt32 hm h2, by omega⟩

theorem mlift (s k f b : Nat) (hs : s < 4294967296) (hf : f < 9223372036854775808) (hb : b < 9223372036854775808) (hk : 1 ≤ k) :
    mask_Lift.f k (s : Int) (f : Int) (b : Int) = some (if movable s f b = true then (((lifted s f b : Nat) : Int), 0) else (0, 10)) := by
  have hm : s % 16777216 < 16777216 := Nat.mod_lt _ (by omega)
  have hmv : movable s f b = movable (s % 16777216) f b := by unfold movable; rw [dimsN_mod]
  have hlf : lifted s f b = lifted (s % 16777216) f b := by unfold lifted; rw [dimsN_mod]
  rw [hmv, hlf]
  obtain ⟨k', rfl⟩ : ∃ k', k = k' + 1 := ⟨k - 1, by omega⟩
  unfold mask_Lift.f
  rw [if_neg (by omega), show decide ((b : Int) < 0) = false from decide_eq_false (by omega), mask_Lift.j0, if_neg Bool.false_ne_true, below, mand s hs]
  simp only [Option.bind_some]
  generalize s % 16777216 = m at *
  rw [andNot_below m _ (by omega) (Nat.min_le_right ..), and_below m _ (by omega) (Nat.min_le_right ..)]
  have hhi : 2 ^ min f 24 * (m / 2 ^ min f 24) ≤ m := Nat.mul_div_le ..
  have hlo : m % 2 ^ min f 24 ≤ m := Nat.mod_le ..
  rw [u64w _ (by omega)]
  by_cases hz : 2 ^ min f 24 * (m / 2 ^ min f 24) = 0
  · have hmv2 : movable m f b = true := movable_iff.2 fun x hx hbit => .inl ((high_zero hm).1 hz x hx hbit)
    have e := lift_bits (f := f) (b := b) hm
    rw [hz, Nat.zero_mul, Nat.or_zero] at e
    rw [if_pos (by omega), if_pos hmv2, e]
  · rw [if_neg (by omega)]
    by_cases h24 : b ≥ 24
    · have hmv2 : ¬ movable m f b = true := fun h => hz ((high_zero hm).2 fun x hx hbit => by
        have := movable_iff.1 h x hx hbit
        omega)
      rw [if_pos (by omega), if_neg hmv2]
    · have hp : 2 ^ b ≤ 16777216 := pow_le24 (by omega)
      have hmul : 2 ^ min f 24 * (m / 2 ^ min f 24) * 2 ^ b ≤ 16777216 * 16777216 := Nat.mul_le_mul (by omega) hp
      rw [if_neg (by omega), u64w b (by omega), if_pos (by omega), shl64_nat _ _ (by omega) (by omega)]
      by_cases hmv2 : movable m f b = true
      · have hs2 := lift_small hm hmv2
        rw [if_neg (by omega), if_pos hmv2]
        rw [Int.emod_eq_of_lt (by omega) (by omega), u32_or_nat _ _ (by omega) (by omega), lift_bits hm]
      · have hs2 := lift_none (m := m) (f := f) (b := b) (by simpa using hmv2)
        rw [if_pos (by omega), if_neg hmv2]
theorem mlift_neg (k : Nat) (s f b : Int) (h : f < 0 ∨ b < 0) (hk : 1 ≤ k) : mask_Lift.f k s f b = some (0, 2) := by
  obtain ⟨k', rfl⟩ : ∃ k', k = k' + 1 := ⟨k - 1, by omega⟩
  unfold mask_Lift.f
  by_cases hf : f < 0
  · rw [if_pos hf, mask_Lift.j0, if_pos rfl]
  · rw [if_neg hf, show decide (b < 0) = true from decide_eq_true (by omega), mask_Lift.j0, if_pos rfl]

end Go.Proofs.Ytahbmjpgnfgklaa.Pure
