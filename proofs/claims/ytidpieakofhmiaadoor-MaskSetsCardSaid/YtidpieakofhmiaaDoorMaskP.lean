/-
PLAIN LAW: what the program's functions of layer 1 compute.
-/
import Derived.Laws.BitsAllLaws
import Derived.Test.YtidpieakofhmiaaDoorRefP
namespace Go.Proofs.YtidpieakofhmiaaDoor.Pure
open Go.RowKit Go.Proofs.YtidpieakofhmiaaDoor.XMask Go.Proofs.YtidpieakofhmiaaDoorW.PrintWords Go.Proofs.YtidpieakofhmiaaDoorW.PrintLast Go.Proofs.YtidpieakofhmiaaDoorW.PrintMore H

theorem u64w (n : Nat) (h : n < 18446744073709551616) : IntKind.u64.wrap (n : Int) = (n : Int) := by
  rw [IntKind.wrap_u64]
  omega
theorem u32w (n : Nat) (h : n < 4294967296) : IntKind.u32.wrap (n : Int) = (n : Int) := by
  rw [IntKind.wrap_u32]
  omega
theorem mand (s : Nat) (hs : s < 4294967296) : bits .and .u32 (s : Int) 16777215 = ((s % 16777216 : Nat) : Int) := by
  have := u32_and_nat s 16777215 hs (by omega)
  rw [show ((16777215 : Nat) : Int) = 16777215 from rfl] at this
  rw [this, show (16777215 : Nat) = 2 ^ 24 - 1 from rfl, Nat.and_two_pow_sub_one_eq_mod]
theorem shl64_one (j : Nat) (h : j ≤ 24) : shl .u64 1 (j : Int) = ((2 ^ j : Nat) : Int) := by
  have hp : 2 ^ j ≤ 2 ^ 24 := Nat.pow_le_pow_right (by omega) h
  have e : min j 64 = j := by omega
  unfold shl
  rw [Int.toNat_natCast, show IntKind.u64.bits = 64 from rfl, e, Int.one_mul, show ((2 : Int) ^ j) = ((2 ^ j : Nat) : Int) by rw [Int.natCast_pow]; rfl]
  exact u64w _ (by omega)
theorem shl32_nat (a j : Nat) (h : a * 2 ^ j < 4294967296) (hj : j ≤ 32) : shl .u32 (a : Int) (j : Int) = ((a * 2 ^ j : Nat) : Int) := by
  have e : min j 32 = j := by omega
  unfold shl
  rw [Int.toNat_natCast, show IntKind.u32.bits = 32 from rfl, e, show ((2 : Int) ^ j) = ((2 ^ j : Nat) : Int) by rw [Int.natCast_pow]; rfl, ← Int.natCast_mul]
  exact u32w _ h
theorem shl64_nat (a j : Nat) (h : a * 2 ^ j < 18446744073709551616) (hj : j ≤ 64) : shl .u64 (a : Int) (j : Int) = ((a * 2 ^ j : Nat) : Int) := by
  have e : min j 64 = j := by omega
  unfold shl
  rw [Int.toNat_natCast, show IntKind.u64.bits = 64 from rfl, e, show ((2 : Int) ^ j) = ((2 ^ j : Nat) : Int) by rw [Int.natCast_pow]; rfl, ← Int.natCast_mul]
  exact u64w _ h
theorem shr32_nat (a j : Nat) (hj : j ≤ 32) : shr .u32 (a : Int) (j : Int) = ((a / 2 ^ j : Nat) : Int) := by
  have e : min j 32 = j := by omega
  unfold shr
  rw [Int.toNat_natCast, show IntKind.u32.bits = 32 from rfl, e, show ((2 : Int) ^ j) = ((2 ^ j : Nat) : Int) by rw [Int.natCast_pow]; rfl, ← Int.natCast_ediv]
theorem pow_le24 {j : Nat} (h : j ≤ 24) : 2 ^ j ≤ 16777216 := Nat.pow_le_pow_right (n := 2) (by omega) h

theorem below (i : Nat) : mask_below.f (i : Int) = some ((2 ^ min i 24 - 1 : Nat) : Int) := by
  have hp := pow_le24 (Nat.min_le_right i 24)
  have h0 := Nat.two_pow_pos (min i 24)
  have e1 : mn (i : Int) 24 = ((min i 24 : Nat) : Int) := by
    unfold mn
    split <;> omega
  unfold mask_below.f
  rw [e1, u64w _ (by omega), if_pos (by omega), shl64_one _ (Nat.min_le_right i 24)]
  rw [show ((2 ^ min i 24 : Nat) : Int) - 1 = ((2 ^ min i 24 - 1 : Nat) : Int) by omega, u64w _ (by omega), Int.emod_eq_of_lt (by omega) (by omega)]
theorem dimension (i : Int) : mask_dimension.f i = some (decide (0 ≤ i ∧ i < 24)) := by
  unfold mask_dimension.f
  by_cases h : i ≥ 0
  · rw [if_pos h]
    have h' : 0 ≤ i := h
    simp [h']
  · rw [if_neg h]
    have h' : ¬ 0 ≤ i := h
    simp [h']
theorem and_below (m j : Nat) (hm : m < 4294967296) (hj : j ≤ 24) : bits .and .u32 (m : Int) ((2 ^ j - 1 : Nat) : Int) = ((m % 2 ^ j : Nat) : Int) := by
  have hp := pow_le24 hj
  rw [u32_and_nat _ _ hm (by omega), Nat.and_two_pow_sub_one_eq_mod]
theorem testBit_not32 (x : Nat) (h : x < 4294967296) (i : Nat) : (4294967295 - x).testBit i = (decide (i < 32) && !x.testBit i) := by
  have := Nat.testBit_two_pow_sub_succ (n := 32) (show x < 2 ^ 32 from h) i
  rw [show (2 : Nat) ^ 32 - (x + 1) = 4294967295 - x by omega] at this
  exact this
theorem testBit_lt32 {m i : Nat} (hm : m < 4294967296) (h : m.testBit i = true) : i < 32 := by
  rcases Nat.lt_or_ge i 32 with h1 | h1
  · exact h1
  · rw [Nat.testBit_lt_two_pow (Nat.lt_of_lt_of_le (show m < 2 ^ 32 from hm) (Nat.pow_le_pow_right (by omega) h1))] at h
    cases h
theorem andNot_below (m j : Nat) (hm : m < 4294967296) (hj : j ≤ 24) : bits .andNot .u32 (m : Int) ((2 ^ j - 1 : Nat) : Int) = ((2 ^ j * (m / 2 ^ j) : Nat) : Int) := by
  have hp := pow_le24 hj
  rw [u32_andNot_nat _ _ hm (by omega)]
  congr 1
  apply Nat.eq_of_testBit_eq
  intro i
  rw [Nat.testBit_and, testBit_not32 _ (by omega), high_testBit, Nat.testBit_two_pow_sub_one, Bool.eq_iff_iff]
  simp only [Bool.and_eq_true, decide_eq_true_eq, Bool.not_eq_true', decide_eq_false_iff_not]
  constructor
  · rintro ⟨h1, h2, h3⟩; exact ⟨by omega, h1⟩
  · rintro ⟨h1, h2⟩; exact ⟨h2, testBit_lt32 hm h2, by omega⟩

theorem mdrop (s : Nat) (i : Int) (hs : s < 4294967296) : mask_Drop.f (s : Int) i = some (if 0 ≤ i ∧ i < 24 then ((dropped s i.toNat : Nat) : Int) else ((s % 16777216 : Nat) : Int)) := by
  unfold mask_Drop.f
  rw [dimension]
  simp only [Option.bind_some]
  by_cases h : 0 ≤ i ∧ i < 24
  · obtain ⟨n, rfl⟩ := Int.eq_ofNat_of_zero_le h.1
    have hn : n < 24 := by omega
    have hm : s % 16777216 < 16777216 := Nat.mod_lt _ (by omega)
    have e1 : wrap64 ((n : Int) + 1) = ((n + 1 : Nat) : Int) := by
      rw [wrap64_small (by omega) (by omega)]
      omega
    have hmin : min n 24 = n := by omega
    have hq : s % 16777216 / 2 ^ (n + 1) * 2 ^ n ≤ s % 16777216 := by
      have h1 : s % 16777216 / 2 ^ (n + 1) * 2 ^ (n + 1) ≤ s % 16777216 := Nat.div_mul_le_self ..
      have h2 : s % 16777216 / 2 ^ (n + 1) * 2 ^ n ≤ s % 16777216 / 2 ^ (n + 1) * 2 ^ (n + 1) := Nat.mul_le_mul_left _ (Nat.pow_le_pow_right (by omega) (by omega))
      omega
    have hr : s % 16777216 % 2 ^ n ≤ s % 16777216 := Nat.mod_le ..
    rw [if_pos (decide_eq_true h), below, e1, u64w _ (by omega), u64w _ (by omega), mand s hs]
    simp only [Option.bind_some]
    rw [if_pos (by omega), if_pos (by omega), hmin, and_below _ _ (by omega) (by omega), shr32_nat _ _ (by omega), shl32_nat _ _ (by omega) (by omega), u32_or_nat _ _ (by omega) (by omega), drop_bits hn hm, if_pos h]
    rw [Int.toNat_natCast]
    unfold dropped
    rw [dimsN_mod]
  · rw [if_neg (by simpa using h), mand s hs, if_neg h]

theorem mhas (s : Nat) (i : Int) (hs : s < 4294967296) : mask_Has.f (s : Int) i = some (decide (0 ≤ i ∧ i < 24) && s.testBit i.toNat) := by
  unfold mask_Has.f
  rw [dimension]
  simp only [Option.bind_some]
  by_cases h : 0 ≤ i ∧ i < 24
  · obtain ⟨n, rfl⟩ := Int.eq_ofNat_of_zero_le h.1
    have hd : s / 2 ^ n ≤ s := Nat.div_le_self ..
    have e := u32_and_nat (s / 2 ^ n) 1 (by omega) (by omega)
    rw [show ((1 : Nat) : Int) = 1 from rfl, Nat.and_one_is_mod] at e
    rw [if_pos (decide_eq_true h), u64w _ (by omega), if_pos (by omega), shr32_nat _ _ (by omega), decide_eq_true h, Bool.true_and, Int.toNat_natCast, e, Nat.testBit_eq_decide_div_mod_eq]
    rw [Option.some.injEq, Bool.eq_iff_iff]
    simp only [beq_iff_eq, decide_eq_true_eq]
    omega
  · rw [if_neg (by simpa using h), decide_eq_false h]
    rfl
theorem mwith (s : Nat) (i : Int) (hs : s < 4294967296) : mask_With.f (s : Int) i = some (if 0 ≤ i ∧ i < 24 then ((s % 16777216 ||| 2 ^ i.toNat : Nat) : Int) else ((s % 16777216 : Nat) : Int)) := by
  unfold mask_With.f
  rw [dimension]
  simp only [Option.bind_some]
  by_cases h : 0 ≤ i ∧ i < 24
  · obtain ⟨n, rfl⟩ := Int.eq_ofNat_of_zero_le h.1
    have hp := pow_le24 (j := n) (by omega)
    have e := shl32_nat 1 n (by omega) (by omega)
    rw [Nat.one_mul, show ((1 : Nat) : Int) = 1 from rfl] at e
    rw [if_pos (decide_eq_true h), u64w _ (by omega), if_pos (by omega), mand s hs, e, u32_or_nat _ _ (by omega) (by omega), if_pos h, Int.toNat_natCast]
  · rw [if_neg (by simpa using h), mand s hs, if_neg h]
theorem without_bits (s n : Nat) : s % 16777216 &&& (4294967295 - 2 ^ n) = sumPow ((dimsN s).filter fun x : Nat => decide ((x : Int) ≠ (n : Int))) ∨ 24 ≤ n := by
  rcases Nat.lt_or_ge n 24 with hn | hn
  · left
    have hp := pow_le24 (j := n) (by omega)
    apply Nat.eq_of_testBit_eq
    intro i
    rw [Nat.testBit_and, testBit_not32 _ (by omega), testBit_low24, Nat.testBit_two_pow, sumPow_testBit (nodup_of_asc ((dimsN_asc s).filter _)), Bool.eq_iff_iff]
    simp only [Bool.and_eq_true, decide_eq_true_eq, Bool.not_eq_true', decide_eq_false_iff_not, List.mem_filter, mem_dimsN]
    constructor
    · rintro ⟨⟨h1, h2⟩, h3, h4⟩; exact ⟨⟨h1, h2⟩, by omega⟩
    · rintro ⟨⟨h1, h2⟩, h3⟩; exact ⟨⟨h1, h2⟩, by omega, by omega⟩
  · exact .inr hn
theorem mwithout (s : Nat) (i : Int) (hs : s < 4294967296) : mask_Without.f (s : Int) i = some ((sumPow ((dimsN s).filter fun x : Nat => decide ((x : Int) ≠ i)) : Nat) : Int) := by
  unfold mask_Without.f
  rw [dimension]
  simp only [Option.bind_some]
  by_cases h : 0 ≤ i ∧ i < 24
  · obtain ⟨n, rfl⟩ := Int.eq_ofNat_of_zero_le h.1
    have hp := pow_le24 (j := n) (by omega)
    have e := shl32_nat 1 n (by omega) (by omega)
    rw [Nat.one_mul, show ((1 : Nat) : Int) = 1 from rfl] at e
    rw [if_pos (decide_eq_true h), u64w _ (by omega), if_pos (by omega), mand s hs, e, u32_andNot_nat _ _ (by omega) (by omega), (without_bits s n).resolve_right (by omega)]
  · rw [if_neg (by simpa using h), mand s hs, List.filter_eq_self.2, sumPow_dimsN]
    intro x hx
    have := (mem_dimsN.1 hx).1
    simp
    omega
theorem pops_dims (m : Nat) (hm : m < 16777216) : pops m (List.range 32) = (dimsN m).length := by
  unfold pops
  congr 1
  refine (dimsN_eq ((range_asc 32).filter _) fun i => ?_).symm
  rw [List.mem_filter, List.mem_range]
  constructor
  · rintro ⟨_, h⟩
    refine ⟨?_, h⟩
    rcases Nat.lt_or_ge i 24 with h1 | h1
    · exact h1
    · rw [testBit_high hm h1] at h; cases h
  · rintro ⟨h1, h2⟩; exact ⟨by omega, h2⟩
theorem mcount (s : Nat) (hs : s < 4294967296) : mask_Count.f (s : Int) = some (((dimsN s).length : Nat) : Int) := by
  have hm : s % 16777216 < 16777216 := Nat.mod_lt _ (by omega)
  unfold mask_Count.f bits_OnesCount32.f
  rw [mand s hs, if_pos (by omega)]
  simp only [Option.bind_some]
  rw [Int.toNat_natCast, pops_dims _ hm, dimsN_mod]
theorem mlist (s : Nat) (hs : s < 4294967296) : mask_List.f (s : Int) = some (L (dimsN s)) := by
  unfold mask_List.f
  rw [if_pos (by omega), Int.toNat_natCast, dims_ofNat hs]
  rfl
theorem mright (s : Nat) (hs : s < 4294967296) : mask_Right.f (s : Int) = some (decide (s < 16777216)) := by
  unfold mask_Right.f
  have := u32_andNot_nat s 16777215 hs (by omega)
  rw [show ((16777215 : Nat) : Int) = 16777215 from rfl] at this
  rw [this, Option.some.injEq, Bool.eq_iff_iff]
  simp only [beq_iff_eq, decide_eq_true_eq]
  have h2 : s &&& (4294967295 - 16777215) = 2 ^ 24 * (s / 2 ^ 24) := by
    apply Nat.eq_of_testBit_eq
    intro i
    rw [Nat.testBit_and, testBit_not32 _ (by omega), high_testBit, show (16777215 : Nat) = 2 ^ 24 - 1 from rfl, Nat.testBit_two_pow_sub_one, Bool.eq_iff_iff]
    simp only [Bool.and_eq_true, decide_eq_true_eq, Bool.not_eq_true', decide_eq_false_iff_not]
    constructor
    · rintro ⟨h1, h2, h3⟩; exact ⟨by omega, h1⟩
    · rintro ⟨h1, h2⟩; exact ⟨h2, testBit_lt32 hs h2, by omega⟩
  rw [h2]
  omega
theorem refright (s k : Nat) (hs : s < 4294967296) (hk : 41 ≤ k) : hypercuberef01_Right.f k (s : Int) = some (decide (s < 16777216)) := by
  unfold hypercuberef01_Right.f
  have := power 24 k (by omega) hk
  rw [show ((24 : Nat) : Int) = 24 from rfl] at this
  rw [this]
  simp only [Option.bind_some]
  rw [wrap64_small (by omega) (by omega), Option.some.injEq, decide_eq_decide]
  omega

theorem mlift (s k f b : Nat) (hs : s < 4294967296) (hf : f < 9223372036854775808) (hb : b < 9223372036854775808) (hk : 1 ≤ k) :
    mask_Lift.f k (s : Int) (f : Int) (b : Int) = some (if movable s f b = true then (((lifted s f b : Nat) : Int), 0) else (0, 10)) := by
  have hm : s % 16777216 < 16777216 := Nat.mod_lt _ (by omega)
  have hmv : movable s f b = movable (s % 16777216) f b := by unfold movable; rw [dimsN_mod]
  have hlf : lifted s f b = lifted (s % 16777216) f b := by unfold lifted; rw [dimsN_mod]
  rw [hmv, hlf]
  obtain ⟨k', rfl⟩ : ∃ k', k = k' + 1 := ⟨k - 1, by omega⟩
  unfold mask_Lift.f
  rw [if_neg (by omega), show decide ((b : Int) < 0) = false from decide_eq_false (by omega), mask_Lift.j0, if_neg Bool.false_ne_true, below, mand s hs]
  simp only [Option.bind_some]
  generalize s % 16777216 = m at *
  rw [andNot_below m _ (by omega) (Nat.min_le_right ..), and_below m _ (by omega) (Nat.min_le_right ..)]
  have hhi : 2 ^ min f 24 * (m / 2 ^ min f 24) ≤ m := Nat.mul_div_le ..
  have hlo : m % 2 ^ min f 24 ≤ m := Nat.mod_le ..
  rw [u64w _ (by omega)]
  by_cases hz : 2 ^ min f 24 * (m / 2 ^ min f 24) = 0
  · have hmv2 : movable m f b = true := movable_iff.2 fun x hx hbit => .inl ((high_zero hm).1 hz x hx hbit)
    have e := lift_bits (f := f) (b := b) hm
    rw [hz, Nat.zero_mul, Nat.or_zero] at e
    rw [if_pos (by omega), if_pos hmv2, e]
  · rw [if_neg (by omega)]
    by_cases h24 : b ≥ 24
    · have hmv2 : ¬ movable m f b = true := fun h => hz ((high_zero hm).2 fun x hx hbit => by
        have := movable_iff.1 h x hx hbit
        omega)
      rw [if_pos (by omega), if_neg hmv2]
    · have hp : 2 ^ b ≤ 16777216 := pow_le24 (by omega)
      have hmul : 2 ^ min f 24 * (m / 2 ^ min f 24) * 2 ^ b ≤ 16777216 * 16777216 := Nat.mul_le_mul (by omega) hp
      rw [if_neg (by omega), u64w b (by omega), if_pos (by omega), shl64_nat _ _ (by omega) (by omega)]
      by_cases hmv2 : movable m f b = true
      · have hs2 := lift_small hm hmv2
        rw [if_neg (by omega), if_pos hmv2]
        rw [Int.emod_eq_of_lt (by omega) (by omega), u32_or_nat _ _ (by omega) (by omega), lift_bits hm]
      · have hs2 := lift_none (m := m) (f := f) (b := b) (by simpa using hmv2)
        rw [if_pos (by omega), if_neg hmv2]
theorem mlift_neg (k : Nat) (s f b : Int) (h : f < 0 ∨ b < 0) (hk : 1 ≤ k) : mask_Lift.f k s f b = some (0, 2) := by
  obtain ⟨k', rfl⟩ : ∃ k', k = k' + 1 := ⟨k - 1, by omega⟩
  unfold mask_Lift.f
  by_cases hf : f < 0
  · rw [if_pos hf, mask_Lift.j0, if_pos rfl]
  · rw [if_neg hf, show decide (b < 0) = true from decide_eq_true (by omega), mask_Lift.j0, if_pos rfl]

theorem ints_l0 (l : List Nat) : ∀ (post pre : List Nat) (k : Nat), pre ++ post = l → l.length < 1000 → post.length < k → hypercuberef01_Ints.l0 k (L l) (L l) (pre.length : Int) = some true
  | _, _, 0, _, _, hk => absurd hk (by omega)
  | [], pre, k + 1, he, _, _ => by
    rw [List.append_nil] at he
    subst he
    unfold hypercuberef01_Ints.l0
    rw [if_neg (by rw [L_len]; omega)]
  | a :: post, pre, k + 1, he, hl, hk => by
    have e3 : pre ++ a :: post = (pre ++ [a]) ++ post := by simp
    have hl2 := hl
    rw [← he, List.length_append, List.length_cons] at hl2
    rw [List.length_cons] at hk
    have e2 : wrap64 ((pre.length : Int) + 1) = (((pre ++ [a]).length : Nat) : Int) := by
      rw [wrap64_small (by omega) (by omega), List.length_append, List.length_singleton]
      omega
    have hlen : pre.length < l.length := by rw [← he, List.length_append, List.length_cons]; omega
    unfold hypercuberef01_Ints.l0
    rw [if_pos (by rw [L_len]; omega), if_pos (by omega), if_pos (by rw [L_len]; omega), if_pos rfl, e2]
    exact ints_l0 l post (pre ++ [a]) k (by rw [← e3]; exact he) hl (by omega)
theorem ints (l : List Nat) (k : Nat) (hl : l.length < 1000) (hk : l.length < k) : hypercuberef01_Ints.f k (L l) (L l) = some true := by
  unfold hypercuberef01_Ints.f
  rw [if_pos rfl]
  exact ints_l0 l l [] k rfl hl hk

theorem works_at : hypercubelaw01_works.f 100 = some true := by decide +kernel
theorem works (d : Nat) : hypercubelaw01_works.f (100 + d) = some true := by
  induction d with
  | zero => exact works_at
  | succ d ih => exact hypercubelaw01_works.mono (100 + d) true ih
theorem works' (k : Nat) (hk : 100 ≤ k) : hypercubelaw01_works.f k = some true := by
  have := works (k - 100)
  rwa [show 100 + (k - 100) = k by omega] at this
end Go.Proofs.YtidpieakofhmiaaDoor.Pure
