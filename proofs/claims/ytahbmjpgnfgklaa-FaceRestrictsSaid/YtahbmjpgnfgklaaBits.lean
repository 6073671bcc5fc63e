/-
PLAIN LAW: the dimensions of a word, from the lowest on: the lowest bit, taken off, leaves the others.
-/
import Derived.Lib.TrailingZeros
import Derived.Test.YtahbmjpgnfgklaaCore
namespace Go.Proofs.Ytahbmjpgnfgklaa.H

/-- The lowest bit's place. -/
def low (s : UInt32) : Nat := Lib.ctzFrom 32 s.toNat
theorem low_spec {s : UInt32} (h : s ≠ 0) : low s < 32 ∧ ∃ m, s.toNat = 2 ^ low s * (2 * m + 1) := by
  have h0 : 0 < s.toNat := by
    rcases Nat.eq_zero_or_pos s.toNat with h1 | h1
    · exact absurd (UInt32.toNat_inj.1 (by rw [h1]; rfl)) h
    · exact h1
  obtain ⟨m, hm, hk⟩ := Lib.ctzFrom_spec 32 s.toNat h0 s.toNat_lt
  exact ⟨hk, m, hm⟩
theorem tb_low {s : UInt32} (h : s ≠ 0) : tb s (low s) = true ∧ ∀ i, i < low s → tb s i = false := by
  obtain ⟨_, m, hm⟩ := low_spec h
  unfold tb
  rw [hm]
  refine ⟨?_, fun i hi => ?_⟩
  · rw [Nat.mul_comm, Nat.testBit_mul_two_pow]
    simp [Nat.testBit_zero]
  · rw [Nat.mul_comm, Nat.testBit_mul_two_pow]
    simp
    omega
/-- s & (s - 1) -/
theorem tb_drop_low {s : UInt32} (h : s ≠ 0) (i : Nat) : tb (s &&& (s - 1)) i = (tb s i && decide (i ≠ low s)) := by
  obtain ⟨hk, m, hm⟩ := low_spec h
  have h1 : 1 ≤ s.toNat := by
    rw [hm]
    exact Nat.mul_pos (Nat.two_pow_pos _) (by omega)
  have hsub : (s - 1).toNat = s.toNat - 1 := by
    rw [UInt32.toNat_sub_of_le]
    · rfl
    · exact h1
  rw [tb_and]
  unfold tb
  rw [hsub, hm]
  have hp := Nat.two_pow_pos (low s)
  have e : 2 ^ low s * (2 * m + 1) - 1 = 2 ^ low s * (2 * m) + (2 ^ low s - 1) := by rw [Nat.mul_add, Nat.mul_one]; omega
  rw [e, Nat.testBit_two_pow_mul_add _ (by omega), Nat.mul_comm (2 ^ low s), Nat.testBit_mul_two_pow]
  by_cases hi : i < low s
  · simp [hi, show ¬ low s ≤ i by omega]
  · by_cases he : i = low s
    · subst he
      simp [Nat.testBit_zero]
    · obtain ⟨j, rfl⟩ : ∃ j, i = low s + (j + 1) := ⟨i - low s - 1, by omega⟩
      have e3 : low s + (j + 1) - low s = j + 1 := by omega
      have d1 : (2 * m + 1) / 2 = m := by omega
      have d2 : (2 * m) / 2 = m := by omega
      rw [if_neg hi, e3, Nat.testBit_succ, Nat.testBit_succ, d1, d2]
      simp
theorem dims_low {s : UInt32} (h : s ≠ 0) (hs : r1 s = true) : dims s = low s :: dims (s &&& (s - 1)) := by
  obtain ⟨h1, h2⟩ := tb_low h
  have hl : low s < 24 := r1_iff.1 hs _ h1
  unfold dims
  have e : List.range 24 = List.range (low s) ++ low s :: (List.range (23 - low s)).map (low s + 1 + ·) := by
    have a := @List.range_add (low s) (24 - low s)
    rw [show low s + (24 - low s) = 24 by omega] at a
    rw [a]
    congr 1
    rw [show 24 - low s = (23 - low s) + 1 by omega, List.range_succ_eq_map]
    simp only [List.map_cons, List.map_map, Nat.add_zero]
    congr 1
    refine List.map_congr_left fun x _ => ?_
    show low s + (x + 1) = low s + 1 + x
    omega
  rw [e, List.filter_append, List.filter_append, List.filter_cons, List.filter_cons]
  have f1 : (List.range (low s)).filter (fun i => tb s i) = [] := by
    rw [List.filter_eq_nil_iff]
    intro i hi
    rw [h2 i (by simpa using hi)]
    simp
  have f2 : (List.range (low s)).filter (fun i => tb (s &&& (s - 1)) i) = [] := by
    rw [List.filter_eq_nil_iff]
    intro i hi
    rw [tb_drop_low h, h2 i (by simpa using hi)]
    simp
  have f3 : tb (s &&& (s - 1)) (low s) = false := by rw [tb_drop_low h]; simp
  rw [f1, f2, h1, f3]
  simp only [List.nil_append, if_true, Bool.false_eq_true, if_false]
  congr 1
  refine List.filter_congr fun i hi => ?_
  obtain ⟨x, _, rfl⟩ := List.mem_map.1 hi
  rw [tb_drop_low h]
  simp
  intro _
  omega
theorem r1_drop_low {s : UInt32} (hs : r1 s = true) : r1 (s &&& (s - 1)) = true := by
  rw [r1_iff] at *
  intro i hi
  rw [tb_and, Bool.and_eq_true] at hi
  exact hs i hi.1
theorem dims_zero : dims 0 = [] := by
  unfold dims
  rw [List.filter_eq_nil_iff]
  intro i _
  rw [tb_zero]
  simp
theorem tb_mask (s : UInt32) (i : Nat) : tb (s &&& 16777215) i = (tb s i && decide (i < 24)) := by rw [tb_and, show tb (16777215 : UInt32) i = decide (i < 24) from tb_M24 i]
theorem r1_mask (s : UInt32) : r1 (s &&& 16777215) = true := by
  rw [r1_iff]
  intro i hi
  rw [tb_mask] at hi
  simp at hi
  exact hi.2
theorem dims_mask (s : UInt32) : dims (s &&& 16777215) = dims s := by
  unfold dims
  refine List.filter_congr fun i hi => ?_
  rw [tb_mask]
  have : i < 24 := by simpa using hi
  simp [this]
theorem dims_inj {a b : UInt32} (ha : r1 a = true) (hb : r1 b = true) (h : dims a = dims b) : a = b := by
  refine tb_ext fun i => ?_
  rw [Bool.eq_iff_iff]
  have key : ∀ i, i ∈ dims a ↔ i ∈ dims b := fun i => by rw [h]
  constructor
  · intro hi; exact (mem_dims.1 ((key i).1 (mem_dims.2 ⟨r1_iff.1 ha i hi, hi⟩))).2
  · intro hi; exact (mem_dims.1 ((key i).2 (mem_dims.2 ⟨r1_iff.1 hb i hi, hi⟩))).2
end Go.Proofs.Ytahbmjpgnfgklaa.H
