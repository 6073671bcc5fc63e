/-
PLAIN LAW: each statement of layer 1, of what the functions compute.
-/
import Derived.Test.YtidpieakofhmiaaDoorMaskP
namespace Go.Proofs.YtidpieakofhmiaaDoor.Pure
open Go.RowKit Go.Proofs.YtidpieakofhmiaaDoor.XMask Go.Proofs.YtidpieakofhmiaaDoorW.PrintWords Go.Proofs.YtidpieakofhmiaaDoorW.PrintLast Go.Proofs.YtidpieakofhmiaaDoorW.PrintMore H

theorem MaskDrops : hypercubelaw01_MaskDrops.Pure := by
  intro a0 a1 h0 _
  obtain ⟨s, rfl, hs⟩ := wf_u32 h0
  obtain ⟨k, hk⟩ : ∃ k, 200 ≤ k := ⟨200, Nat.le_refl _⟩
  refine ⟨k, ?_⟩
  unfold hypercubelaw01_MaskDrops.f
  rw [mdrop s a1 hs]
  have key : hypercuberef01_Drop.f k (s : Int) a1 = some (if 0 ≤ a1 ∧ a1 < 24 then ((dropped s a1.toNat : Nat) : Int) else ((s % 16777216 : Nat) : Int)) := by
    by_cases hn : a1 < 0
    · rw [drop_neg' s k a1 hs hn (by omega), if_neg (by omega)]
    · obtain ⟨n, rfl⟩ := Int.eq_ofNat_of_zero_le (show 0 ≤ a1 by omega)
      rw [drop s k n hs (by omega)]
      by_cases h : n < 24
      · rw [if_pos (by omega), Int.toNat_natCast]
      · rw [if_neg (by omega)]
        have e : dropped s n = s % 16777216 := by
          rw [← sumPow_dimsN]
          unfold dropped
          rw [List.filter_eq_self.2 (by intro x hx; have := (mem_dimsN.1 hx).1; simp; omega)]
          congr 1
          refine List.map_congr_left (g := id) (fun x hx => ?_) |>.trans (List.map_id _)
          have := (mem_dimsN.1 hx).1
          unfold lower
          rw [if_neg (by omega)]
          rfl
        rw [e]
  rw [key]
  simp only [Option.bind_some]
  rw [if_pos trivial, works' k (by omega)]
  rfl

theorem MaskLifts : hypercubelaw01_MaskLifts.Pure := by
  intro a0 a1 a2 h0 h1 h2
  obtain ⟨s, rfl, hs⟩ := wf_u32 h0
  have b1 := wf_i64 h1
  have b2 := wf_i64 h2
  obtain ⟨k, hk⟩ : ∃ k, 200 ≤ k := ⟨200, Nat.le_refl _⟩
  refine ⟨k, ?_⟩
  unfold hypercubelaw01_MaskLifts.f
  have key : mask_Lift.f k (s : Int) a1 a2 = hypercuberef01_Lift.f k (s : Int) a1 a2 ∧ ∃ r, hypercuberef01_Lift.f k (s : Int) a1 a2 = some r := by
    by_cases hn : a1 < 0 ∨ a2 < 0
    · rw [mlift_neg k _ _ _ hn (by omega), reflift_neg k _ _ _ hn (by omega)]
      exact ⟨rfl, _, rfl⟩
    · obtain ⟨f, rfl⟩ := Int.eq_ofNat_of_zero_le (show 0 ≤ a1 by omega)
      obtain ⟨b, rfl⟩ := Int.eq_ofNat_of_zero_le (show 0 ≤ a2 by omega)
      rw [mlift s k f b hs (by omega) (by omega) (by omega), reflift s k f b hs (by omega) (by omega) (by omega)]
      exact ⟨rfl, _, rfl⟩
  obtain ⟨e, r, hr⟩ := key
  rw [e, hr]
  simp only [Option.bind_some]
  rw [if_pos trivial, if_pos trivial, works' k (by omega)]
  rfl

theorem free_l0 (s : Nat) (hs : s < 4294967296) (r : Int) (hr : (r = -1 ∧ ∀ j, j < 24 → s.testBit j = true) ∨ ∃ n : Nat, r = n ∧ n < 24 ∧ s.testBit n = false ∧ ∀ j, j < n → s.testBit j = true) :
    ∀ (d k i : Nat), i + d = 24 → d + 42 ≤ k → (∀ j, j < i → s.testBit j = true) → hypercuberef01_Free.l0 k (s : Int) (i : Int) = some r
  | d, 0, _, _, hk, _ => absurd hk (by omega)
  | 0, k + 1, i, hi, _, hb => by
    obtain rfl : i = 24 := by omega
    unfold hypercuberef01_Free.l0
    rw [if_neg (by omega)]
    rcases hr with ⟨rfl, _⟩ | ⟨n, _, h1, h2, _⟩
    · rfl
    · rw [hb n h1] at h2; cases h2
  | d + 1, k + 1, i, hi, hk, hb => by
    have e2 : wrap64 ((i : Int) + 1) = ((i + 1 : Nat) : Int) := by
      rw [wrap64_small (by omega) (by omega)]
      omega
    unfold hypercuberef01_Free.l0
    rw [if_pos (by omega), has s k i hs (by omega)]
    simp only [Option.bind_some]
    rw [Int.toNat_natCast, show decide (0 ≤ (i : Int) ∧ (i : Int) < 24) = true from decide_eq_true (by omega), Bool.true_and]
    by_cases h : s.testBit i = true
    · rw [if_pos h, e2]
      refine free_l0 s hs r hr d k (i + 1) (by omega) (by omega) fun j hj => ?_
      rcases Nat.lt_or_ge j i with h1 | h1
      · exact hb j h1
      · obtain rfl : j = i := by omega
        exact h
    · rw [if_neg h]
      rcases hr with ⟨_, h2⟩ | ⟨n, rfl, h1, h2, h3⟩
      · exact absurd (h2 i (by omega)) h
      · rcases Nat.lt_trichotomy n i with h4 | h4 | h4
        · rw [hb n h4] at h2; cases h2
        · rw [h4]
        · exact absurd (h3 i h4) h
theorem freeP_spec (s : Nat) (hs : s < 4294967296) : (freeP (UInt32.ofNat s) = -1 ∧ ∀ j, j < 24 → s.testBit j = true) ∨ ∃ n : Nat, freeP (UInt32.ofNat s) = n ∧ n < 24 ∧ s.testBit n = false ∧ ∀ j, j < n → s.testBit j = true := by
  have htb : ∀ j, tb (UInt32.ofNat s) j = s.testBit j := fun j => by
    unfold tb
    rw [UInt32.toNat_ofNat', Nat.mod_eq_of_lt hs]
  unfold freeP
  by_cases h : UInt32.ofNat s &&& 16777215 = 16777215
  · left
    rw [if_pos h]
    refine ⟨rfl, fun j hj => ?_⟩
    have := tb_mask (UInt32.ofNat s) j
    rw [h, show tb (16777215 : UInt32) j = decide (j < 24) from tb_M24 j, htb, decide_eq_true hj, Bool.and_true] at this
    exact this.symm
  · right
    rw [if_neg h]
    have hne : ∃ j, j < 24 ∧ s.testBit j = false := by
      refine Classical.byContradiction fun hno => h (tb_ext fun j => ?_)
      rw [tb_mask, show tb (16777215 : UInt32) j = decide (j < 24) from tb_M24 j, htb]
      by_cases hj : j < 24
      · have : s.testBit j = true := by
          rw [← Bool.not_eq_false]
          intro hf
          exact hno ⟨j, hj, hf⟩
        rw [this, Bool.true_and]
      · rw [decide_eq_false hj, Bool.and_false]
    obtain ⟨j0, hj0, hf0⟩ := hne
    have hn0 : ~~~ UInt32.ofNat s ≠ 0 := by
      intro e
      have := tb_not (UInt32.ofNat s) j0
      rw [e, tb_zero, htb, hf0] at this
      simp at this
      omega
    obtain ⟨hl, hlt⟩ := tb_low hn0
    have hle : low (~~~ UInt32.ofNat s) ≤ j0 := by
      rcases Nat.lt_or_ge j0 (low (~~~ UInt32.ofNat s)) with h1 | h1
      · have := hlt j0 h1
        rw [tb_not, htb, hf0] at this
        simp at this
        omega
      · exact h1
    refine ⟨_, rfl, by omega, ?_, fun j hj => ?_⟩
    · rw [tb_not, htb] at hl
      simp at hl
      exact hl.2
    · have := hlt j hj
      rw [tb_not, htb] at this
      simp at this
      exact this (by omega)
theorem reffree (s k : Nat) (hs : s < 4294967296) (hk : 100 ≤ k) : hypercuberef01_Free.f k (s : Int) = some (freeP (UInt32.ofNat s)) := by
  unfold hypercuberef01_Free.f
  exact free_l0 s hs _ (freeP_spec s hs) 24 k 0 rfl (by omega) (fun j hj => absurd hj (by omega))
theorem mfree (s : Nat) (hs : s < 4294967296) : mask_Free.f (s : Int) = some (freeP (UInt32.ofNat s)) := by
  have h : 0 ≤ (s : Int) ∧ (s : Int) < 4294967296 := by omega
  unfold mask_Free.f
  generalize hx : (s : Int) = x at h ⊢
  have e : x.toNat = s := by omega
  generalize freeP = F
  rw [if_pos h, e]
theorem MaskLists : hypercubelaw01_MaskLists.Pure := by
  intro a0 h0
  obtain ⟨s, rfl, hs⟩ := wf_u32 h0
  have hlen := dimsN_len s
  obtain ⟨k, hk⟩ : ∃ k, 200 ≤ k := ⟨200, Nat.le_refl _⟩
  refine ⟨k, ?_⟩
  have e1 := mcount s hs
  have e2 := list s k hs (by omega)
  have e3 := mlist s hs
  have e4 := ints (dimsN s) k (by omega) (by omega)
  have e5 := mfree s hs
  have e6 := reffree s k hs (by omega)
  have e7 := works' k (by omega)
  have e8 : (((dimsN s).length : Nat) : Int) = ((L (dimsN s)).length : Int) := by rw [L_len]
  unfold hypercubelaw01_MaskLists.f
  generalize freeP (UInt32.ofNat s) = fr at e5 e6
  generalize L (dimsN s) = l at e2 e3 e4 e8
  rw [e1, e2, e3, e5, e6, e7]
  simp only [Option.bind_some]
  rw [if_pos e8, e4]
  simp only [Option.bind_some]
  rw [if_pos trivial, if_pos trivial]

theorem refwith (s k : Nat) (i : Int) (hs : s < 4294967296) (hk : 100 ≤ k) : hypercuberef01_With.f k (s : Int) i = some (if 0 ≤ i ∧ i < 24 then ((s % 16777216 ||| 2 ^ i.toNat : Nat) : Int) else ((s % 16777216 : Nat) : Int)) := by
  obtain ⟨k', rfl⟩ : ∃ k', k = k' + 1 := ⟨k - 1, by omega⟩
  have hneg : sumPow ((dimsN s).filter fun x : Nat => decide ((x : Int) ≠ -1)) = s % 16777216 := by
    rw [List.filter_eq_self.2, sumPow_dimsN]
    intro x _
    simp
  unfold hypercuberef01_With.f
  by_cases h : 0 ≤ i ∧ i < 24
  · obtain ⟨n, rfl⟩ := Int.eq_ofNat_of_zero_le h.1
    have hlt := sum_filter_lt s fun x : Nat => decide ((x : Int) ≠ (n : Int))
    have hlen := List.length_filter_le (fun x : Nat => decide ((x : Int) ≠ (n : Int))) (dimsN s)
    have hlen2 := dimsN_len s
    rw [if_neg (by omega), show decide ((n : Int) ≥ 24) = false from decide_eq_false (by omega), hypercuberef01_With.j0, if_neg Bool.false_ne_true, without s k' n hs (by omega)]
    simp only [Option.bind_some]
    rw [list _ k' (by omega) (by omega), dimsN_sum_filter]
    simp only [Option.bind_some]
    rw [if_pos (by rw [L_len]; omega)]
    rw [show L ((dimsN s).filter fun x : Nat => decide ((x : Int) ≠ (n : Int))) ++ [(n : Int)] = L (((dimsN s).filter fun x : Nat => decide ((x : Int) ≠ (n : Int))) ++ [n]) by simp [L]]
    rw [set _ k' (by rw [List.length_append, List.length_singleton]; omega) (by
      intro x hx
      rcases List.mem_append.1 hx with h1 | h1
      · exact (mem_dimsN.1 (List.mem_filter.1 h1).1).1
      · rw [List.mem_singleton] at h1; omega) (by omega), if_pos h, Int.toNat_natCast]
    simp only [Option.bind_some]
    rw [Option.some.injEq, Int.ofNat_inj]
    apply Nat.eq_of_testBit_eq
    intro j
    have nd : (((dimsN s).filter fun x : Nat => decide ((x : Int) ≠ (n : Int))) ++ [n]).Nodup := by
      rw [List.nodup_append]
      refine ⟨nodup_of_asc ((dimsN_asc s).filter _), by simp, ?_⟩
      intro a ha b hb e
      rw [List.mem_singleton] at hb
      have := (List.mem_filter.1 ha).2
      simp at this
      omega
    rw [sumPow_testBit nd, Nat.testBit_or, testBit_low24, Nat.testBit_two_pow, Bool.eq_iff_iff]
    simp only [decide_eq_true_eq, Bool.or_eq_true, Bool.and_eq_true, List.mem_append, List.mem_singleton, List.mem_filter, mem_dimsN]
    constructor
    · rintro (⟨h1, _⟩ | h1)
      · exact .inl h1
      · exact .inr h1.symm
    · rintro (h1 | h1)
      · by_cases e : j = n
        · exact .inr e
        · exact .inl ⟨h1, by omega⟩
      · exact .inr h1.symm
  · rw [if_neg h]
    by_cases hn : i < 0
    · rw [if_pos hn, hypercuberef01_With.j0, if_pos rfl, without s k' (-1) hs (by omega), hneg]
      rfl
    · rw [if_neg hn, show decide (i ≥ 24) = true from decide_eq_true (by omega), hypercuberef01_With.j0, if_pos rfl, without s k' (-1) hs (by omega), hneg]
      rfl
theorem MaskAsks : hypercubelaw01_MaskAsks.Pure := by
  intro a0 a1 h0 _
  obtain ⟨s, rfl, hs⟩ := wf_u32 h0
  obtain ⟨k, hk⟩ : ∃ k, 200 ≤ k := ⟨200, Nat.le_refl _⟩
  refine ⟨k, ?_⟩
  unfold hypercubelaw01_MaskAsks.f
  rw [mright s hs, refright s k hs (by omega)]
  simp only [Option.bind_some]
  rw [if_pos (by simp), mhas s a1 hs, has s k a1 hs (by omega)]
  simp only [Option.bind_some]
  rw [if_pos (by simp), mwith s a1 hs, refwith s k a1 hs (by omega)]
  simp only [Option.bind_some]
  rw [if_pos trivial, mwithout s a1 hs, without s k a1 hs (by omega)]
  simp only [Option.bind_some]
  rw [if_pos trivial, works' k (by omega)]
  rfl
end Go.Proofs.YtidpieakofhmiaaDoor.Pure
