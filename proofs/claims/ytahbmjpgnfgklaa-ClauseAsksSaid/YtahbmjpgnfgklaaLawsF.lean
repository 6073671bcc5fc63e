/-
PLAIN LAW: the statement ClauseAsks.
-/
import Derived.Test.YtahbmjpgnfgklaaLawsE
import Derived.Test.YtahbmjpgnfgklaaSortC
namespace Go.Proofs.Ytahbmjpgnfgklaa.Pure
open Go.RowKit Go.Proofs.Ytahbmjpgnfgklaa.XCm Go.Proofs.YtahbmjpgnfgklaaW.PrintWords Go.Proofs.YtahbmjpgnfgklaaW.PrintLast Go.Proofs.YtahbmjpgnfgklaaW.PrintMore H

theorem without_l0 (i : Int) (l : List Nat) (hl : l.length ≤ 24) (hb : ∀ x ∈ l, x < 24) : ∀ (post pre : List Nat) (k : Nat), pre ++ post = l → post.length + 71 ≤ k →
    hypercuberef01_Without.l0 k i (L l) (L (pre.filter fun x : Nat => decide ((x : Int) ≠ i))) (pre.length : Int) = some ((sumPow (l.filter fun x : Nat => decide ((x : Int) ≠ i)) : Nat) : Int)
  | _, _, 0, _, hk => absurd hk (by omega)
  | [], pre, k + 1, he, hk => by
    rw [List.append_nil] at he
    subst he
    unfold hypercuberef01_Without.l0
    have hf := List.length_filter_le (fun x : Nat => decide ((x : Int) ≠ i)) pre
    rw [if_neg (by rw [L_len]; omega), set _ k (by omega) (fun x hx => hb x (List.mem_filter.1 hx).1) (by simp at hk; omega)]
    rfl
  | a :: post, pre, k + 1, he, hk => by
    subst he
    rw [List.length_cons] at hk
    have hl' := hl
    rw [List.length_append, List.length_cons] at hl'
    have e2 : wrap64 ((pre.length : Int) + 1) = (((pre ++ [a]).length : Nat) : Int) := by
      rw [wrap64_small (by omega) (by omega), List.length_append, List.length_singleton]
      omega
    have e3 : pre ++ a :: post = (pre ++ [a]) ++ post := by simp
    have ih := without_l0 i (pre ++ a :: post) hl hb post (pre ++ [a]) k e3.symm (by omega)
    have hf := List.length_filter_le (fun x : Nat => decide ((x : Int) ≠ i)) pre
    unfold hypercuberef01_Without.l0
    rw [if_pos (by rw [L_len, List.length_append, List.length_cons]; omega), if_pos (by omega), rd_mid, e2]
    by_cases h : (a : Int) = i
    · rw [if_pos h]
      rw [List.filter_append] at ih
      simp only [List.filter_cons, List.filter_nil, ne_eq, h, not_true, decide_false, Bool.false_eq_true, if_false, List.append_nil] at ih ⊢
      exact ih
    · rw [if_neg h, if_pos (by rw [L_len]; omega)]
      rw [show L (pre.filter fun x : Nat => decide ((x : Int) ≠ i)) ++ [(a : Int)] = L ((pre ++ [a]).filter fun x : Nat => decide ((x : Int) ≠ i)) by simp [L, List.filter_append, h]]
      exact ih
theorem without (s k : Nat) (i : Int) (hs : s < 4294967296) (hk : 95 ≤ k) : hypercuberef01_Without.f k (s : Int) i = some ((sumPow ((dimsN s).filter fun x : Nat => decide ((x : Int) ≠ i)) : Nat) : Int) := by
  unfold hypercuberef01_Without.f
  rw [list s k hs (by omega)]
  simp only [Option.bind_some]
  have := dimsN_len s
  exact without_l0 i (dimsN s) this (fun x hx => (mem_dimsN.1 hx).1) (dimsN s) [] k rfl (by omega)

theorem dimsN_sum_filter (s : Nat) (p : Nat → Bool) : dimsN (sumPow ((dimsN s).filter p)) = (dimsN s).filter p :=
  dimsN_sumPow ((dimsN_asc s).filter _) fun _ hx => (mem_dimsN.1 (List.mem_filter.1 hx).1).1
theorem sum_filter_lt (s : Nat) (p : Nat → Bool) : sumPow ((dimsN s).filter p) < 16777216 :=
  sumPow_lt (nodup_of_asc ((dimsN_asc s).filter _)) fun _ hx => (mem_dimsN.1 (List.mem_filter.1 hx).1).1
theorem refwith (s k : Nat) (i : Int) (hs : s < 4294967296) (hk : 100 ≤ k) : hypercuberef01_With.f k (s : Int) i = some (if 0 ≤ i ∧ i < 24 then ((s % 16777216 ||| 2 ^ i.toNat : Nat) : Int) else ((s % 16777216 : Nat) : Int)) := by
  obtain ⟨k', rfl⟩ : ∃ k', k = k' + 1 := ⟨k - 1, by omega⟩
  have hneg : sumPow ((dimsN s).filter fun x : Nat => decide ((x : Int) ≠ -1)) = s % 16777216 := by
    rw [List.filter_eq_self.2, sumPow_dimsN]
    intro x _
    simp
  unfold hypercuberef01_With.f
  by_cases h : 0 ≤ i ∧ i < 24
  · obtain ⟨n, rfl⟩ := Int.eq_ofNat_of_zero_le h.1
    have hlt := sum_filter_lt s fun x : Nat => decide ((x : Int) ≠ (n : Int))
    have hlen := List.length_filter_le (fun x : Nat => decide ((x : Int) ≠ (n : Int))) (dimsN s)
    have hlen2 := dimsN_len s
    rw [if_neg (by omega), show decide ((n : Int) ≥ 24) = false from decide_eq_false (by omega), hypercuberef01_With.j0, if_neg Bool.false_ne_true, without s k' n hs (by omega)]
    simp only [Option.bind_some]
    rw [list _ k' (by omega) (by omega), dimsN_sum_filter]
    simp only [Option.bind_some]
    rw [if_pos (by rw [L_len]; omega)]
    rw [show L ((dimsN s).filter fun x : Nat => decide ((x : Int) ≠ (n : Int))) ++ [(n : Int)] = L (((dimsN s).filter fun x : Nat => decide ((x : Int) ≠ (n : Int))) ++ [n]) by simp [L]]
    rw [set _ k' (by rw [List.length_append, List.length_singleton]; omega) (by
      intro x hx
      rcases List.mem_append.1 hx with h1 | h1
      · exact (mem_dimsN.1 (List.mem_filter.1 h1).1).1
      · rw [List.mem_singleton] at h1; omega) (by omega), if_pos h, Int.toNat_natCast]
    simp only [Option.bind_some]
    rw [Option.some.injEq, Int.ofNat_inj]
    apply Nat.eq_of_testBit_eq
    intro j
    have nd : (((dimsN s).filter fun x : Nat => decide ((x : Int) ≠ (n : Int))) ++ [n]).Nodup := by
      rw [List.nodup_append]
      refine ⟨nodup_of_asc ((dimsN_asc s).filter _), by simp, ?_⟩
      intro a ha b hb e
      rw [List.mem_singleton] at hb
      have := (List.mem_filter.1 ha).2
      simp at this
      omega
    rw [sumPow_testBit nd, Nat.testBit_or, testBit_low24, Nat.testBit_two_pow, Bool.eq_iff_iff]
    simp only [decide_eq_true_eq, Bool.or_eq_true, Bool.and_eq_true, List.mem_append, List.mem_singleton, List.mem_filter, mem_dimsN]
    constructor
    · rintro (⟨h1, _⟩ | h1)
      · exact .inl h1
      · exact .inr h1.symm
    · rintro (h1 | h1)
      · by_cases e : j = n
        · exact .inr e
        · exact .inl ⟨h1, by omega⟩
      · exact .inr h1.symm
  · rw [if_neg h]
    by_cases hn : i < 0
    · rw [if_pos hn, hypercuberef01_With.j0, if_pos rfl, without s k' (-1) hs (by omega), hneg]
      rfl
    · rw [if_neg hn, show decide (i ≥ 24) = true from decide_eq_true (by omega), hypercuberef01_With.j0, if_pos rfl, without s k' (-1) hs (by omega), hneg]
      rfl

theorem union_l0 (a : Nat) (D : List Nat) (ha : a < 16777216) (hlen : D.length ≤ 24) (hD : D.Pairwise (· < ·)) (hb : ∀ x ∈ D, x < 24) : ∀ (post pre : List Nat) (k : Nat), pre ++ post = D → post.length + 101 ≤ k →
    hypercuberef02_union.l0 k ((a ||| sumPow pre : Nat) : Int) (L D) (pre.length : Int) = some ((a ||| sumPow D : Nat) : Int) := by
  intro post
  induction post with
  | nil =>
    intro pre k he hk
    obtain ⟨k, rfl⟩ : ∃ k', k = k' + 1 := ⟨k - 1, by omega⟩
    rw [List.append_nil] at he
    subst he
    rw [hypercuberef02_union.l0, if_neg (by rw [L_len]; omega)]
  | cons i post ih =>
    intro pre k he hk
    obtain ⟨k, rfl⟩ : ∃ k', k = k' + 1 := ⟨k - 1, by omega⟩
    rw [List.length_cons] at hk
    have e3 : pre ++ i :: post = (pre ++ [i]) ++ post := by simp
    have hl2 : D.length = pre.length + (post.length + 1) := by rw [← he, List.length_append, List.length_cons]
    have hi : i < 24 := hb i (by rw [← he]; simp)
    have hasc2 : (pre ++ [i]).Pairwise (· < ·) := by
      rw [← he, e3] at hD
      exact (List.pairwise_append.1 hD).1
    have hnd := nodup_of_asc hasc2
    have hpre : pre.Nodup := (List.nodup_append.1 hnd).1
    have hlt : sumPow pre < 16777216 := sumPow_lt hpre fun x hx => hb x (by rw [← he]; simp [hx])
    have hor : a ||| sumPow pre < 16777216 := Nat.or_lt_two_pow (n := 24) ha hlt
    have hstep : (a ||| sumPow pre) ||| 2 ^ i = a ||| sumPow (pre ++ [i]) := by
      apply Nat.eq_of_testBit_eq
      intro j
      rw [Nat.testBit_or, Nat.testBit_or, Nat.testBit_or, sumPow_testBit hpre, sumPow_testBit hnd, Nat.testBit_two_pow, Bool.eq_iff_iff]
      simp only [Bool.or_eq_true, decide_eq_true_eq, List.mem_append, List.mem_singleton]
      constructor
      · rintro ((h | h) | h)
        · exact .inl h
        · exact .inr (.inl h)
        · exact .inr (.inr h.symm)
      · rintro (h | h | h)
        · exact .inl (.inl h)
        · exact .inl (.inr h)
        · exact .inr h.symm
    have e2 : wrap64 ((pre.length : Int) + 1) = (((pre ++ [i]).length : Nat) : Int) := by
      rw [wrap64_small (by omega) (by omega), List.length_append, List.length_singleton]
      omega
    have hrd : rd (L D) (pre.length : Int) = (i : Int) := by rw [← he]; exact rd_mid pre post i
    have hw := refwith (a ||| sumPow pre) k (i : Int) (by omega) (by omega)
    rw [if_pos (by omega), Int.toNat_natCast, Nat.mod_eq_of_lt hor, hstep] at hw
    have hll := L_len D
    rw [hypercuberef02_union.l0, if_pos (by omega), if_pos (by omega), hrd, hw, Option.bind_some, e2]
    exact ih (pre ++ [i]) k (by rw [← e3]; exact he) (by omega)
theorem union (a b k : Nat) (ha : a < 16777216) (hb : b < 16777216) (hk : 200 ≤ k) : hypercuberef02_union.f k (a : Int) (b : Int) = some ((a ||| b : Nat) : Int) := by
  have hlen := dimsN_len b
  have h := union_l0 a (dimsN b) ha hlen (dimsN_asc b) (fun x hx => (mem_dimsN.1 hx).1) (dimsN b) [] k rfl (by omega)
  rw [sumPow_dimsN, Nat.mod_eq_of_lt hb] at h
  rw [show sumPow [] = 0 from rfl, Nat.or_zero] at h
  unfold hypercuberef02_union.f
  rw [list b k (by omega) (by omega), Option.bind_some]
  exact h
theorem unionU (a b : UInt32) (k : Nat) (ha : r1 a = true) (hb : r1 b = true) (hk : 200 ≤ k) : hypercuberef02_union.f k (un a) (un b) = some (un (a ||| b)) := by
  rw [r1_lt, decide_eq_true_eq] at ha hb
  unfold un
  rw [union a.toNat b.toNat k ha hb hk, UInt32.toNat_or]
theorem refmeet (a b : C) (k : Nat) (ha : ok a = true) (hb : ok b = true) (hk : 200 ≤ k) : hypercuberef02_Meet.f k (un a.1) (un a.2) (un b.1) (un b.2) = some (un (meet a b).1, un (meet a b).2) := by
  unfold ok at ha hb
  rw [Bool.and_eq_true] at ha hb
  unfold hypercuberef02_Meet.f
  rw [unionU a.1 b.1 k ha.1 hb.1 hk, Option.bind_some, unionU a.2 b.2 k ha.2 hb.2 hk, Option.bind_some]
  rfl
theorem refbelow (a b : C) : hypercuberef02_Below.f (un a.1) (un a.2) (un b.1) (un b.2) = some (H.below a b) := by
  unfold hypercuberef02_Below.f
  rw [un_or, un_or]
  by_cases h : a.1 ||| b.1 = a.1
  · rw [if_pos (by rw [h]), un_beq]
    unfold H.below meet
    rw [Option.some.injEq, Bool.eq_iff_iff]
    simp [Prod.ext_iff, h]
  · rw [if_neg (fun e => h (un_inj.1 e))]
    unfold H.below meet
    rw [Option.some.injEq, Bool.eq_iff_iff]
    simp [Prod.ext_iff, h]
theorem refless (a b : C) : hypercuberef02_Less.f (un a.1) (un a.2) (un b.1) (un b.2) = some (ltC a b) := by
  have e : ∀ x y : UInt32, un x < un y ↔ x.toNat < y.toNat := fun x y => by unfold un; omega
  unfold hypercuberef02_Less.f ltC
  simp only [e, un_inj]
  by_cases h : a.1.toNat < b.1.toNat
  · rw [if_pos h, decide_eq_true (.inl h)]
  · rw [if_neg h]
    by_cases h2 : a.1 = b.1
    · rw [if_pos h2, Option.some.injEq, decide_eq_decide]
      constructor
      · intro h3; exact .inr ⟨h2, h3⟩
      · rintro (h3 | h3)
        · exact absurd h3 h
        · exact h3.2
    · rw [if_neg h2, decide_eq_false (by rintro (h3 | h3); exact h h3; exact h2 h3.1)]
theorem cmpU (x y : UInt32) : cmp_Compare_uint32.f (un x) (un y) = some (cmpN (un x) (un y)) := by
  have hn : ∀ x, cmp_isNaN_uint32.f (un x) = some false := fun x => by
    unfold cmp_isNaN_uint32.f
    rw [bne_self_eq_false]
  unfold cmp_Compare_uint32.f cmpN
  rw [hn, hn, Option.bind_some, Option.bind_some, if_neg Bool.false_ne_true, if_neg Bool.false_ne_true]
  by_cases h : un x < un y
  · rw [if_pos h, if_pos h]
  · rw [if_neg h, if_neg h]
    by_cases h2 : un y < un x
    · rw [if_pos h2, if_pos h2]
    · rw [if_neg h2, if_neg h2]
theorem cmpF (a b : C) : clause_Cmp.f (un a.1) (un a.2) (un b.1) (un b.2) = some (cmpC a b) := by
  unfold clause_Cmp.f
  rw [cmpC_eq, cmpU, cmpU, Option.bind_some, Option.bind_some]
  by_cases h : a.1 = b.1
  · rw [if_pos (by rw [h]), if_pos h]
  · rw [if_neg (fun e => h (un_inj.1 e)), if_neg h]
theorem cmp_m1 (a b : C) : (cmpC a b == -1) = ltC a b := by
  unfold cmpC
  cases h : ltC a b
  · cases h2 : ltC b a <;> simp
  · simp
theorem cmp_1 (a b : C) : (cmpC a b == 1) = ltC b a := by
  unfold cmpC
  cases h : ltC a b
  · cases h2 : ltC b a <;> simp
  · rw [ltC_asymm h]
    simp
theorem cmp_0 (a b : C) : (cmpC a b == 0) = decide (a = b) := by
  unfold cmpC
  by_cases e : a = b
  · subst e
    rw [ltC_irrefl]
    simp
  · rcases ltC_total e with h | h
    · rw [h]; simp [e]
    · rw [ltC_asymm h, h]; simp [e]
theorem clash_l0 (p n : Nat) (hp : p < 16777216) (hn : n < 16777216) : ∀ (d k i : Nat), i + d = 24 → d + 50 ≤ k → (∀ j, j < i → (p &&& n).testBit j = false) →
    hypercuberef02_Clash.l0 k (i : Int) (p : Int) (n : Int) = some (decide (p &&& n ≠ 0))
  | d, 0, _, _, hk, _ => absurd hk (by omega)
  | 0, k + 1, i, hi, _, hb => by
    obtain rfl : i = 24 := by omega
    have h0 : p &&& n = 0 := by
      apply Nat.eq_of_testBit_eq
      intro j
      rw [Nat.zero_testBit]
      rcases Nat.lt_or_ge j 24 with h | h
      · exact hb j h
      · rw [Nat.testBit_and, testBit_high hp h]; rfl
    rw [hypercuberef02_Clash.l0, if_neg (by omega), h0]
    rfl
  | d + 1, k + 1, i, hi, hk, hb => by
    have e2 : wrap64 ((i : Int) + 1) = ((i + 1 : Nat) : Int) := by
      rw [wrap64_small (by omega) (by omega)]
      omega
    have h1 := has p k (i : Int) (by omega) (by omega)
    have h2 := has n k (i : Int) (by omega) (by omega)
    rw [Int.toNat_natCast, decide_eq_true (by omega), Bool.true_and] at h1 h2
    have ih : (p &&& n).testBit i = false → hypercuberef02_Clash.l0 k ((i + 1 : Nat) : Int) (p : Int) (n : Int) = some (decide (p &&& n ≠ 0)) := fun hf =>
      clash_l0 p n hp hn d k (i + 1) (by omega) (by omega) fun j hj => by
        rcases Nat.lt_or_ge j i with h | h
        · exact hb j h
        · rw [show j = i by omega]; exact hf
    rw [Nat.testBit_and] at ih
    rw [hypercuberef02_Clash.l0, if_pos (by omega), h1, Option.bind_some, e2]
    cases hpb : p.testBit i
    · rw [hpb] at ih
      rw [if_neg Bool.false_ne_true]
      exact ih rfl
    · rw [hpb] at ih
      rw [if_pos rfl, h2, Option.bind_some]
      cases hnb : n.testBit i
      · rw [hnb] at ih
        rw [if_neg Bool.false_ne_true]
        exact ih rfl
      · rw [if_pos rfl]
        have : p &&& n ≠ 0 := fun e => by
          have h3 := Nat.testBit_and p n i
          rw [e, hpb, hnb, Nat.zero_testBit] at h3
          cases h3
        rw [decide_eq_true this]
theorem refclash (c : C) (k : Nat) (hc : ok c = true) (hk : 100 ≤ k) : hypercuberef02_Clash.f k (un c.1) (un c.2) = some (decide (c.1 &&& c.2 ≠ 0)) := by
  unfold ok at hc
  rw [Bool.and_eq_true, r1_lt, r1_lt, decide_eq_true_eq, decide_eq_true_eq] at hc
  unfold hypercuberef02_Clash.f un
  have h := clash_l0 c.1.toNat c.2.toNat hc.1 hc.2 24 k 0 (by omega) (by omega) (fun j hj => absurd hj (by omega))
  rw [show ((0 : Nat) : Int) = 0 from rfl] at h
  rw [h, Option.some.injEq, decide_eq_decide, ne_eq, ne_eq, ← UInt32.toNat_inj, UInt32.toNat_and]
  rfl
theorem clashF (c : C) : clause_Clash.f (un c.1) (un c.2) = some (decide (c.1 &&& c.2 ≠ 0)) := by
  unfold clause_Clash.f
  rw [un_and, Option.some.injEq, un_zero, Bool.eq_iff_iff]
  simp [un_inj]
theorem eqU (a b : C) : (un a.1 == un b.1 && (un a.2 == un b.2)) = decide (a = b) := by
  rw [un_beq, un_beq, Bool.eq_iff_iff]
  simp [Prod.ext_iff]
theorem ClauseAsks (a b : C) : ∃ k, hypercubelaw02_ClauseAsks.f k (un a.1) (un a.2) (un b.1) (un b.2) = some true := by
  obtain ⟨k, hk⟩ : ∃ k, 300 ≤ k := ⟨300, Nat.le_refl _⟩
  refine ⟨k + 2, ?_⟩
  have hwk := works k (by omega)
  have hyes : hypercubelaw02_ClauseAsks.j1 (k + 1) true (un a.1) (un a.2) (un b.1) (un b.2) = some true := by
    rw [hypercubelaw02_ClauseAsks.j1, if_pos rfl, hwk, Option.bind_some]
  unfold hypercubelaw02_ClauseAsks.f
  rw [right24, refright24 a (k + 2) (by omega), Option.bind_some, Option.bind_some, bne_self_eq_false, if_neg Bool.false_ne_true, right24, refright24 b (k + 2) (by omega), Option.bind_some, Option.bind_some, bne_self_eq_false]
  rw [hypercubelaw02_ClauseAsks.j0, if_neg Bool.false_ne_true, refright24 a (k + 1) (by omega), Option.bind_some]
  cases ha : ok a
  · rw [if_neg Bool.false_ne_true]
    exact hyes
  · rw [if_pos rfl, refright24 b (k + 1) (by omega), Option.bind_some]
    cases hb : ok b
    · exact hyes
    · have c1 := cmpF a b
      have c2 := clashF a
      have c3 := refclash a k ha (by omega)
      have c4 := meet24 a b
      have c5 := refmeet a b k ha hb (by omega)
      have c6 := below24 a b
      have c7 := refbelow a b
      have c8 := refless a b
      have c9 := refless b a
      rw [Bool.not_true, hypercubelaw02_ClauseAsks.j1, if_neg Bool.false_ne_true, c1, Option.bind_some, c2, Option.bind_some, c3, Option.bind_some, if_pos (by exact beq_self_eq_true _), c4, Option.bind_some, c5, Option.bind_some, if_pos (by rw [beq_self_eq_true, beq_self_eq_true]; rfl),
        c6, Option.bind_some, c7, Option.bind_some, if_pos (by exact beq_self_eq_true _), c8, Option.bind_some, if_pos (by rw [cmp_m1]; exact beq_self_eq_true _), c9, Option.bind_some, if_pos (by rw [cmp_1]; exact beq_self_eq_true _), if_pos (by rw [cmp_0, eqU]; exact beq_self_eq_true _), hwk, Option.bind_some]
end Go.Proofs.Ytahbmjpgnfgklaa.Pure
