/-
PLAIN LAW: the statements of layer 1 that do without the document's answer.
-/
import Derived.Test.YtidpieakofhmiaaDoorMaskP
namespace Go.Proofs.YtidpieakofhmiaaDoor.Pure
open Go.RowKit Go.Proofs.YtidpieakofhmiaaDoor.XMask Go.Proofs.YtidpieakofhmiaaDoorW.PrintWords Go.Proofs.YtidpieakofhmiaaDoorW.PrintLast Go.Proofs.YtidpieakofhmiaaDoorW.PrintMore H

theorem dimsN_two_pow (i : Nat) (h : i < 24) : dimsN (2 ^ i) = [i] := by
  refine dimsN_eq (by simp) fun j => ?_
  rw [List.mem_singleton, Nat.testBit_two_pow, decide_eq_true_eq]
  omega
theorem filter_none (s : Nat) : sumPow ((dimsN s).filter fun x : Nat => decide ((x : Int) ≠ -1)) = s % 16777216 := by
  rw [List.filter_eq_self.2, sumPow_dimsN]
  intro x _
  simp

theorem back_dims {s n : Nat} (h : movable s n 1 = true) : (lifted s n 1).testBit n = false ∧ dropped (lifted s n 1) n = s % 16777216 := by
  have hb : (lifted s n 1).testBit n = false := by
    rw [Bool.eq_false_iff]
    intro hc
    obtain ⟨x, _, _, h3⟩ := (lifted_testBit s n 1 n).1 hc
    unfold moved at h3
    split at h3 <;> omega
  refine ⟨hb, ?_⟩
  unfold dropped
  rw [dimsN_lifted h, List.filter_eq_self.2, List.map_map, ← sumPow_dimsN]
  · congr 1
    refine (List.map_congr_left (g := id) fun x _ => ?_).trans (List.map_id _)
    show lower n (moved n 1 x) = x
    unfold lower moved
    split <;> split <;> omega
  · intro x hx
    obtain ⟨y, _, rfl⟩ := List.mem_map.1 hx
    unfold moved
    split <;> simp <;> omega
theorem MaskBack : hypercubelaw01_MaskBack.Pure := by
  intro a0 a1 h0 h1
  obtain ⟨s, rfl, hs⟩ := wf_u32 h0
  obtain ⟨k, hk⟩ : ∃ k, 200 ≤ k := ⟨200, Nat.le_refl _⟩
  refine ⟨k + 1, ?_⟩
  unfold hypercubelaw01_MaskBack.f
  rw [works' (k + 1) (by omega)]
  repeat rw [Option.bind_some]
  rw [if_pos rfl]
  by_cases h : 0 ≤ a1 ∧ a1 < 24
  · obtain ⟨n, rfl⟩ := Int.eq_ofNat_of_zero_le h.1
    have e1 : decide ((n : Int) ≥ 24) = false := decide_eq_false (by omega)
    rw [if_neg (by omega), e1, hypercubelaw01_MaskBack.j0, if_neg Bool.false_ne_true]
    have el := mlift s k n 1 hs (by omega) (by omega) (by omega)
    rw [show ((1 : Nat) : Int) = 1 from rfl] at el
    rw [el]
    repeat rw [Option.bind_some]
    by_cases hm : movable s n 1 = true
    · have hlt := lifted_lt hm
      obtain ⟨hb, hd⟩ := back_dims hm
      have q1 := mhas (lifted s n 1) (n : Int) (by omega)
      rw [Int.toNat_natCast, hb, Bool.and_false] at q1
      have q2 := mcount (lifted s n 1) (by omega)
      rw [dimsN_lifted hm, List.length_map] at q2
      have q3 := mcount s hs
      have q4 := mdrop (lifted s n 1) (n : Int) (by omega)
      rw [if_pos h, Int.toNat_natCast, hd] at q4
      have q5 := mwithout s (-1) hs
      rw [filter_none] at q5
      rw [if_pos hm]
      generalize ((lifted s n 1 : Nat) : Int) = y at *
      generalize ((s % 16777216 : Nat) : Int) = m at *
      generalize (((dimsN s).length : Nat) : Int) = c at *
      rw [if_pos rfl, q1, q2, q3, q4, q5]
      repeat rw [Option.bind_some]
      rw [if_neg Bool.false_ne_true, if_pos rfl, beq_self_eq_true]
    · have h23 : s.testBit 23 = true := by
        rw [← Bool.not_eq_false]
        intro hf
        refine hm (movable_iff.2 fun x hx hbit => ?_)
        by_cases hx23 : x = 23
        · subst hx23; rw [hf] at hbit; cases hbit
        · right; omega
      have q1 := mhas s 23 hs
      rw [show ((23 : Int)).toNat = 23 from rfl, h23, show decide (0 ≤ (23 : Int) ∧ (23 : Int) < 24) = true from by decide] at q1
      rw [if_neg hm, if_neg (by decide), if_pos rfl, q1]
      rfl
  · by_cases hn : a1 < 0
    · rw [if_pos hn, hypercubelaw01_MaskBack.j0, if_pos rfl]
    · rw [if_neg hn, show decide (a1 ≥ 24) = true from decide_eq_true (by omega), hypercubelaw01_MaskBack.j0, if_pos rfl]

theorem adds_movable {s f a b : Nat} (h : movable s f a = true) : movable (lifted s f a) f b = movable s f (a + b) := by
  unfold movable
  rw [dimsN_lifted h, List.all_map, Bool.eq_iff_iff, List.all_eq_true, List.all_eq_true]
  have key : ∀ x, (moved f a x < f ∨ moved f a x + b < 24) ↔ (x < f ∨ x + (a + b) < 24) := fun x => by
    unfold moved
    split <;> omega
  constructor
  · intro h1 x hx; exact decide_eq_true ((key x).1 (of_decide_eq_true (h1 x hx)))
  · intro h1 x hx; exact decide_eq_true ((key x).2 (of_decide_eq_true (h1 x hx)))
theorem adds_lifted {s f a b : Nat} (h : movable s f a = true) : lifted (lifted s f a) f b = lifted s f (a + b) := by
  show sumPow ((dimsN (lifted s f a)).map (moved f b)) = sumPow ((dimsN s).map (moved f (a + b)))
  rw [dimsN_lifted h, List.map_map]
  congr 1
  refine List.map_congr_left fun x _ => ?_
  show moved f b (moved f a x) = moved f (a + b) x
  by_cases h1 : x < f
  · simp [moved, h1]
  · have h2 : ¬ x + a < f := by omega
    simp [moved, h1, h2]
    omega
theorem adds_not {s f a b : Nat} (h : ¬ movable s f a = true) : ¬ movable s f (a + b) = true := fun h2 => h (movable_iff.2 fun x hx hbit => by
  have := movable_iff.1 h2 x hx hbit
  omega)
theorem adds_one (f a i k : Nat) (hf : f < 9223372036854775808) (ha : a < 9223372036854775808) (hi : i < 24) (hm : i < f ∨ i + a < 24) (hk : 1 ≤ k) :
    mask_With.f 0 (i : Int) = some ((2 ^ i : Nat) : Int) ∧ mask_Lift.f k ((2 ^ i : Nat) : Int) (f : Int) (a : Int) = some (((2 ^ moved f a i : Nat) : Int), 0) ∧ mask_Count.f ((2 ^ moved f a i : Nat) : Int) = some 1 ∧ moved f a i < 24 := by
  have hp := pow_le24 (j := i) (by omega)
  have hmv : moved f a i < 24 := by
    unfold moved
    split <;> omega
  have hp2 := pow_le24 (j := moved f a i) (by omega)
  have hmi : movable (2 ^ i) f a = true := by
    unfold movable
    rw [dimsN_two_pow i hi]
    simp only [List.all_cons, List.all_nil, Bool.and_true]
    exact decide_eq_true hm
  have hli : lifted (2 ^ i) f a = 2 ^ moved f a i := by
    unfold lifted
    rw [dimsN_two_pow i hi]
    simp [sumPow]
  refine ⟨?_, ?_, ?_, hmv⟩
  · have hw := mwith 0 (i : Int) (by omega)
    rw [if_pos (by omega), Int.toNat_natCast, Nat.zero_mod, Nat.zero_or] at hw
    exact hw
  · rw [mlift _ k f a (by omega) hf ha hk, if_pos hmi, hli]
  · rw [mcount _ (by omega), dimsN_two_pow _ hmv]
    rfl
theorem adds_sum (f a i : Nat) (post pre D : List Nat) (he : pre ++ i :: post = D) (hasc : D.Pairwise (· < ·)) (hD : ∀ x ∈ D, x < 24 ∧ (x < f ∨ x + a < 24)) :
    sumPow (pre.map (moved f a)) ||| 2 ^ moved f a i = sumPow ((pre ++ [i]).map (moved f a)) ∧ sumPow (pre.map (moved f a)) < 16777216 := by
  have e3 : pre ++ i :: post = (pre ++ [i]) ++ post := by simp
  have hasc2 : ((pre ++ [i]).map (moved f a)).Nodup := by
    rw [← he, e3] at hasc
    exact nodup_of_asc (moved_asc f a (List.pairwise_append.1 hasc).1)
  have hpre : (pre.map (moved f a)).Nodup := by
    rw [List.map_append] at hasc2
    exact (List.nodup_append.1 hasc2).1
  constructor
  · apply Nat.eq_of_testBit_eq
    intro j
    rw [Nat.testBit_or, sumPow_testBit hpre, sumPow_testBit hasc2, Nat.testBit_two_pow, Bool.eq_iff_iff, List.map_append]
    simp only [Bool.or_eq_true, decide_eq_true_eq, List.mem_append, List.map_cons, List.map_nil, List.mem_singleton]
    constructor
    · rintro (h | h)
      · exact .inl h
      · exact .inr h.symm
    · rintro (h | h)
      · exact .inl h
      · exact .inr h.symm
  · refine sumPow_lt hpre fun x hx => ?_
    obtain ⟨y, hy, rfl⟩ := List.mem_map.1 hx
    have hy2 := hD y (by rw [← he]; simp [hy])
    unfold moved
    split <;> omega
theorem adds_step (k : Nat) (f a X S0 i P1 P2 x82 x83 : Int) (LD : List Int) (h1 : x83 < x82) (h2 : 0 ≤ x83) (h3 : x83 < (LD.length : Int)) (hrd : rd LD x83 = i) (q1 : mask_With.f 0 i = some P1) (q2 : mask_Lift.f k P1 f a = some (P2, 0)) (q3 : mask_Count.f P2 = some 1) :
    hypercubelaw01_MaskAdds.l0 (k + 1) f a X S0 LD x82 x83 = hypercubelaw01_MaskAdds.l0 k f a X (bits .or .u32 S0 P2) LD x82 (wrap64 (x83 + 1)) := by
  rw [hypercubelaw01_MaskAdds.l0, if_pos h1, if_pos h2, if_pos h3, hrd, q1]
  repeat rw [Option.bind_some]
  rw [q2]
  repeat rw [Option.bind_some]
  rw [if_pos rfl, q3]
  repeat rw [Option.bind_some]
  rw [if_pos rfl]
theorem adds_l0 (f a X : Nat) (D : List Nat) (hf : f < 9223372036854775808) (ha : a < 9223372036854775808) (hasc : D.Pairwise (· < ·)) (hlen : D.length ≤ 24) (hD : ∀ x ∈ D, x < 24 ∧ (x < f ∨ x + a < 24))
    (hX : X = sumPow (D.map (moved f a))) : ∀ (post pre : List Nat) (k : Nat), pre ++ post = D → post.length + 2 ≤ k →
    hypercubelaw01_MaskAdds.l0 k (f : Int) (a : Int) (X : Int) ((sumPow (pre.map (moved f a)) : Nat) : Int) (L D) (D.length : Int) (pre.length : Int) = some true := by
  intro post
  induction post with
  | nil =>
    intro pre k he hk
    obtain ⟨k, rfl⟩ : ∃ k', k = k' + 1 := ⟨k - 1, by omega⟩
    rw [List.append_nil] at he
    rw [hypercubelaw01_MaskAdds.l0, he, if_neg (by omega), hX, beq_self_eq_true]
  | cons i post ih =>
    intro pre k he hk
    obtain ⟨k, rfl⟩ : ∃ k', k = k' + 1 := ⟨k - 1, by omega⟩
    have e3 : pre ++ i :: post = (pre ++ [i]) ++ post := by simp
    have hl2 : D.length = pre.length + (post.length + 1) := by rw [← he, List.length_append, List.length_cons]
    rw [List.length_cons] at hk
    have hi := hD i (by rw [← he]; simp)
    obtain ⟨q1, q2, q3, hmv⟩ := adds_one f a i k hf ha hi.1 hi.2 (by omega)
    have hp2 := pow_le24 (j := moved f a i) (by omega)
    have e2 : wrap64 ((pre.length : Int) + 1) = (((pre ++ [i]).length : Nat) : Int) := by
      rw [wrap64_small (by omega) (by omega), List.length_append, List.length_singleton]
      omega
    obtain ⟨hsum, hlt⟩ := adds_sum f a i post pre D he hasc hD
    have q4 := u32_or_nat (sumPow (pre.map (moved f a))) (2 ^ moved f a i) (by omega) (by omega)
    rw [hsum] at q4
    have hrd : rd (L D) (pre.length : Int) = (i : Int) := by rw [← he]; exact rd_mid pre post i
    have hll := L_len D
    have ih' := ih (pre ++ [i]) k (by rw [← e3]; exact he) (by omega)
    rw [← e2, ← q4] at ih'
    rw [adds_step k f a X _ i _ _ _ _ _ (by omega) (by omega) (by omega) hrd q1 q2 q3]
    exact ih'
theorem MaskAdds : hypercubelaw01_MaskAdds.Pure := by
  intro a0 a1 a2 a3 h0 h1 h2 h3
  obtain ⟨s, rfl, hs⟩ := wf_u32 h0
  have b1 := wf_i64 h1
  obtain ⟨k, hk⟩ : ∃ k, 200 ≤ k := ⟨200, Nat.le_refl _⟩
  refine ⟨k + 2, ?_⟩
  unfold hypercubelaw01_MaskAdds.f
  rw [works' (k + 2) (by omega)]
  repeat rw [Option.bind_some]
  rw [if_pos rfl]
  have htrue : hypercubelaw01_MaskAdds.j0 (k + 2) (s : Int) a1 a2 a3 true = some true := by rw [hypercubelaw01_MaskAdds.j0, if_pos rfl]
  by_cases c1 : a1 < 0
  · rw [if_pos c1]; exact htrue
  rw [if_neg c1]
  by_cases c2 : a2 < 0
  · rw [if_pos c2]; exact htrue
  rw [if_neg c2]
  by_cases c3 : a3 < 0
  · rw [if_pos c3]; exact htrue
  rw [if_neg c3]
  by_cases c4 : a2 > 30
  · rw [if_pos c4]; exact htrue
  rw [if_neg c4]
  by_cases c5 : a3 > 30
  · rw [show decide (a3 > 30) = true from decide_eq_true c5]; exact htrue
  rw [show decide (a3 > 30) = false from decide_eq_false c5]
  obtain ⟨f, rfl⟩ := Int.eq_ofNat_of_zero_le (show 0 ≤ a1 by omega)
  obtain ⟨a, rfl⟩ := Int.eq_ofNat_of_zero_le (show 0 ≤ a2 by omega)
  obtain ⟨b, rfl⟩ := Int.eq_ofNat_of_zero_le (show 0 ≤ a3 by omega)
  have e1 : wrap64 ((a : Int) + (b : Int)) = ((a + b : Nat) : Int) := by
    rw [wrap64_small (by omega) (by omega)]
    omega
  rw [hypercubelaw01_MaskAdds.j0, if_neg Bool.false_ne_true, mlift s (k + 1) f a hs (by omega) (by omega) (by omega), e1, mlift s (k + 1) f (a + b) hs (by omega) (by omega) (by omega)]
  repeat rw [Option.bind_some]
  by_cases hm : movable s f a = true
  · have hlt := lifted_lt hm
    rw [if_pos hm, if_pos rfl, mlift _ (k + 1) f b (by omega) (by omega) (by omega) (by omega), adds_movable hm, adds_lifted hm]
    repeat rw [Option.bind_some]
    rw [if_pos rfl, bne_self_eq_false, hypercubelaw01_MaskAdds.j1, if_neg Bool.false_ne_true, mlist s hs]
    repeat rw [Option.bind_some]
    rw [L_len]
    have hln := dimsN_len s
    exact adds_l0 f a (lifted s f a) (dimsN s) (by omega) (by omega) (dimsN_asc s) hln (fun x hx => ⟨(mem_dimsN.1 hx).1, movable_iff.1 hm x (mem_dimsN.1 hx).1 (mem_dimsN.1 hx).2⟩) rfl (dimsN s) [] k rfl (by omega)
  · rw [if_neg hm, if_neg (adds_not hm)]
    rfl

theorem count_with (s n : Nat) (hn : n < 24) : (dimsN (s % 16777216 ||| 2 ^ n)).length = (dimsN (sumPow ((dimsN s).filter fun x : Nat => decide ((x : Int) ≠ (n : Int))))).length + 1 := by
  rw [dimsN_sum_filter]
  have e1 : ((dimsN s).filter fun x : Nat => decide ((x : Int) ≠ (n : Int))) = (List.range 24).filter fun x => s.testBit x && !decide (x = n) := by
    unfold dimsN
    rw [List.filter_filter]
    refine List.filter_congr fun x _ => ?_
    by_cases e : x = n
    · simp [e]
    · have e' : ¬ (x : Int) = (n : Int) := by omega
      simp [e, e']
  have e2 : dimsN (s % 16777216 ||| 2 ^ n) = (List.range 24).filter fun x => s.testBit x || decide (x = n) := by
    unfold dimsN
    refine List.filter_congr fun x hx => ?_
    have hx' : x < 24 := by simpa using hx
    rw [Nat.testBit_or, testBit_low24, Nat.testBit_two_pow, decide_eq_true hx', Bool.true_and]
    by_cases e : x = n
    · simp [e]
    · have e' : ¬ n = x := fun h => e h.symm
      simp [e, e']
  rw [e1, e2]
  have key : ∀ l : List Nat, l.Nodup → n ∈ l → (l.filter fun x => s.testBit x || decide (x = n)).length = (l.filter fun x => s.testBit x && !decide (x = n)).length + 1 := by
    intro l
    induction l with
    | nil => intro _ h; cases h
    | cons y l ih =>
      intro nd hmem
      have nd' := List.nodup_cons.1 nd
      by_cases hy : y = n
      · subst hy
        rw [List.filter_cons_of_pos (by simp), List.filter_cons_of_neg (by simp), List.length_cons]
        congr 1
        congr 1
        refine List.filter_congr fun x hx => ?_
        have : x ≠ y := fun e => nd'.1 (e ▸ hx)
        simp [this]
      · have hm' : n ∈ l := by
          rcases List.mem_cons.1 hmem with h | h
          · exact absurd h.symm hy
          · exact h
        have := ih nd'.2 hm'
        by_cases hb : s.testBit y = true
        · rw [List.filter_cons_of_pos (by simp [hb]), List.filter_cons_of_pos (by simp [hb, hy]), List.length_cons, List.length_cons, this]
        · rw [List.filter_cons_of_neg (by simp [hb, hy]), List.filter_cons_of_neg (by simp [hb]), this]
  exact key _ List.nodup_range (by simp; omega)
theorem MaskSets : hypercubelaw01_MaskSets.Pure := by
  intro a0 a1 a2 h0 h1 h2
  obtain ⟨s, rfl, hs⟩ := wf_u32 h0
  obtain ⟨k, hk⟩ : ∃ k, 200 ≤ k := ⟨200, Nat.le_refl _⟩
  refine ⟨k + 2, ?_⟩
  have hmod : s % 16777216 < 16777216 := Nat.mod_lt _ (by omega)
  unfold hypercubelaw01_MaskSets.f
  rw [works' (k + 2) (by omega), mwith s a1 hs, mwithout s a1 hs]
  repeat rw [Option.bind_some]
  rw [if_pos rfl]
  by_cases h : 0 ≤ a1 ∧ a1 < 24
  · obtain ⟨n, rfl⟩ := Int.eq_ofNat_of_zero_le h.1
    have hn : n < 24 := by omega
    have hp := pow_le24 (j := n) (by omega)
    have hA : s % 16777216 ||| 2 ^ n < 16777216 := Nat.or_lt_two_pow (n := 24) hmod (Nat.pow_lt_pow_right (by omega) hn)
    have hB := sum_filter_lt s fun x : Nat => decide ((x : Int) ≠ (n : Int))
    have tA : ∀ j, (s % 16777216 ||| 2 ^ n).testBit j = ((decide (j < 24) && s.testBit j) || decide (n = j)) := fun j => by rw [Nat.testBit_or, testBit_low24, Nat.testBit_two_pow]
    have tB : ∀ j, (sumPow ((dimsN s).filter fun x : Nat => decide ((x : Int) ≠ (n : Int)))).testBit j = (decide (j < 24) && s.testBit j && !decide (n = j)) := fun j => by
      rw [sumPow_testBit (nodup_of_asc ((dimsN_asc s).filter _)), Bool.eq_iff_iff]
      simp only [decide_eq_true_eq, List.mem_filter, mem_dimsN, Bool.and_eq_true, Bool.not_eq_true', decide_eq_false_iff_not]
      constructor
      · rintro ⟨h1, h2⟩; exact ⟨h1, by omega⟩
      · rintro ⟨h1, h2⟩; exact ⟨h1, by omega⟩
    have hcount := count_with s n hn
    have wA : sumPow ((dimsN (s % 16777216 ||| 2 ^ n)).filter fun x : Nat => decide ((x : Int) ≠ (n : Int))) = sumPow ((dimsN s).filter fun x : Nat => decide ((x : Int) ≠ (n : Int))) := by
      apply Nat.eq_of_testBit_eq
      intro j
      rw [tB, sumPow_testBit (nodup_of_asc ((dimsN_asc _).filter _)), Bool.eq_iff_iff]
      simp only [decide_eq_true_eq, List.mem_filter, mem_dimsN, tA, Bool.and_eq_true, Bool.or_eq_true, Bool.not_eq_true', decide_eq_false_iff_not]
      constructor
      · rintro ⟨⟨h1, h2⟩, h3⟩; exact ⟨by rcases h2 with h2 | h2; exact h2; omega, by omega⟩
      · rintro ⟨h1, h2⟩; exact ⟨⟨h1.1, .inl h1⟩, by omega⟩
    rw [if_pos h, if_neg (by omega), show decide ((n : Int) ≥ 24) = false from decide_eq_false (by omega), Int.toNat_natCast]
    generalize hAe : (s % 16777216 ||| 2 ^ n) = A at *
    generalize hBe : sumPow ((dimsN s).filter fun x : Nat => decide ((x : Int) ≠ (n : Int))) = B at *
    have wB : B % 16777216 ||| 2 ^ n = A := by
      rw [Nat.mod_eq_of_lt hB]
      apply Nat.eq_of_testBit_eq
      intro j
      rw [Nat.testBit_or, tB, tA, Nat.testBit_two_pow, Bool.eq_iff_iff]
      simp only [decide_eq_true_eq, Bool.and_eq_true, Bool.or_eq_true, Bool.not_eq_true', decide_eq_false_iff_not]
      constructor
      · rintro (⟨h1, h2⟩ | h1)
        · exact .inl h1
        · exact .inr h1
      · rintro (h1 | h1)
        · by_cases e : n = j
          · exact .inr e
          · exact .inl ⟨h1, e⟩
        · exact .inr h1
    have hAn : A.testBit n = true := by rw [tA]; simp
    have hBn : B.testBit n = false := by rw [tB]; simp
    rw [hypercubelaw01_MaskSets.j0, if_neg Bool.false_ne_true, mhas A _ (by omega), Int.toNat_natCast, hAn, decide_eq_true h]
    repeat rw [Option.bind_some]
    rw [if_pos (by rfl), mhas B _ (by omega), Int.toNat_natCast, hBn, Bool.and_false]
    repeat rw [Option.bind_some]
    have hl := dimsN_len B
    have c1 := mcount A (by omega)
    have c2 := mcount B (by omega)
    have c3 := mwithout A (n : Int) (by omega)
    have c4 := mwith B (n : Int) (by omega)
    rw [wA] at c3
    rw [if_pos h, Int.toNat_natCast, wB] at c4
    have c5 : wrap64 (((dimsN B).length : Int) + 1) = ((dimsN A).length : Int) := by
      rw [wrap64_small (by omega) (by omega)]
      omega
    generalize ((dimsN B).length : Int) = lB at c2 c5
    generalize ((dimsN A).length : Int) = lA at c1 c5
    rw [if_neg Bool.false_ne_true]
    rw [c1, c2, c3]
    repeat rw [Option.bind_some]
    rw [if_pos c5.symm, if_pos rfl, c4]
    repeat rw [Option.bind_some]
    rw [bne_self_eq_false, hypercubelaw01_MaskSets.j1, if_neg Bool.false_ne_true]
    by_cases hk2 : a2 = (n : Int)
    · rw [if_pos hk2]
    · rw [if_neg hk2, mhas A _ (by omega), mhas s _ hs, mhas B _ (by omega)]
      repeat rw [Option.bind_some]
      by_cases hr : 0 ≤ a2 ∧ a2 < 24
      · obtain ⟨m, rfl⟩ := Int.eq_ofNat_of_zero_le hr.1
        have hmn : ¬ n = m := by omega
        have hm24 : m < 24 := by omega
        rw [Int.toNat_natCast, tA, tB]
        simp [hmn, hm24]
      · rw [decide_eq_false hr]
        rfl
  · have hsame : sumPow ((dimsN s).filter fun x : Nat => decide ((x : Int) ≠ a1)) = s % 16777216 := by
      rw [List.filter_eq_self.2, sumPow_dimsN]
      intro x hx
      have := (mem_dimsN.1 hx).1
      simp
      omega
    have hx : hypercubelaw01_MaskSets.j0 (k + 2) (s : Int) a1 a2 ((s % 16777216 : Nat) : Int) ((s % 16777216 : Nat) : Int) true = some true := by
      rw [hypercubelaw01_MaskSets.j0, if_pos rfl, if_pos rfl, mhas s a1 hs, decide_eq_false h]
      rfl
    rw [if_neg h, hsame]
    by_cases hn : a1 < 0
    · rw [if_pos hn]; exact hx
    · rw [if_neg hn, show decide (a1 ≥ 24) = true from decide_eq_true (by omega)]; exact hx
end Go.Proofs.YtidpieakofhmiaaDoor.Pure
