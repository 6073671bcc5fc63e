/-
Plain law of layer 36: what the functions on rows compute.
-/
import Derived.Laws.BitsAllLaws
import Derived.Test.YtahdjajdaggmjaaGreatDoorWEqStruct
import Derived.Test.YtahdjajdaggmjaaGreatDoorUtab
import Derived.Test.YtahdjajdaggmjaaGreatDoorV2
import Derived.Test.YtahdjajdaggmjaaGreatDoorOpenB
import Derived.Test.YtahdjajdaggmjaaGreatDoorV4
section
namespace Go.Proofs.YtahdjajdaggmjaaGreatDoor.Pure
open Go.RowKit Go.Proofs.YtahdjajdaggmjaaGreatDoor.XPa Go.Proofs.YtahdjajdaggmjaaGreatDoorW.PrintWords Go.Proofs.YtahdjajdaggmjaaGreatDoorW.PrintLast Go.Proofs.YtahdjajdaggmjaaGreatDoorW.PrintMore H
theorem wrap64_small {n : Int} (h1 : -9223372036854775808 ≤ n) (h2 : n < 9223372036854775808) : wrap64 n = n := by
 unfold wrap64
 omega
theorem u64w (n : Nat) (h : n < 18446744073709551616) : IntKind.u64.wrap (n : Int) = (n : Int) := by
 rw [IntKind.wrap_u64]
 omega
def LC (l : List C) : List S113 := l.map ofC24
theorem LC_len (l : List C) : (LC l).length = l.length := List.length_map ..
theorem rdC (l : List C) (i : Nat) (h : i < l.length) : rd_T113 (LC l) (i : Int) = ofC24 l[i] := by
 unfold rd_T113 LC
 rw [Int.toNat_natCast, List.getD_eq_getElem?_getD, List.getElem?_map, List.getElem?_eq_getElem h]
 rfl
theorem backLC (l : List C) : (LC l).map toC24 = l := by
 unfold LC
 rw [List.map_map]
 refine (List.map_congr_left (g := id) fun c _ => ?_).trans (List.map_id _)
 rw [Function.comp_apply, toC_ofC24]
 rfl
theorem okLC {l : List C} (h : l.length ≤ 1000000) : okL24 (LC l) := ⟨by unfold LC; rw [List.all_map, List.all_eq_true]; intro c _; rw [Function.comp_apply, inR_ofC24], by rw [LC_len]; exact h⟩
def L (l : List Nat) : List Int := l.map fun i : Nat => (i : Int)
theorem L_len (l : List Nat) : (L l).length = l.length := List.length_map ..
theorem rd_mid (pre post : List Nat) (a : Nat) : rd (L (pre ++ a :: post)) (pre.length : Int) = (a : Int) := by
 unfold rd L
 simp
theorem same_l0 (a b : List C) (hab : a.length = b.length) (hl : a.length < 4611686018427387904) : ∀ (d k i : Nat), i + d = a.length → d < k → a.take i = b.take i → r02Same.l0 k (LC a) (LC b) (i : Int) = some (decide (a = b))
 | d, 0, _, _, hk, _ => absurd hk (by omega)
 | 0, k + 1, i, hi, _, ht => by
  have e : a = b := by rw [← List.take_of_length_le (l := a) (i := i) (by omega), ht, List.take_of_length_le (by omega)]
  rw [r02Same.l0, if_neg (by rw [LC_len]; omega), decide_eq_true e]
 | d + 1, k + 1, i, hi, hk, ht => by
  have hia : i < a.length := by omega
  have hib : i < b.length := by omega
  have e2 : wrap64 ((i : Int) + 1) = ((i + 1 : Nat) : Int) := by
   unfold wrap64
   omega
  rw [r02Same.l0, if_pos (by rw [LC_len]; omega), if_pos (by omega), if_pos (by rw [LC_len]; omega), rdC a i hia, rdC b i hib]
  have hq : (!((ofC24 a[i]).f0 == (ofC24 b[i]).f0) || !((ofC24 a[i]).f1 == (ofC24 b[i]).f1)) = !decide (a[i] = b[i]) := by
   unfold ofC24
   rw [un_beq, un_beq, Bool.eq_iff_iff]
   simp [Prod.ext_iff]
  rw [hq, e2]
  by_cases hc : a[i] = b[i]
  ·rw [if_neg (by simp [hc])]
   refine same_l0 a b hab hl d k (i + 1) (by omega) (by omega) ?_
   rw [List.take_succ_eq_append_getElem hia, List.take_succ_eq_append_getElem hib, ht, hc]
  ·rw [if_pos (by simp [hc]), decide_eq_false (fun e => hc (by subst e; rfl))]
theorem sameL (a b : List C) (k : Nat) (hl : a.length < 4611686018427387904) (hk : a.length < k) : r02Same.f k (LC a) (LC b) = some (decide (a = b)) := by
 unfold r02Same.f
 rw [LC_len, LC_len]
 by_cases h : a.length = b.length
 ·rw [if_pos (by omega)]
  exact same_l0 a b h hl a.length k 0 (by omega) hk rfl
 ·rw [if_neg (by omega), decide_eq_false (fun e => h (by rw [e]))]
theorem leastL (l : List C) (h : l.length ≤ 1000000) : cl_Least.f (LC l) = some (LC (H.least l).1, (H.least l).2) := by
 unfold cl_Least.f
 rw [if_pos ⟨by unfold LC; rw [List.all_map, List.all_eq_true]; intro c _; rw [Function.comp_apply, inR_ofC24], by rw [LC_len]; exact h⟩, backLC]
 rfl
theorem equal_l0 (a b : List C) (hab : a.length = b.length) (hl : a.length ≤ 1000000) : ∀ (d k i : Nat), i + d = a.length → d < k → a.take i = b.take i → ap_Clause.l0 k (LC a) (LC b) (a.length : Int) (i : Int) = some (decide (a = b))
 | d, 0, _, _, hk, _ => absurd hk (by omega)
 | 0, k + 1, i, hi, _, ht => by
  have e : a = b := by rw [← List.take_of_length_le (l := a) (i := i) (by omega), ht, List.take_of_length_le (by omega)]
  rw [ap_Clause.l0, if_neg (by omega), decide_eq_true e]
 | d + 1, k + 1, i, hi, hk, ht => by
  have hia : i < a.length := by omega
  have hib : i < b.length := by omega
  have e2 : wrap64 ((i : Int) + 1) = ((i + 1 : Nat) : Int) := by
   unfold wrap64
   omega
  rw [ap_Clause.l0, if_pos (by omega), if_pos (by omega), if_pos (by rw [LC_len]; omega), if_pos (by rw [LC_len]; omega), rdC a i hia, rdC b i hib]
  have hq : (!((ofC24 a[i]).f0 == (ofC24 b[i]).f0) || !((ofC24 a[i]).f1 == (ofC24 b[i]).f1)) = !decide (a[i] = b[i]) := by
   unfold ofC24
   rw [un_beq, un_beq, Bool.eq_iff_iff]
   simp [Prod.ext_iff]
  rw [hq, e2]
  by_cases hc : a[i] = b[i]
  ·rw [if_neg (by simp [hc])]
   refine equal_l0 a b hab hl d k (i + 1) (by omega) (by omega) ?_
   rw [List.take_succ_eq_append_getElem hia, List.take_succ_eq_append_getElem hib, ht, hc]
  ·rw [if_pos (by simp [hc]), decide_eq_false (fun e => hc (by subst e; rfl))]
theorem equalL (a b : List C) (k : Nat) (hl : a.length ≤ 1000000) (hk : a.length < k) : ap_Clause.f k (LC a) (LC b) = some (decide (a = b)) := by
 unfold ap_Clause.f
 rw [LC_len, LC_len]
 by_cases h : a.length = b.length
 ·rw [if_pos (by omega)]
  exact equal_l0 a b h hl a.length k 0 (by omega) hk rfl
 ·rw [if_neg (by omega), decide_eq_false (fun e => h (by rw [e]))]
theorem least_l64 (l : List C) : (H.least l).1.length ≤ 64 := by
 rcases H.least_cases l with ⟨_, e⟩ | ⟨_, _, e⟩ | ⟨_, h, e⟩
 ·rw [e]; simp
 ·rw [e]; simp
 ·rw [e]
  show (H.sortC (H.keep l)).length ≤ 64
  rw [H.length_sortC]
  exact h
theorem rightL (f : List C) (k : Nat) (hf : f.length ≤ 1000000) (hk : 64 < k) : fo_Right.f k (LC f) = some (H.right f) := by
 have := least_l64 f
 unfold fo_Right.f H.right
 rw [leastL f hf, Option.bind_some]
 by_cases he : (H.least f).2 = 0
 ·rw [if_pos he, equalL _ _ k (by omega) (by omega), Option.bind_some, decide_eq_true he, Bool.true_and]
 ·rw [if_neg he, decide_eq_false he, Bool.false_and]
theorem power_l0 (n : Nat) (hn : n ≤ 40) : ∀ (d k i : Nat), i + d = n → d < k → r01power.l0 k (n : Int) ((2 ^ i : Nat) : Int) (i : Int) = some ((2 ^ n : Nat) : Int)
 | d, 0, _, _, hk => absurd hk (by omega)
 | 0, k + 1, i, hi, _ => by
  unfold r01power.l0
  rw [if_neg (by omega), show i = n by omega]
 | d + 1, k + 1, i, hi, hk => by
  have hp : 2 ^ (i + 1) ≤ 2 ^ 40 := Nat.pow_le_pow_right (by omega) (by omega)
  have he : 2 ^ (i + 1) = 2 ^ i * 2 := Nat.pow_succ ..
  have e1 : wrap64 (((2 ^ i : Nat) : Int) * 2) = ((2 ^ (i + 1) : Nat) : Int) := by
   rw [wrap64_small (by omega) (by omega)]
   omega
  have e2 : wrap64 ((i : Int) + 1) = ((i + 1 : Nat) : Int) := by
   rw [wrap64_small (by omega) (by omega)]
   omega
  unfold r01power.l0
  rw [if_pos (by omega), e1, e2]
  exact power_l0 n hn d k (i + 1) (by omega) (by omega)
theorem power (n k : Nat) (hn : n ≤ 40) (hk : 41 ≤ k) : r01power.f k (n : Int) = some ((2 ^ n : Nat) : Int) := by
 unfold r01power.f
 exact power_l0 n hn n k 0 (by omega) (by omega)
theorem has (s k : Nat) (i : Int) (hs : s < 4294967296) (hk : 41 ≤ k) : r01Has.f k (s : Int) i = some (decide (0 ≤ i ∧ i < 24) && s.testBit i.toNat) := by
 unfold r01Has.f
 by_cases h0 : i ≥ 0
 ·by_cases h1 : i < 24
  ·obtain ⟨n, rfl⟩ := Int.eq_ofNat_of_zero_le h0
   have hp : 0 < 2 ^ n := Nat.two_pow_pos n
   have hd : s / 2 ^ n ≤ s := Nat.div_le_self ..
   rw [if_pos h0, if_pos h1, power n k (by omega) hk]
   simp only [Option.bind_some]
   rw [if_neg (by omega), wrap64_small (n := (s : Int)) (by omega) (by omega), ← Int.ofNat_tdiv, wrap64_small (Int.le_trans (by decide) (Int.natCast_nonneg _)) (Int.lt_of_le_of_lt (Int.ofNat_le.2 hd) (by omega))]
   rw [show (2 : Int) = ((2 : Nat) : Int) from rfl, ← Int.ofNat_tmod, Int.toNat_natCast, Nat.testBit_eq_decide_div_mod_eq]
   rw [Option.some.injEq, Bool.eq_iff_iff]
   simp only [beq_iff_eq, Bool.and_eq_true, decide_eq_true_eq]
   omega
  ·rw [if_pos h0, if_neg h1]
   simp [h1]
 ·rw [if_neg h0]
  have : ¬ 0 ≤ i := h0
  simp [this]
theorem list_l0 (s : Nat) (hs : s < 4294967296) : ∀ (d k i : Nat), i + d = 24 → d + 41 ≤ k →
  r01List.l0 k (s : Int) (L ((List.range i).filter fun j => s.testBit j)) (i : Int) = some (L (dimsN s))
 | d, 0, _, _, hk => absurd hk (by omega)
 | 0, k + 1, i, hi, _ => by
  obtain rfl : i = 24 := by omega
  unfold r01List.l0
  rw [if_neg (by omega)]
  rfl
 | d + 1, k + 1, i, hi, hk => by
  have e2 : wrap64 ((i : Int) + 1) = ((i + 1 : Nat) : Int) := by
   rw [wrap64_small (by omega) (by omega)]
   omega
  have hl : ((List.range i).filter fun j => s.testBit j).length ≤ i := by
   have := List.length_filter_le (fun j => s.testBit j) (List.range i)
   rwa [List.length_range] at this
  have ih := list_l0 s hs d k (i + 1) (by omega) (by omega)
  rw [List.range_succ, List.filter_append] at ih
  unfold r01List.l0
  rw [if_pos (by omega), has s k i hs (by omega)]
  simp only [Option.bind_some]
  rw [Int.toNat_natCast, show decide (0 ≤ (i : Int) ∧ (i : Int) < 24) = true from decide_eq_true (by omega), Bool.true_and, e2]
  by_cases hb : s.testBit i = true
  ·rw [if_pos hb, if_pos (by rw [L_len]; omega)]
   rw [show L ((List.range i).filter fun j => s.testBit j) ++ [(i : Int)] = L (((List.range i).filter fun j => s.testBit j) ++ [i].filter fun j => s.testBit j) by simp [L, hb]]
   exact ih
  ·rw [if_neg hb]
   rw [show L ((List.range i).filter fun j => s.testBit j) = L (((List.range i).filter fun j => s.testBit j) ++ [i].filter fun j => s.testBit j) by simp [hb]]
   exact ih
theorem list (s k : Nat) (hs : s < 4294967296) (hk : 65 ≤ k) : r01List.f k (s : Int) = some (L (dimsN s)) := by
 unfold r01List.f
 exact list_l0 s hs 24 k 0 (by omega) (by omega)
theorem set_l0 (l : List Nat) (hl : l.length ≤ 25) (hb : ∀ x ∈ l, x < 24) : ∀ (post pre : List Nat) (k : Nat), pre ++ post = l → post.length + 41 < k →
  r01Set.l0 k (L l) ((sumPow pre : Nat) : Int) (pre.length : Int) = some ((sumPow l : Nat) : Int)
 | _, _, 0, _, hk => absurd hk (by omega)
 | [], pre, k + 1, he, _ => by
  rw [List.append_nil] at he
  subst he
  have := sumPow_le (l := pre) 23 fun x hx => by have := hb x hx; omega
  have h2 : pre.length * 2 ^ 23 ≤ 25 * 2 ^ 23 := Nat.mul_le_mul_right _ hl
  unfold r01Set.l0
  rw [if_neg (by rw [L_len]; omega), Int.emod_eq_of_lt (by omega) (by omega)]
 | a :: post, pre, k + 1, he, hk => by
  subst he
  have ha : a < 24 := hb a (by simp)
  rw [List.length_append, List.length_cons] at hl
  rw [List.length_cons] at hk
  have h1 := sumPow_le (l := pre ++ [a]) 23 fun x hx => by
   have := hb x (by simp at hx ⊢; rcases hx with h | h; exact .inl h; exact .inr (.inl h))
   omega
  rw [List.length_append, List.length_singleton] at h1
  have h2 : (pre.length + 1) * 2 ^ 23 ≤ 25 * 2 ^ 23 := Nat.mul_le_mul_right _ (by omega)
  have h3 : sumPow (pre ++ [a]) = sumPow pre + 2 ^ a := by
   rw [sumPow_append]
   simp [sumPow]
  have e1 : wrap64 (((sumPow pre : Nat) : Int) + ((2 ^ a : Nat) : Int)) = ((sumPow (pre ++ [a]) : Nat) : Int) := by
   rw [wrap64_small (by omega) (by omega), h3]
   omega
  have e2 : wrap64 ((pre.length : Int) + 1) = (((pre ++ [a]).length : Nat) : Int) := by
   rw [wrap64_small (by omega) (by omega), List.length_append, List.length_singleton]
   omega
  unfold r01Set.l0
  rw [if_pos (by rw [L_len, List.length_append, List.length_cons]; omega), if_pos (by omega), rd_mid, power a k (by omega) (by omega)]
  simp only [Option.bind_some]
  rw [e1, e2]
  have e3 : pre ++ a :: post = (pre ++ [a]) ++ post := by simp
  exact set_l0 (pre ++ a :: post) (by rw [List.length_append, List.length_cons]; omega) hb post (pre ++ [a]) k e3.symm (by omega)
theorem set (l : List Nat) (k : Nat) (hl : l.length ≤ 25) (hb : ∀ x ∈ l, x < 24) (hk : 70 ≤ k) : r01Set.f k (L l) = some ((sumPow l : Nat) : Int) := by
 unfold r01Set.f
 exact set_l0 l hl hb l [] k rfl (by omega)
theorem r1_lt (x : UInt32) : r1 x = decide (x.toNat < 16777216) := rfl
theorem clash_l0 (p n : Nat) (hp : p < 16777216) (hn : n < 16777216) : ∀ (d k i : Nat), i + d = 24 → d + 50 ≤ k → (∀ j, j < i → (p &&& n).testBit j = false) →
  r02Clash.l0 k (i : Int) (p : Int) (n : Int) = some (decide (p &&& n ≠ 0))
 | d, 0, _, _, hk, _ => absurd hk (by omega)
 | 0, k + 1, i, hi, _, hb => by
  obtain rfl : i = 24 := by omega
  have h0 : p &&& n = 0 := by
   apply Nat.eq_of_testBit_eq
   intro j
   rw [Nat.zero_testBit]
   rcases Nat.lt_or_ge j 24 with h | h
   ·exact hb j h
   ·rw [Nat.testBit_and, testBit_high hp h]; rfl
  rw [r02Clash.l0, if_neg (by omega), h0]
  rfl
 | d + 1, k + 1, i, hi, hk, hb => by
  have e2 : wrap64 ((i : Int) + 1) = ((i + 1 : Nat) : Int) := by
   rw [wrap64_small (by omega) (by omega)]
   omega
  have h1 := has p k (i : Int) (by omega) (by omega)
  have h2 := has n k (i : Int) (by omega) (by omega)
  rw [Int.toNat_natCast, decide_eq_true (by omega), Bool.true_and] at h1 h2
  have ih : (p &&& n).testBit i = false → r02Clash.l0 k ((i + 1 : Nat) : Int) (p : Int) (n : Int) = some (decide (p &&& n ≠ 0)) := fun hf =>
   clash_l0 p n hp hn d k (i + 1) (by omega) (by omega) fun j hj => by
    rcases Nat.lt_or_ge j i with h | h
    ·exact hb j h
    ·rw [show j = i by omega]; exact hf
  rw [Nat.testBit_and] at ih
  rw [r02Clash.l0, if_pos (by omega), h1, Option.bind_some, e2]
  cases hpb : p.testBit i
  ·rw [hpb] at ih
   rw [if_neg Bool.false_ne_true]
   exact ih rfl
  ·rw [hpb] at ih
   rw [if_pos rfl, h2, Option.bind_some]
   cases hnb : n.testBit i
   ·rw [hnb] at ih
    rw [if_neg Bool.false_ne_true]
    exact ih rfl
   ·rw [if_pos rfl]
    have : p &&& n ≠ 0 := fun e => by
     have h3 := Nat.testBit_and p n i
     rw [e, hpb, hnb, Nat.zero_testBit] at h3
     cases h3
    rw [decide_eq_true this]
theorem refclash (c : C) (k : Nat) (hc : ok c = true) (hk : 100 ≤ k) : r02Clash.f k (un c.1) (un c.2) = some (decide (c.1 &&& c.2 ≠ 0)) := by
 unfold ok at hc
 rw [Bool.and_eq_true, r1_lt, r1_lt, decide_eq_true_eq, decide_eq_true_eq] at hc
 unfold r02Clash.f un
 have h := clash_l0 c.1.toNat c.2.toNat hc.1 hc.2 24 k 0 (by omega) (by omega) (fun j hj => absurd hj (by omega))
 rw [show ((0 : Nat) : Int) = 0 from rfl] at h
 rw [h, Option.some.injEq, decide_eq_decide, ne_eq, ne_eq, ← UInt32.toNat_inj, UInt32.toNat_and]
 rfl
theorem refleastL (l : List C) (h : l.length ≤ 1000000) : r02Least.f (LC l) = some (LC (least l).1, (least l).2) := by
 unfold r02Least.f
 rw [if_pos (okLC h), backLC, leastR_eq]
 rfl
theorem least_le64 (l : List C) : (least l).1.length ≤ 64 := by
 rcases least_cases l with ⟨_, e⟩ | ⟨_, _, e⟩ | ⟨_, h2, e⟩
 ·rw [e]; simp
 ·rw [e]; simp
 ·rw [e]
  show (sortC (keep l)).length ≤ 64
  rw [length_sortC]
  exact h2
theorem ref3right (l : List C) (k : Nat) (h : l.length ≤ 1000000) (hk : 64 < k) : r03Right.f k (LC l) = some (H.right l) := by
 have h64 := least_le64 l
 unfold r03Right.f H.right
 rw [refleastL l h, Option.bind_some]
 by_cases he : (least l).2 = 0
 ·rw [if_pos he, sameL _ _ k (by omega) (by omega), Option.bind_some, decide_eq_true he, Bool.true_and]
 ·rw [if_neg he, decide_eq_false he, Bool.false_and]
theorem ref5right_l0 (l : List C) (hok : l.all ok = true) (hl : l.length ≤ 1000000) : ∀ (d k i : Nat), i + d = l.length → d + 110 < k → (∀ x ∈ l.take i, H.clash x = false) → r05Right.l0 k (LC l) (i : Int) = some (!l.any H.clash)
 | d, 0, _, _, hk, _ => absurd hk (by omega)
 | 0, k + 1, i, hi, _, ht => by
  rw [r05Right.l0, if_neg (by rw [LC_len]; omega), List.any_eq_false.2]
  ·rfl
  ·intro x hx
   rw [ht x (by rw [List.take_of_length_le (by omega)]; exact hx)]
   exact Bool.false_ne_true
 | d + 1, k + 1, i, hi, hk, ht => by
  have hil : i < l.length := by omega
  have e2 : wrap64 ((i : Int) + 1) = ((i + 1 : Nat) : Int) := by
   unfold wrap64
   omega
  have hc : r02Clash.f k (ofC24 l[i]).f0 (ofC24 l[i]).f1 = some (H.clash l[i]) := refclash l[i] k (List.all_eq_true.1 hok _ (List.getElem_mem _)) (by omega)
  rw [r05Right.l0, if_pos (by rw [LC_len]; omega), if_pos (by omega), rdC l i hil, hc, Option.bind_some, e2]
  cases h1 : H.clash l[i]
  ·rw [if_neg (by simp)]
   refine ref5right_l0 l hok hl d k (i + 1) (by omega) (by omega) fun x hx => ?_
   rw [List.take_succ_eq_append_getElem hil] at hx
   rcases List.mem_append.1 hx with h | h
   ·exact ht x h
   ·rw [List.mem_singleton.1 h]
    exact h1
  ·rw [if_pos rfl, List.any_eq_true.2 ⟨l[i], List.getElem_mem _, h1⟩]
   rfl
theorem ref5right (l : List C) (k : Nat) (h : l.length ≤ 1000000) (hk : l.length + 200 < k) : r05Right.f k (LC l) = some (faceR l) := by
 unfold r05Right.f faceR
 rw [ref3right l k h (by omega), Option.bind_some]
 cases hr : H.right l
 ·rfl
 ·rw [if_pos rfl, Bool.true_and]
  exact ref5right_l0 l (right_all hr) h l.length k 0 (by omega) (by omega) (by simp)
theorem hasT (x : UInt32) (k i : Nat) (hk : 41 ≤ k) (hi : i < 24) : r01Has.f k (un x) (i : Int) = some (tb x i) := by
 have h := has x.toNat k (i : Int) (by have := x.toNat_lt; omega) hk
 rw [decide_eq_true (by omega), Bool.true_and, Int.toNat_natCast] at h
 exact h
theorem withoutT (s : UInt32) : ma_Withou.f (un s) (-1) = some (un (s &&& M24)) := by
 unfold ma_Withou.f
 rw [show ma_dimens.f (-1) = some false from rfl, Option.bind_some, if_neg Bool.false_ne_true, show (16777215 : Int) = un M24 from rfl, un_and]
theorem dimsT_l0 (l : List C) (hl : l.length ≤ 1000000) : ∀ (d k i : Nat) (s : UInt32), i + d = l.length → d < k → fo_Dims.l0 k (un s) (LC l) (l.length : Int) (i : Int) = some (un (((l.drop i).foldl (fun s c => s ||| (c.1 ||| c.2)) s) &&& M24))
 | d, 0, _, _, _, hk => absurd hk (by omega)
 | 0, k + 1, i, s, hi, _ => by
  rw [fo_Dims.l0, if_neg (by omega), withoutT, Option.bind_some, List.drop_eq_nil_of_le (by omega)]
  rfl
 | d + 1, k + 1, i, s, hi, hk => by
  have hil : i < l.length := by omega
  have e2 : wrap64 ((i : Int) + 1) = ((i + 1 : Nat) : Int) := by
   unfold wrap64
   omega
  have e3 : Go.bits .or .u32 (un s) (Go.bits .or .u32 (ofC24 l[i]).f0 (ofC24 l[i]).f1) = un (s ||| (l[i].1 ||| l[i].2)) := by
   unfold ofC24
   rw [un_or, un_or]
  rw [fo_Dims.l0, if_pos (by omega), if_pos (by omega), if_pos (by rw [LC_len]; omega), rdC l i hil, e3, e2, dimsT_l0 l hl d k (i + 1) _ (by omega) (by omega), List.drop_eq_getElem_cons hil, List.foldl_cons]
theorem dimsT (l : List C) (k : Nat) (hl : l.length ≤ 1000000) (hk : l.length < k) : fo_Dims.f k (LC l) = some (un (dimsF l)) := by
 unfold fo_Dims.f
 rw [LC_len]
 exact dimsT_l0 l hl l.length k 0 0 (by omega) hk
theorem rdims_l1 (f : List C) (hl : f.length ≤ 1000000) (i : Nat) (hi : i < 24) (pre : List Nat) (hpre : pre.length ≤ i) (R : Option Int) (K0 : Nat) (hK : 50 ≤ K0) : ∀ (d k j : Nat) (b : Bool), j + d = f.length → K0 + d < k →
  (∀ k', K0 ≤ k' → r03Dims.l0 k' (LC f) (L (if (b || (f.drop j).any fun c => tb c.1 i || tb c.2 i) = true then pre ++ [i] else pre)) ((i + 1 : Nat) : Int) = R) → r03Dims.l1 k (LC f) (L pre) (i : Int) b (j : Int) = R
 | d, 0, _, _, _, hk, _ => absurd hk (by omega)
 | 0, k + 1, j, b, hj, hk, h => by
  have e2 : wrap64 ((i : Int) + 1) = ((i + 1 : Nat) : Int) := by
   unfold wrap64
   omega
  have h2 := h k (by omega)
  rw [List.drop_eq_nil_of_le (by omega), List.any_nil, Bool.or_false] at h2
  rw [r03Dims.l1, if_neg (by rw [LC_len]; omega), e2]
  cases b
  ·rw [if_neg Bool.false_ne_true]
   rw [if_neg Bool.false_ne_true] at h2
   exact h2
  ·rw [if_pos rfl, if_pos (by rw [L_len]; omega)]
   rw [if_pos rfl] at h2
   rw [show L pre ++ [(i : Int)] = L (pre ++ [i]) by simp [L]]
   exact h2
 | d + 1, k + 1, j, b, hj, hk, h => by
  have hjl : j < f.length := by omega
  have e2 : wrap64 ((j : Int) + 1) = ((j + 1 : Nat) : Int) := by
   unfold wrap64
   omega
  have ih := fun b' h' => rdims_l1 f hl i hi pre hpre R K0 hK d k (j + 1) b' (by omega) (by omega) h'
  rw [r03Dims.l1, if_pos (by rw [LC_len]; omega), e2]
  rw [List.drop_eq_getElem_cons hjl] at h
  cases b
  ·rw [if_neg Bool.false_ne_true, if_pos (by omega), rdC f j hjl]
   show (r01Has.f k (un f[j].1) (i : Int)).bind _ = _
   rw [hasT _ k i (by omega) hi, Option.bind_some]
   by_cases h1 : tb f[j].1 i = true
   ·rw [if_pos h1]
    refine ih true fun k' hk' => ?_
    have h3 := h k' hk'
    rw [List.any_cons, h1, Bool.true_or, Bool.true_or, Bool.or_true] at h3
    rw [Bool.true_or]
    exact h3
   ·rw [if_neg h1]
    show (r01Has.f k (un f[j].2) (i : Int)).bind _ = _
    rw [hasT _ k i (by omega) hi, Option.bind_some]
    refine ih _ fun k' hk' => ?_
    have h3 := h k' hk'
    rw [List.any_cons, show tb f[j].1 i = false by simpa using h1, Bool.false_or, Bool.false_or] at h3
    exact h3
  ·rw [if_pos rfl]
   refine ih true fun k' hk' => ?_
   have h3 := h k' hk'
   rw [Bool.true_or] at h3 ⊢
   exact h3
theorem rdims_l0 (f : List C) (hl : f.length ≤ 1000000) (R : Option Int) (h : ∀ k', 90 ≤ k' → r01Set.f k' (L ((List.range 24).filter fun i => f.any fun c => tb c.1 i || tb c.2 i)) = R) : ∀ (d k i : Nat), i + d = 24 → 100 + d * (f.length + 5) < k →
  r03Dims.l0 k (LC f) (L ((List.range i).filter fun i => f.any fun c => tb c.1 i || tb c.2 i)) (i : Int) = R
 | d, 0, _, _, hk => absurd hk (by omega)
 | 0, k + 1, i, hi, hk => by
  obtain rfl : i = 24 := by omega
  rw [r03Dims.l0, if_neg (by omega), h k (by omega)]
  cases R <;> rfl
 | d + 1, k + 1, i, hi, hk => by
  have hm : (d + 1) * (f.length + 5) = d * (f.length + 5) + (f.length + 5) := Nat.succ_mul ..
  have hlen : ((List.range i).filter fun i => f.any fun c => tb c.1 i || tb c.2 i).length ≤ i := by
   have := List.length_filter_le (fun i => f.any fun c => tb c.1 i || tb c.2 i) (List.range i)
   rwa [List.length_range] at this
  rw [r03Dims.l0, if_pos (by omega)]
  refine rdims_l1 f hl i (by omega) _ hlen R (101 + d * (f.length + 5)) (by omega) f.length k 0 false (by omega) (by omega) fun k' hk' => ?_
  have ih := rdims_l0 f hl R h d k' (i + 1) (by omega) (by omega)
  rw [List.range_succ, List.filter_append] at ih
  rw [List.drop_zero, Bool.false_or]
  by_cases hb : (f.any fun c => tb c.1 i || tb c.2 i) = true
  ·rw [if_pos hb]
   rw [show List.filter (fun i => f.any fun c => tb c.1 i || tb c.2 i) [i] = [i] by rw [List.filter_cons, if_pos hb]; rfl] at ih
   exact ih
  ·rw [if_neg hb]
   rw [show List.filter (fun i => f.any fun c => tb c.1 i || tb c.2 i) [i] = [] by rw [List.filter_cons, if_neg hb]; rfl, List.append_nil] at ih
   exact ih
theorem refdims (f : List C) (k : Nat) (hl : f.length ≤ 1000000) (hk : 300 + 24 * f.length < k) : r03Dims.f k (LC f) = some (un (dimsF f)) := by
 unfold r03Dims.f
 have hr : r1 (dimsF f) = true := r1_iff.2 fun i hi => by
  rw [tb_dimsF, Bool.and_eq_true, decide_eq_true_iff] at hi
  exact hi.1
 have hlt : (dimsF f).toNat < 16777216 := of_decide_eq_true hr
 have e : ((List.range 24).filter fun i => f.any fun c => tb c.1 i || tb c.2 i) = dimsN (dimsF f).toNat := by
  unfold dimsN
  refine List.filter_congr fun i hi => ?_
  have h := tb_dimsF f i
  rw [decide_eq_true (List.mem_range.1 hi), Bool.true_and] at h
  exact h.symm
 refine rdims_l0 f hl _ (fun k' hk' => ?_) 24 k 0 (by omega) (by omega)
 rw [e, set _ k' (by have := dimsN_len (dimsF f).toNat; omega) (fun x hx => (mem_dimsN.1 hx).1) (by have := dimsN_len (dimsF f).toNat; omega), sumPow_dimsN, Nat.mod_eq_of_lt hlt]
 rfl
end Go.Proofs.YtahdjajdaggmjaaGreatDoor.Pure
namespace Go.Proofs.YtahdjajdaggmjaaGreatDoor.XPa
open Go.RowKit Go.Proofs.YtahdjajdaggmjaaGreatDoor.Pure Go.Proofs.YtahdjajdaggmjaaGreatDoorW.PrintWords Go.Proofs.YtahdjajdaggmjaaGreatDoorW.PrintLast Go.Proofs.YtahdjajdaggmjaaGreatDoorW.PrintMore H
theorem LC_back {l : List S113} (h : l.all inR24 = true) : LC (l.map toC24) = l := by
 unfold LC
 rw [List.map_map]
 refine (List.map_congr_left (g := id) fun c hc => ?_).trans (List.map_id _)
 rw [Function.comp_apply, ofC_toC24 (List.all_eq_true.1 h c hc)]
 rfl
def wiN (l : List C) (d : Int) : Bool := decide ((dimsF l).toNat < 2 ^ d.toNat)
theorem dimsF_lt (l : List C) : (dimsF l).toNat < 16777216 := by
 have hr : r1 (dimsF l) = true := r1_iff.2 fun i hi => by
  rw [tb_dimsF, Bool.and_eq_true, decide_eq_true_iff] at hi
  exact hi.1
 exact of_decide_eq_true hr
theorem wiN_great (l : List C) {d : Int} (h : 24 ≤ d) : wiN l d = true := by
 have h1 := dimsF_lt l
 have h2 : 2 ^ 24 ≤ 2 ^ d.toNat := Nat.pow_le_pow_right (by omega) (by omega)
 exact decide_eq_true (by omega)
theorem withinE (l : List C) (d : Int) (hl : l.length ≤ 1000000) (hd : 0 ≤ d) : Ev (fun k => te_within.f k (LC l) d) (wiN l d) := by
 by_cases h : d ≥ 24
 ·rw [wiN_great l h]
  refine evS (fun k => by rw [te_within.f]) ?_
  exact Ev.pos h (Ev.now _)
 ·obtain ⟨n, rfl⟩ := Int.eq_ofNat_of_zero_le hd
  have e : shr .u32 (un (dimsF l)) (n : Int) = (((dimsF l).toNat / 2 ^ n : Nat) : Int) := by
   unfold shr un
   rw [Int.toNat_natCast, Nat.min_eq_left (by show n ≤ 32; omega), Int.natCast_ediv, Int.natCast_pow]
   rfl
  refine ⟨l.length + 1, fun k hk => ?_⟩
  show te_within.f k (LC l) (n : Int) = _
  unfold te_within.f
  rw [if_neg h, dimsT l k hl (by omega), Option.bind_some, u64w n (by omega), if_pos (by omega), e]
  congr 1
  unfold wiN
  rw [Int.toNat_natCast, Bool.eq_iff_iff, beq_iff_eq, decide_eq_true_iff]
  have hp : 0 < 2 ^ n := Nat.two_pow_pos n
  have : (dimsF l).toNat / 2 ^ n = 0 ↔ (dimsF l).toNat < 2 ^ n := Nat.div_eq_zero_iff_lt hp
  constructor
  ·intro h2
   exact this.1 (by omega)
  ·intro h2
   have := this.2 h2
   omega
theorem lowE (l : List C) (d : Int) (hl : l.length ≤ 1000000) (hd : 0 ≤ d) : Ev (fun k => r10low.f k (LC l) d) (wiN l d) := by
 have hlt := dimsF_lt l
 have hs := sumPow_dimsN (dimsF l).toNat
 rw [Nat.mod_eq_of_lt hlt] at hs
 have hlen := dimsN_len (dimsF l).toNat
 refine ⟨400 + 24 * l.length, fun k hk => ?_⟩
 show r10low.f k (LC l) d = _
 unfold r10low.f
 rw [refdims l k hl (by omega), Option.bind_some, show un (dimsF l) = (((dimsF l).toNat : Nat) : Int) from rfl, list _ k (by omega) (by omega), Option.bind_some, L_len]
 by_cases h0 : (dimsN (dimsF l).toNat).length = 0
 ·rw [if_pos (by omega)]
  rw [List.length_eq_zero_iff.1 h0] at hs
  congr 1
  refine (decide_eq_true ?_).symm
  rw [← hs]
  exact Nat.two_pow_pos _
 ·have hw : wrap64 (((dimsN (dimsF l).toNat).length : Int) - 1) = (((dimsN (dimsF l).toNat).length - 1 : Nat) : Int) := by
   unfold wrap64
   omega
  have hi : (dimsN (dimsF l).toNat).length - 1 < (dimsN (dimsF l).toNat).length := by omega
  have hrd : rd (L (dimsN (dimsF l).toNat)) (((dimsN (dimsF l).toNat).length - 1 : Nat) : Int) = (((dimsN (dimsF l).toNat)[(dimsN (dimsF l).toNat).length - 1] : Nat) : Int) := by
   unfold rd L
   rw [Int.toNat_natCast, List.getD_eq_getElem?_getD, List.getElem?_map, List.getElem?_eq_getElem hi]
   rfl
  rw [if_neg (by omega), hw, if_pos (by omega), if_pos (by omega), hrd]
  congr 1
  unfold wiN
  rw [Bool.eq_iff_iff, decide_eq_true_iff, decide_eq_true_iff]
  have hm := List.getElem_mem hi
  obtain ⟨hm1, hm2⟩ := mem_dimsN.1 hm
  have hge := Nat.ge_two_pow_of_testBit hm2
  constructor
  ·intro h
   refine Nat.lt_pow_two_of_testBit _ fun i hi2 => ?_
   rw [Bool.eq_false_iff]
   intro hb
   have h24 : i < 24 := by
    apply Decidable.byContradiction
    intro hn
    rw [testBit_high (by omega) (by omega)] at hb
    cases hb
   obtain ⟨j, hj, he⟩ := List.mem_iff_getElem.1 (mem_dimsN.2 ⟨h24, hb⟩)
   have hasc := List.pairwise_iff_getElem.1 (dimsN_asc (dimsF l).toNat)
   by_cases hjl : j = (dimsN (dimsF l).toNat).length - 1
   ·subst hjl
    omega
   ·have := hasc j _ hj hi (by omega)
    omega
  ·intro h
   have hlt2 : 2 ^ (dimsN (dimsF l).toNat)[(dimsN (dimsF l).toNat).length - 1] < 2 ^ d.toNat := by omega
   have := (Nat.pow_lt_pow_iff_right (by omega)).1 hlt2
   omega
theorem rightE (l : List C) (hl : l.length ≤ 1000000) : Ev (fun k => fo_Right.f k (LC l)) (H.right l) := ⟨65, fun k hk => rightL l k hl (by omega)⟩
theorem right3E (l : List C) (hl : l.length ≤ 1000000) : Ev (fun k => r03Right.f k (LC l)) (H.right l) := ⟨65, fun k hk => ref3right l k hl (by omega)⟩
theorem faceE (l : List C) (hl : l.length ≤ 1000000) : fa_Right.f (LC l) = some (faceR l) := by
 unfold fa_Right.f
 rw [if_pos (okLC hl), backLC]
theorem face5E (l : List C) (hl : l.length ≤ 1000000) : Ev (fun k => r05Right.f k (LC l)) (faceR l) := ⟨l.length + 201, fun k hk => ref5right l k hl (by omega)⟩
end Go.Proofs.YtahdjajdaggmjaaGreatDoor.XPa
end
section
set_option linter.unusedVariables false
set_option linter.unusedSimpArgs false
namespace Go.Proofs.YtahdjajdaggmjaaGreatDoor.XPa
open Go.RowKit Go.Proofs.YtahdjajdaggmjaaGreatDoorW.PrintWords Go.Proofs.YtahdjajdaggmjaaGreatDoorW.PrintLast Go.Proofs.YtahdjajdaggmjaaGreatDoorW.PrintMore
theorem ws (a : Nat) (h : a < 4000000000) : wrap64 ((a : Int) + 1) = ((a + 1 : Nat) : Int) := by unfold wrap64; omega
theorem letBI {c : UInt8} : letB c = true ↔ (97 ≤ c.toNat ∧ c.toNat ≤ 122) ∨ (65 ≤ c.toNat ∧ c.toNat ≤ 90) ∨ c.toNat = 95 := by
 unfold letB
 simp only [Bool.or_eq_true, Bool.and_eq_true, decide_eq_true_eq, beq_iff_eq]
 omega
theorem digBI {c : UInt8} : digB c = true ↔ 48 ≤ c.toNat ∧ c.toNat ≤ 57 := by
 unfold digB
 simp only [Bool.and_eq_true, decide_eq_true_eq]
theorem tname_from (s : ByteArray) (hs : s.size ≤ 2000000) : ∀ (n i : Nat), i + n = s.size → 0 < i → Ev (fun k => te_name.l0 k s (s.size : Int) (i : Int)) ((s.data.toList.drop i).all alnB) := by
 intro n
 induction n with
 | zero =>
  intro i hi h0
  rw [drop_end s i (by omega)]
  refine Ev.up (G := fun _ => some true) (Ev.now _) (fun k => ?_)
  rw [te_name.l0, if_neg (by omega)]
  congr 1
  rw [bne_iff_ne, Lib.toList_data]
  intro h
  rw [Lib.size_eq, h] at hi
  simp at hi
  omega
 | succ n ih =>
  intro i hi h0
  have hil : i < s.size := by omega
  have hb := bt_nat s i hil
  have hlt := s[i].toNat_lt
  rw [drop_bt s i hil, List.all_cons]
  by_cases hL : letB s[i] = true
  ·rw [show alnB s[i] = true by unfold alnB; rw [hL]; rfl, Bool.true_and]
   refine Ev.up (ih (i + 1) (by omega) (by omega)) (fun k => ?_)
   have h := letBI.1 hL
   rw [te_name.l0, hb, ws i (by omega)]
   ((repeat' (first | ((with_reducible refine (if_pos ?_).trans ?_); (focus omega)) | ((with_reducible refine (if_neg ?_).trans ?_); (focus omega)) | split)) <;> (first | rfl | (exfalso; omega)))
  ·have h : ¬ ((97 ≤ s[i].toNat ∧ s[i].toNat ≤ 122) ∨ (65 ≤ s[i].toNat ∧ s[i].toNat ≤ 90) ∨ s[i].toNat = 95) := fun h => hL (letBI.2 h)
   by_cases hD : digB s[i] = true
   ·rw [show alnB s[i] = true by unfold alnB; rw [hD]; exact Bool.or_true _, Bool.true_and]
    refine Ev.up (ih (i + 1) (by omega) (by omega)) (fun k => ?_)
    have h2 := digBI.1 hD
    rw [te_name.l0, hb, ws i (by omega)]
    ((repeat' (first | ((with_reducible refine (if_pos ?_).trans ?_); (focus omega)) | ((with_reducible refine (if_neg ?_).trans ?_); (focus omega)) | split)) <;> (first | rfl | (exfalso; omega)))
   ·rw [show alnB s[i] = false by unfold alnB; rw [Bool.eq_false_iff.2 hL, Bool.eq_false_iff.2 hD]; rfl, Bool.false_and]
    refine Ev.up (G := fun _ => some false) (Ev.now _) (fun k => ?_)
    have h2 : ¬ (48 ≤ s[i].toNat ∧ s[i].toNat ≤ 57) := fun h => hD (digBI.2 h)
    rw [te_name.l0, hb]
    ((repeat' (first | ((with_reducible refine (if_pos ?_).trans ?_); (focus omega)) | ((with_reducible refine (if_neg ?_).trans ?_); (focus omega)) | split)) <;> (first | rfl | (exfalso; omega)))
theorem tname (s : ByteArray) (hs : s.size ≤ 2000000) : Ev (fun k => te_name.f k s) (nmB s) := by
 refine evS (fun k => by rw [te_name.f]) ?_
 by_cases h0 : s.size = 0
 ·have he : s.data.toList = [] := by
   rw [← List.length_eq_zero_iff, ← Lib.size_eq]
   exact h0
  refine Ev.up (G := fun _ => some (nmB s)) (Ev.now _) (fun k => ?_)
  rw [te_name.l0, if_neg (by omega)]
  congr 1
  unfold nmB
  rw [he, Lib.toList_data, he]
  rfl
 ·have hil : 0 < s.size := by omega
  have hb : bt s 0 = (s[0].toNat : Int) := bt_nat s 0 hil
  have hlt := s[0].toNat_lt
  have hd := drop_bt s 0 hil
  rw [List.drop_zero] at hd
  unfold nmB
  rw [hd, nmL_cons]
  by_cases hL : letB s[0] = true
  ·rw [hL, Bool.true_and]
   refine Ev.up (tname_from s hs (s.size - 1) 1 (by omega) (by omega)) (fun k => ?_)
   have h := letBI.1 hL
   rw [te_name.l0, hb, show wrap64 ((0 : Int) + 1) = ((1 : Nat) : Int) from ws 0 (by omega)]
   ((repeat' (first | ((with_reducible refine (if_pos ?_).trans ?_); (focus omega)) | ((with_reducible refine (if_neg ?_).trans ?_); (focus omega)) | split)) <;> (first | rfl | (exfalso; omega)))
  ·have h : ¬ ((97 ≤ s[0].toNat ∧ s[0].toNat ≤ 122) ∨ (65 ≤ s[0].toNat ∧ s[0].toNat ≤ 90) ∨ s[0].toNat = 95) := fun h => hL (letBI.2 h)
   rw [Bool.eq_false_iff.2 hL, Bool.false_and]
   refine Ev.up (G := fun _ => some false) (Ev.now _) (fun k => ?_)
   rw [te_name.l0, hb]
   ((repeat' (first | ((with_reducible refine (if_pos ?_).trans ?_); (focus omega)) | ((with_reducible refine (if_neg ?_).trans ?_); (focus omega)) | split)) <;> (first | rfl | (exfalso; omega)))
theorem rname_from (s : ByteArray) (hs : s.size ≤ 2000000) : ∀ (n i : Nat), i + n = s.size → 0 < i → Ev (fun k => r10name.l0 k s (i : Int)) ((s.data.toList.drop i).all alnB) := by
 intro n
 induction n with
 | zero =>
  intro i hi h0
  rw [drop_end s i (by omega)]
  refine Ev.up (G := fun _ => some true) (Ev.now _) (fun k => ?_)
  rw [r10name.l0, if_neg (by omega), decide_eq_true (by omega)]
 | succ n ih =>
  intro i hi h0
  have hil : i < s.size := by omega
  have hb := bt_nat s i hil
  have hlt := s[i].toNat_lt
  rw [drop_bt s i hil, List.all_cons]
  by_cases hD : digB s[i] = true
  ·rw [show alnB s[i] = true by unfold alnB; rw [hD]; exact Bool.or_true _, Bool.true_and]
   have h2 := digBI.1 hD
   refine Ev.up (G := fun k => r10name.j1 k s (i : Int) (s[i].toNat : Int) true) (Ev.up (ih (i + 1) (by omega) (by omega)) (fun k => ?_)) (fun k => ?_)
   ·rw [r10name.j1, if_pos rfl, ws i (by omega)]
   ·rw [r10name.l0, hb, decide_eq_true (show (i : Int) > 0 by omega)]
    ((repeat' (first | ((with_reducible refine (if_pos ?_).trans ?_); (focus omega)) | ((with_reducible refine (if_neg ?_).trans ?_); (focus omega)) | split)) <;> (first | rfl | (exfalso; omega)))
  ·have h2 : ¬ (48 ≤ s[i].toNat ∧ s[i].toNat ≤ 57) := fun h => hD (digBI.2 h)
   have hj : ∀ k, r10name.l0 (k + 1) s (i : Int) = r10name.j1 k s (i : Int) (s[i].toNat : Int) false := by
    intro k
    rw [r10name.l0, hb, if_pos (by omega), if_pos (by omega)]
    by_cases h3 : (s[i].toNat : Int) ≥ 48
    ·rw [if_pos h3, if_neg (by omega)]
    ·rw [if_neg h3]
   by_cases hL : letB s[i] = true
   ·rw [show alnB s[i] = true by unfold alnB; rw [hL]; rfl, Bool.true_and]
    have h := letBI.1 hL
    refine Ev.up (Ev.up (ih (i + 1) (by omega) (by omega)) (fun k => ?_)) hj
    rw [r10name.j1, if_neg Bool.false_ne_true, ws i (by omega)]
    ((repeat' (first | ((with_reducible refine (if_pos ?_).trans ?_); (focus omega)) | ((with_reducible refine (if_neg ?_).trans ?_); (focus omega)) | split)) <;> (first | rfl | (exfalso; omega)))
   ·rw [show alnB s[i] = false by unfold alnB; rw [Bool.eq_false_iff.2 hL, Bool.eq_false_iff.2 hD]; rfl, Bool.false_and]
    have h : ¬ ((97 ≤ s[i].toNat ∧ s[i].toNat ≤ 122) ∨ (65 ≤ s[i].toNat ∧ s[i].toNat ≤ 90) ∨ s[i].toNat = 95) := fun h => hL (letBI.2 h)
    refine Ev.up (Ev.up (G := fun _ => some false) (Ev.now _) (fun k => ?_)) hj
    rw [r10name.j1, if_neg Bool.false_ne_true]
    ((repeat' (first | ((with_reducible refine (if_pos ?_).trans ?_); (focus omega)) | ((with_reducible refine (if_neg ?_).trans ?_); (focus omega)) | split)) <;> (first | rfl | (exfalso; omega)))
theorem rname (s : ByteArray) (hs : s.size ≤ 2000000) : Ev (fun k => r10name.f k s) (nmB s) := by
 refine evS (fun k => by rw [r10name.f]) ?_
 by_cases h0 : s.size = 0
 ·have he : s.data.toList = [] := by
   rw [← List.length_eq_zero_iff, ← Lib.size_eq]
   exact h0
  refine Ev.up (G := fun _ => some (nmB s)) (Ev.now _) (fun k => ?_)
  rw [r10name.l0, if_neg (by omega), decide_eq_false (by omega)]
  unfold nmB
  rw [he]
  rfl
 ·have hil : 0 < s.size := by omega
  have hb : bt s 0 = (s[0].toNat : Int) := bt_nat s 0 hil
  have hlt := s[0].toNat_lt
  have hd := drop_bt s 0 hil
  rw [List.drop_zero] at hd
  unfold nmB
  rw [hd, nmL_cons]
  have hj : ∀ k, r10name.l0 (k + 1) s 0 = r10name.j1 k s 0 (s[0].toNat : Int) false := by
   intro k
   rw [r10name.l0, hb, if_pos (by omega), if_pos (by omega), decide_eq_false (by omega)]
   by_cases h3 : (s[0].toNat : Int) ≥ 48
   ·rw [if_pos h3]
    by_cases h4 : (s[0].toNat : Int) ≤ 57
    ·rw [if_pos h4]
    ·rw [if_neg h4]
   ·rw [if_neg h3]
  by_cases hL : letB s[0] = true
  ·rw [hL, Bool.true_and]
   have h := letBI.1 hL
   refine Ev.up (Ev.up (rname_from s hs (s.size - 1) 1 (by omega) (by omega)) (fun k => ?_)) hj
   rw [r10name.j1, if_neg Bool.false_ne_true, show wrap64 ((0 : Int) + 1) = ((1 : Nat) : Int) from ws 0 (by omega)]
   ((repeat' (first | ((with_reducible refine (if_pos ?_).trans ?_); (focus omega)) | ((with_reducible refine (if_neg ?_).trans ?_); (focus omega)) | split)) <;> (first | rfl | (exfalso; omega)))
  ·have h : ¬ ((97 ≤ s[0].toNat ∧ s[0].toNat ≤ 122) ∨ (65 ≤ s[0].toNat ∧ s[0].toNat ≤ 90) ∨ s[0].toNat = 95) := fun h => hL (letBI.2 h)
   rw [Bool.eq_false_iff.2 hL, Bool.false_and]
   refine Ev.up (Ev.up (G := fun _ => some false) (Ev.now _) (fun k => ?_)) hj
   rw [r10name.j1, if_neg Bool.false_ne_true]
   ((repeat' (first | ((with_reducible refine (if_pos ?_).trans ?_); (focus omega)) | ((with_reducible refine (if_neg ?_).trans ?_); (focus omega)) | split)) <;> (first | rfl | (exfalso; omega)))
end Go.Proofs.YtahdjajdaggmjaaGreatDoor.XPa
end
