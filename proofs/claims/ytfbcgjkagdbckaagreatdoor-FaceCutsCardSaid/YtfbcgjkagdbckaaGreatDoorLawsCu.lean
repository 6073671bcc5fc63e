/-
PLAIN LAW: the statement FaceCuts.
-/
import Derived.Laws.BitsAllLaws
import Derived.Test.YtfbcgjkagdbckaaGreatDoorNat
import Derived.Test.YtfbcgjkagdbckaaGreatDoorFh
import Derived.Test.YtfbcgjkagdbckaaGreatDoorFw
import Derived.Test.YtfbcgjkagdbckaaGreatDoorXCux0
import Derived.Test.YtfbcgjkagdbckaaGreatDoorXCux1
import Derived.Test.YtfbcgjkagdbckaaGreatDoorXCux2
import Derived.Test.YtfbcgjkagdbckaaGreatDoorXCux3
import Derived.Test.YtfbcgjkagdbckaaGreatDoorXCux4
import Derived.Test.YtfbcgjkagdbckaaGreatDoorXCux5
import Derived.Test.YtfbcgjkagdbckaaGreatDoorXCux6
import Derived.Test.YtfbcgjkagdbckaaGreatDoorXCux7
import Derived.Test.YtfbcgjkagdbckaaGreatDoorXCux8
import Derived.Test.YtfbcgjkagdbckaaGreatDoorXCux9
import Derived.Test.YtfbcgjkagdbckaaGreatDoorXCux10
import Derived.Test.YtfbcgjkagdbckaaGreatDoorXCux11
import Derived.Test.YtfbcgjkagdbckaaGreatDoorXCux12
import Derived.Test.YtfbcgjkagdbckaaGreatDoorXCux13
namespace Go.Proofs.YtfbcgjkagdbckaaGreatDoor.Pure
open Go.RowKit Go.Proofs.YtfbcgjkagdbckaaGreatDoor.XCu Go.Proofs.YtfbcgjkagdbckaaGreatDoorW.PrintWords Go.Proofs.YtfbcgjkagdbckaaGreatDoorW.PrintLast Go.Proofs.YtfbcgjkagdbckaaGreatDoorW.PrintMore H

theorem wrap64_small {n : Int} (h1 : -9223372036854775808 ≤ n) (h2 : n < 9223372036854775808) : wrap64 n = n := by
  unfold wrap64
  omega
def LC (l : List C) : List S25 := l.map ofC24
theorem LC_len (l : List C) : (LC l).length = l.length := List.length_map ..
theorem LC_append (a b : List C) : LC (a ++ b) = LC a ++ LC b := List.map_append ..
theorem rdC (l : List C) (i : Nat) (h : i < l.length) : rd_T25 (LC l) (i : Int) = ofC24 l[i] := by
  unfold rd_T25 LC
  rw [Int.toNat_natCast, List.getD_eq_getElem?_getD, List.getElem?_map, List.getElem?_eq_getElem h]
  rfl
theorem backLC (l : List C) : (LC l).map toC24 = l := by
  unfold LC
  rw [List.map_map]
  refine (List.map_congr_left (g := id) fun c _ => ?_).trans (List.map_id _)
  rw [Function.comp_apply, toC_ofC24]
  rfl
theorem okLC {l : List C} (h : l.length ≤ 1000000) : okL24 (LC l) := ⟨by unfold LC; rw [List.all_map, List.all_eq_true]; intro c _; rw [Function.comp_apply, inR_ofC24], by rw [LC_len]; exact h⟩
def L (l : List Nat) : List Int := l.map fun i : Nat => (i : Int)
theorem L_len (l : List Nat) : (L l).length = l.length := List.length_map ..
theorem rd_mid (pre post : List Nat) (a : Nat) : rd (L (pre ++ a :: post)) (pre.length : Int) = (a : Int) := by
  unfold rd L
  simp
theorem ofL (l : List C) (h : l.length ≤ 1000000) : face_Of.f (LC l) = some (LC (ofF l).1, (ofF l).2) := by
  unfold face_Of.f
  rw [if_pos (okLC h), backLC]
  rfl
theorem allL (l : List C) (i : Int) (h : l.length ≤ 1000000) : face_All.f (LC l) i = some (LC (allF l i).1, (allF l i).2) := by
  unfold face_All.f
  rw [if_pos (okLC h), backLC]
  rfl
theorem restrL (l : List C) (c : C) (h : l.length ≤ 1000000) : face_Restrict.f (LC l) (un c.1) (un c.2) = some (LC (restrF l c).1, (restrF l c).2) := by
  have h2 : toC24 ⟨un c.1, un c.2⟩ = c := toC_ofC24 c
  unfold face_Restrict.f
  rw [if_pos ⟨okLC h, inR_ofC24 c⟩, backLC, h2]
  rfl
theorem same_l0 (a b : List C) (hab : a.length = b.length) (hl : a.length < 4611686018427387904) : ∀ (d k i : Nat), i + d = a.length → d < k → a.take i = b.take i → hypercuberef02_Same.l0 k (LC a) (LC b) (i : Int) = some (decide (a = b))
  | d, 0, _, _, hk, _ => absurd hk (by omega)
  | 0, k + 1, i, hi, _, ht => by
    have e : a = b := by rw [← List.take_of_length_le (l := a) (i := i) (by omega), ht, List.take_of_length_le (by omega)]
    rw [hypercuberef02_Same.l0, if_neg (by rw [LC_len]; omega), decide_eq_true e]
  | d + 1, k + 1, i, hi, hk, ht => by
    have hia : i < a.length := by omega
    have hib : i < b.length := by omega
    have e2 : wrap64 ((i : Int) + 1) = ((i + 1 : Nat) : Int) := by
      unfold wrap64
      omega
    rw [hypercuberef02_Same.l0, if_pos (by rw [LC_len]; omega), if_pos (by omega), if_pos (by rw [LC_len]; omega), rdC a i hia, rdC b i hib]
    have hq : (!((ofC24 a[i]).f0 == (ofC24 b[i]).f0) || !((ofC24 a[i]).f1 == (ofC24 b[i]).f1)) = !decide (a[i] = b[i]) := by
      unfold ofC24
      rw [un_beq, un_beq, Bool.eq_iff_iff]
      simp [Prod.ext_iff]
    rw [hq, e2]
    by_cases hc : a[i] = b[i]
    · rw [if_neg (by simp [hc])]
      refine same_l0 a b hab hl d k (i + 1) (by omega) (by omega) ?_
      rw [List.take_succ_eq_append_getElem hia, List.take_succ_eq_append_getElem hib, ht, hc]
    · rw [if_pos (by simp [hc]), decide_eq_false (fun e => hc (by subst e; rfl))]
theorem sameL (a b : List C) (k : Nat) (hl : a.length < 4611686018427387904) (hk : a.length < k) : hypercuberef02_Same.f k (LC a) (LC b) = some (decide (a = b)) := by
  unfold hypercuberef02_Same.f
  rw [LC_len, LC_len]
  by_cases h : a.length = b.length
  · rw [if_pos (by omega)]
    exact same_l0 a b h hl a.length k 0 (by omega) hk rfl
  · rw [if_neg (by omega), decide_eq_false (fun e => h (by rw [e]))]
theorem same (l : List C) (k : Nat) (hl : l.length < 4611686018427387904) (hk : l.length < k) : hypercuberef02_Same.f k (LC l) (LC l) = some true := by
  rw [sameL l l k hl hk, decide_eq_true rfl]
theorem works (k : Nat) (hk : 5 ≤ k) : hypercubelaw05_works.f k = some true := by
  obtain ⟨k, rfl⟩ : ∃ j, k = j + 5 := ⟨k - 5, by omega⟩
  have e1 := ofL [(0, 2), (1, 0)] (by decide)
  have e2 := ofL [(1, 1)] (by decide)
  have e3 := restrL [(1, 2), (4, 0)] (1, 0) (by decide)
  have e4 := allL [(0, 1), (1, 0), (2, 0)] 0 (by decide)
  rw [ex1] at e1
  rw [ex2] at e2
  rw [ex3] at e3
  rw [ex4] at e4
  have s1 := same [(0, 2), (4, 0)] (k + 5) (by decide) (by simp)
  have s2 := same [(2, 0)] (k + 5) (by decide) (by simp)
  have f1 : LC [(0, 2), (1, 0)] = [⟨0, 2⟩, ⟨1, 0⟩] := rfl
  have f2 : LC [(1, 1)] = [⟨1, 1⟩] := rfl
  have f3 : LC [(1, 2), (4, 0)] = [⟨1, 2⟩, ⟨4, 0⟩] := rfl
  have f4 : LC [(0, 1), (1, 0), (2, 0)] = [⟨0, 1⟩, ⟨1, 0⟩, ⟨2, 0⟩] := rfl
  have f5 : LC [(0, 2), (4, 0)] = [⟨0, 2⟩, ⟨4, 0⟩] := rfl
  have f6 : LC [(2, 0)] = [⟨2, 0⟩] := rfl
  have u1 : un (1, 0).1 = 1 := rfl
  have u2 : un ((1, 0) : C).2 = 0 := rfl
  have u3 : un ((1, 0) : C).1 = 1 := rfl
  rw [f1] at e1
  rw [f2] at e2
  rw [f3, f5, u2, u3] at e3
  rw [f4, f6] at e4
  rw [f5] at s1
  rw [f6] at s2
  unfold hypercubelaw05_works.f
  rw [e1, Option.bind_some, e2, Option.bind_some, e3, Option.bind_some, e4, Option.bind_some, if_pos rfl, if_pos rfl, if_pos rfl, if_pos rfl]
  refine (if_pos ?_).trans ?_
  · rfl
  refine (if_pos ?_).trans ?_
  · rfl
  rw [s1, Option.bind_some, if_pos rfl, s2, Option.bind_some]
theorem power_l0 (n : Nat) (hn : n ≤ 40) : ∀ (d k i : Nat), i + d = n → d < k → hypercuberef01_power.l0 k (n : Int) ((2 ^ i : Nat) : Int) (i : Int) = some ((2 ^ n : Nat) : Int)
  | d, 0, _, _, hk => absurd hk (by omega)
  | 0, k + 1, i, hi, _ => by
    unfold hypercuberef01_power.l0
    rw [if_neg (by omega), show i = n by omega]
  | d + 1, k + 1, i, hi, hk => by
    have hp : 2 ^ (i + 1) ≤ 2 ^ 40 := Nat.pow_le_pow_right (by omega) (by omega)
    have he : 2 ^ (i + 1) = 2 ^ i * 2 := Nat.pow_succ ..
    have e1 : wrap64 (((2 ^ i : Nat) : Int) * 2) = ((2 ^ (i + 1) : Nat) : Int) := by
      rw [wrap64_small (by omega) (by omega)]
      omega
    have e2 : wrap64 ((i : Int) + 1) = ((i + 1 : Nat) : Int) := by
      rw [wrap64_small (by omega) (by omega)]
      omega
    unfold hypercuberef01_power.l0
    rw [if_pos (by omega), e1, e2]
    exact power_l0 n hn d k (i + 1) (by omega) (by omega)
theorem power (n k : Nat) (hn : n ≤ 40) (hk : 41 ≤ k) : hypercuberef01_power.f k (n : Int) = some ((2 ^ n : Nat) : Int) := by
  unfold hypercuberef01_power.f
  exact power_l0 n hn n k 0 (by omega) (by omega)

theorem has (s k : Nat) (i : Int) (hs : s < 4294967296) (hk : 41 ≤ k) : hypercuberef01_Has.f k (s : Int) i = some (decide (0 ≤ i ∧ i < 24) && s.testBit i.toNat) := by
  unfold hypercuberef01_Has.f
  by_cases h0 : i ≥ 0
  · by_cases h1 : i < 24
    · obtain ⟨n, rfl⟩ := Int.eq_ofNat_of_zero_le h0
      have hp : 0 < 2 ^ n := Nat.two_pow_pos n
      have hd : s / 2 ^ n ≤ s := Nat.div_le_self ..
      rw [if_pos h0, if_pos h1, power n k (by omega) hk]
      simp only [Option.bind_some]
      rw [if_neg (by omega), wrap64_small (n := (s : Int)) (by omega) (by omega), ← Int.ofNat_tdiv, wrap64_small (Int.le_trans (by decide) (Int.natCast_nonneg _)) (Int.lt_of_le_of_lt (Int.ofNat_le.2 hd) (by omega))]
      rw [show (2 : Int) = ((2 : Nat) : Int) from rfl, ← Int.ofNat_tmod, Int.toNat_natCast, Nat.testBit_eq_decide_div_mod_eq]
      rw [Option.some.injEq, Bool.eq_iff_iff]
      simp only [beq_iff_eq, Bool.and_eq_true, decide_eq_true_eq]
      omega
    · rw [if_pos h0, if_neg h1]
      simp [h1]
  · rw [if_neg h0]
    have : ¬ 0 ≤ i := h0
    simp [this]
theorem list_l0 (s : Nat) (hs : s < 4294967296) : ∀ (d k i : Nat), i + d = 24 → d + 41 ≤ k →
    hypercuberef01_List.l0 k (s : Int) (L ((List.range i).filter fun j => s.testBit j)) (i : Int) = some (L (dimsN s))
  | d, 0, _, _, hk => absurd hk (by omega)
  | 0, k + 1, i, hi, _ => by
    obtain rfl : i = 24 := by omega
    unfold hypercuberef01_List.l0
    rw [if_neg (by omega)]
    rfl
  | d + 1, k + 1, i, hi, hk => by
    have e2 : wrap64 ((i : Int) + 1) = ((i + 1 : Nat) : Int) := by
      rw [wrap64_small (by omega) (by omega)]
      omega
    have hl : ((List.range i).filter fun j => s.testBit j).length ≤ i := by
      have := List.length_filter_le (fun j => s.testBit j) (List.range i)
      rwa [List.length_range] at this
    have ih := list_l0 s hs d k (i + 1) (by omega) (by omega)
    rw [List.range_succ, List.filter_append] at ih
    unfold hypercuberef01_List.l0
    rw [if_pos (by omega), has s k i hs (by omega)]
    simp only [Option.bind_some]
    rw [Int.toNat_natCast, show decide (0 ≤ (i : Int) ∧ (i : Int) < 24) = true from decide_eq_true (by omega), Bool.true_and, e2]
    by_cases hb : s.testBit i = true
    · rw [if_pos hb, if_pos (by rw [L_len]; omega)]
      rw [show L ((List.range i).filter fun j => s.testBit j) ++ [(i : Int)] = L (((List.range i).filter fun j => s.testBit j) ++ [i].filter fun j => s.testBit j) by simp [L, hb]]
      exact ih
    · rw [if_neg hb]
      rw [show L ((List.range i).filter fun j => s.testBit j) = L (((List.range i).filter fun j => s.testBit j) ++ [i].filter fun j => s.testBit j) by simp [hb]]
      exact ih
theorem list (s k : Nat) (hs : s < 4294967296) (hk : 65 ≤ k) : hypercuberef01_List.f k (s : Int) = some (L (dimsN s)) := by
  unfold hypercuberef01_List.f
  exact list_l0 s hs 24 k 0 (by omega) (by omega)

theorem set_l0 (l : List Nat) (hl : l.length ≤ 25) (hb : ∀ x ∈ l, x < 24) : ∀ (post pre : List Nat) (k : Nat), pre ++ post = l → post.length + 41 < k →
    hypercuberef01_Set.l0 k (L l) ((sumPow pre : Nat) : Int) (pre.length : Int) = some ((sumPow l : Nat) : Int)
  | _, _, 0, _, hk => absurd hk (by omega)
  | [], pre, k + 1, he, _ => by
    rw [List.append_nil] at he
    subst he
    have := sumPow_le (l := pre) 23 fun x hx => by have := hb x hx; omega
    have h2 : pre.length * 2 ^ 23 ≤ 25 * 2 ^ 23 := Nat.mul_le_mul_right _ hl
    unfold hypercuberef01_Set.l0
    rw [if_neg (by rw [L_len]; omega), Int.emod_eq_of_lt (by omega) (by omega)]
  | a :: post, pre, k + 1, he, hk => by
    subst he
    have ha : a < 24 := hb a (by simp)
    rw [List.length_append, List.length_cons] at hl
    rw [List.length_cons] at hk
    have h1 := sumPow_le (l := pre ++ [a]) 23 fun x hx => by
      have := hb x (by simp at hx ⊢; rcases hx with h | h; exact .inl h; exact .inr (.inl h))
      omega
    rw [List.length_append, List.length_singleton] at h1
    have h2 : (pre.length + 1) * 2 ^ 23 ≤ 25 * 2 ^ 23 := Nat.mul_le_mul_right _ (by omega)
    have h3 : sumPow (pre ++ [a]) = sumPow pre + 2 ^ a := by
      rw [sumPow_append]
      simp [sumPow]
    have e1 : wrap64 (((sumPow pre : Nat) : Int) + ((2 ^ a : Nat) : Int)) = ((sumPow (pre ++ [a]) : Nat) : Int) := by
      rw [wrap64_small (by omega) (by omega), h3]
      omega
    have e2 : wrap64 ((pre.length : Int) + 1) = (((pre ++ [a]).length : Nat) : Int) := by
      rw [wrap64_small (by omega) (by omega), List.length_append, List.length_singleton]
      omega
    unfold hypercuberef01_Set.l0
    rw [if_pos (by rw [L_len, List.length_append, List.length_cons]; omega), if_pos (by omega), rd_mid, power a k (by omega) (by omega)]
    simp only [Option.bind_some]
    rw [e1, e2]
    have e3 : pre ++ a :: post = (pre ++ [a]) ++ post := by simp
    exact set_l0 (pre ++ a :: post) (by rw [List.length_append, List.length_cons]; omega) hb post (pre ++ [a]) k e3.symm (by omega)
theorem set (l : List Nat) (k : Nat) (hl : l.length ≤ 25) (hb : ∀ x ∈ l, x < 24) (hk : 70 ≤ k) : hypercuberef01_Set.f k (L l) = some ((sumPow l : Nat) : Int) := by
  unfold hypercuberef01_Set.f
  exact set_l0 l hl hb l [] k rfl (by omega)
theorem without_l0 (i : Int) (l : List Nat) (hl : l.length ≤ 24) (hb : ∀ x ∈ l, x < 24) : ∀ (post pre : List Nat) (k : Nat), pre ++ post = l → post.length + 71 ≤ k →
    hypercuberef01_Without.l0 k i (L l) (L (pre.filter fun x : Nat => decide ((x : Int) ≠ i))) (pre.length : Int) = some ((sumPow (l.filter fun x : Nat => decide ((x : Int) ≠ i)) : Nat) : Int)
  | _, _, 0, _, hk => absurd hk (by omega)
  | [], pre, k + 1, he, hk => by
    rw [List.append_nil] at he
    subst he
    unfold hypercuberef01_Without.l0
    have hf := List.length_filter_le (fun x : Nat => decide ((x : Int) ≠ i)) pre
    rw [if_neg (by rw [L_len]; omega), set _ k (by omega) (fun x hx => hb x (List.mem_filter.1 hx).1) (by simp at hk; omega)]
    rfl
  | a :: post, pre, k + 1, he, hk => by
    subst he
    rw [List.length_cons] at hk
    have hl' := hl
    rw [List.length_append, List.length_cons] at hl'
    have e2 : wrap64 ((pre.length : Int) + 1) = (((pre ++ [a]).length : Nat) : Int) := by
      rw [wrap64_small (by omega) (by omega), List.length_append, List.length_singleton]
      omega
    have e3 : pre ++ a :: post = (pre ++ [a]) ++ post := by simp
    have ih := without_l0 i (pre ++ a :: post) hl hb post (pre ++ [a]) k e3.symm (by omega)
    have hf := List.length_filter_le (fun x : Nat => decide ((x : Int) ≠ i)) pre
    unfold hypercuberef01_Without.l0
    rw [if_pos (by rw [L_len, List.length_append, List.length_cons]; omega), if_pos (by omega), rd_mid, e2]
    by_cases h : (a : Int) = i
    · rw [if_pos h]
      rw [List.filter_append] at ih
      simp only [List.filter_cons, List.filter_nil, ne_eq, h, not_true, decide_false, Bool.false_eq_true, if_false, List.append_nil] at ih ⊢
      exact ih
    · rw [if_neg h, if_pos (by rw [L_len]; omega)]
      rw [show L (pre.filter fun x : Nat => decide ((x : Int) ≠ i)) ++ [(a : Int)] = L ((pre ++ [a]).filter fun x : Nat => decide ((x : Int) ≠ i)) by simp [L, List.filter_append, h]]
      exact ih
theorem without (s k : Nat) (i : Int) (hs : s < 4294967296) (hk : 95 ≤ k) : hypercuberef01_Without.f k (s : Int) i = some ((sumPow ((dimsN s).filter fun x : Nat => decide ((x : Int) ≠ i)) : Nat) : Int) := by
  unfold hypercuberef01_Without.f
  rw [list s k hs (by omega)]
  simp only [Option.bind_some]
  have := dimsN_len s
  exact without_l0 i (dimsN s) this (fun x hx => (mem_dimsN.1 hx).1) (dimsN s) [] k rfl (by omega)

theorem dimsN_sum_filter (s : Nat) (p : Nat → Bool) : dimsN (sumPow ((dimsN s).filter p)) = (dimsN s).filter p :=
  dimsN_sumPow ((dimsN_asc s).filter _) fun _ hx => (mem_dimsN.1 (List.mem_filter.1 hx).1).1
theorem sum_filter_lt (s : Nat) (p : Nat → Bool) : sumPow ((dimsN s).filter p) < 16777216 :=
  sumPow_lt (nodup_of_asc ((dimsN_asc s).filter _)) fun _ hx => (mem_dimsN.1 (List.mem_filter.1 hx).1).1
theorem refwith (s k : Nat) (i : Int) (hs : s < 4294967296) (hk : 100 ≤ k) : hypercuberef01_With.f k (s : Int) i = some (if 0 ≤ i ∧ i < 24 then ((s % 16777216 ||| 2 ^ i.toNat : Nat) : Int) else ((s % 16777216 : Nat) : Int)) := by
  obtain ⟨k', rfl⟩ : ∃ k', k = k' + 1 := ⟨k - 1, by omega⟩
  have hneg : sumPow ((dimsN s).filter fun x : Nat => decide ((x : Int) ≠ -1)) = s % 16777216 := by
    rw [List.filter_eq_self.2, sumPow_dimsN]
    intro x _
    simp
  unfold hypercuberef01_With.f
  by_cases h : 0 ≤ i ∧ i < 24
  · obtain ⟨n, rfl⟩ := Int.eq_ofNat_of_zero_le h.1
    have hlt := sum_filter_lt s fun x : Nat => decide ((x : Int) ≠ (n : Int))
    have hlen := List.length_filter_le (fun x : Nat => decide ((x : Int) ≠ (n : Int))) (dimsN s)
    have hlen2 := dimsN_len s
    rw [if_neg (by omega), show decide ((n : Int) ≥ 24) = false from decide_eq_false (by omega), hypercuberef01_With.j0, if_neg Bool.false_ne_true, without s k' n hs (by omega)]
    simp only [Option.bind_some]
    rw [list _ k' (by omega) (by omega), dimsN_sum_filter]
    simp only [Option.bind_some]
    rw [if_pos (by rw [L_len]; omega)]
    rw [show L ((dimsN s).filter fun x : Nat => decide ((x : Int) ≠ (n : Int))) ++ [(n : Int)] = L (((dimsN s).filter fun x : Nat => decide ((x : Int) ≠ (n : Int))) ++ [n]) by simp [L]]
    rw [set _ k' (by rw [List.length_append, List.length_singleton]; omega) (by
      intro x hx
      rcases List.mem_append.1 hx with h1 | h1
      · exact (mem_dimsN.1 (List.mem_filter.1 h1).1).1
      · rw [List.mem_singleton] at h1; omega) (by omega), if_pos h, Int.toNat_natCast]
    simp only [Option.bind_some]
    rw [Option.some.injEq, Int.ofNat_inj]
    apply Nat.eq_of_testBit_eq
    intro j
    have nd : (((dimsN s).filter fun x : Nat => decide ((x : Int) ≠ (n : Int))) ++ [n]).Nodup := by
      rw [List.nodup_append]
      refine ⟨nodup_of_asc ((dimsN_asc s).filter _), by simp, ?_⟩
      intro a ha b hb e
      rw [List.mem_singleton] at hb
      have := (List.mem_filter.1 ha).2
      simp at this
      omega
    rw [sumPow_testBit nd, Nat.testBit_or, testBit_low24, Nat.testBit_two_pow, Bool.eq_iff_iff]
    simp only [decide_eq_true_eq, Bool.or_eq_true, Bool.and_eq_true, List.mem_append, List.mem_singleton, List.mem_filter, mem_dimsN]
    constructor
    · rintro (⟨h1, _⟩ | h1)
      · exact .inl h1
      · exact .inr h1.symm
    · rintro (h1 | h1)
      · by_cases e : j = n
        · exact .inr e
        · exact .inl ⟨h1, by omega⟩
      · exact .inr h1.symm
  · rw [if_neg h]
    by_cases hn : i < 0
    · rw [if_pos hn, hypercuberef01_With.j0, if_pos rfl, without s k' (-1) hs (by omega), hneg]
      rfl
    · rw [if_neg hn, show decide (i ≥ 24) = true from decide_eq_true (by omega), hypercuberef01_With.j0, if_pos rfl, without s k' (-1) hs (by omega), hneg]
      rfl
theorem r1_lt (x : UInt32) : r1 x = decide (x.toNat < 16777216) := rfl
theorem clash_l0 (p n : Nat) (hp : p < 16777216) (hn : n < 16777216) : ∀ (d k i : Nat), i + d = 24 → d + 50 ≤ k → (∀ j, j < i → (p &&& n).testBit j = false) →
    hypercuberef02_Clash.l0 k (i : Int) (p : Int) (n : Int) = some (decide (p &&& n ≠ 0))
  | d, 0, _, _, hk, _ => absurd hk (by omega)
  | 0, k + 1, i, hi, _, hb => by
    obtain rfl : i = 24 := by omega
    have h0 : p &&& n = 0 := by
      apply Nat.eq_of_testBit_eq
      intro j
      rw [Nat.zero_testBit]
      rcases Nat.lt_or_ge j 24 with h | h
      · exact hb j h
      · rw [Nat.testBit_and, testBit_high hp h]; rfl
    rw [hypercuberef02_Clash.l0, if_neg (by omega), h0]
    rfl
  | d + 1, k + 1, i, hi, hk, hb => by
    have e2 : wrap64 ((i : Int) + 1) = ((i + 1 : Nat) : Int) := by
      rw [wrap64_small (by omega) (by omega)]
      omega
    have h1 := has p k (i : Int) (by omega) (by omega)
    have h2 := has n k (i : Int) (by omega) (by omega)
    rw [Int.toNat_natCast, decide_eq_true (by omega), Bool.true_and] at h1 h2
    have ih : (p &&& n).testBit i = false → hypercuberef02_Clash.l0 k ((i + 1 : Nat) : Int) (p : Int) (n : Int) = some (decide (p &&& n ≠ 0)) := fun hf =>
      clash_l0 p n hp hn d k (i + 1) (by omega) (by omega) fun j hj => by
        rcases Nat.lt_or_ge j i with h | h
        · exact hb j h
        · rw [show j = i by omega]; exact hf
    rw [Nat.testBit_and] at ih
    rw [hypercuberef02_Clash.l0, if_pos (by omega), h1, Option.bind_some, e2]
    cases hpb : p.testBit i
    · rw [hpb] at ih
      rw [if_neg Bool.false_ne_true]
      exact ih rfl
    · rw [hpb] at ih
      rw [if_pos rfl, h2, Option.bind_some]
      cases hnb : n.testBit i
      · rw [hnb] at ih
        rw [if_neg Bool.false_ne_true]
        exact ih rfl
      · rw [if_pos rfl]
        have : p &&& n ≠ 0 := fun e => by
          have h3 := Nat.testBit_and p n i
          rw [e, hpb, hnb, Nat.zero_testBit] at h3
          cases h3
        rw [decide_eq_true this]
theorem refclash (c : C) (k : Nat) (hc : ok c = true) (hk : 100 ≤ k) : hypercuberef02_Clash.f k (un c.1) (un c.2) = some (decide (c.1 &&& c.2 ≠ 0)) := by
  unfold ok at hc
  rw [Bool.and_eq_true, r1_lt, r1_lt, decide_eq_true_eq, decide_eq_true_eq] at hc
  unfold hypercuberef02_Clash.f un
  have h := clash_l0 c.1.toNat c.2.toNat hc.1 hc.2 24 k 0 (by omega) (by omega) (fun j hj => absurd hj (by omega))
  rw [show ((0 : Nat) : Int) = 0 from rfl] at h
  rw [h, Option.some.injEq, decide_eq_decide, ne_eq, ne_eq, ← UInt32.toNat_inj, UInt32.toNat_and]
  rfl
theorem union_l0 (a : Nat) (D : List Nat) (ha : a < 16777216) (hlen : D.length ≤ 24) (hD : D.Pairwise (· < ·)) (hb : ∀ x ∈ D, x < 24) : ∀ (post pre : List Nat) (k : Nat), pre ++ post = D → post.length + 101 ≤ k →
    hypercuberef02_union.l0 k ((a ||| sumPow pre : Nat) : Int) (L D) (pre.length : Int) = some ((a ||| sumPow D : Nat) : Int) := by
  intro post
  induction post with
  | nil =>
    intro pre k he hk
    obtain ⟨k, rfl⟩ : ∃ k', k = k' + 1 := ⟨k - 1, by omega⟩
    rw [List.append_nil] at he
    subst he
    rw [hypercuberef02_union.l0, if_neg (by rw [L_len]; omega)]
  | cons i post ih =>
    intro pre k he hk
    obtain ⟨k, rfl⟩ : ∃ k', k = k' + 1 := ⟨k - 1, by omega⟩
    rw [List.length_cons] at hk
    have e3 : pre ++ i :: post = (pre ++ [i]) ++ post := by simp
    have hl2 : D.length = pre.length + (post.length + 1) := by rw [← he, List.length_append, List.length_cons]
    have hi : i < 24 := hb i (by rw [← he]; simp)
    have hasc2 : (pre ++ [i]).Pairwise (· < ·) := by
      rw [← he, e3] at hD
      exact (List.pairwise_append.1 hD).1
    have hnd := nodup_of_asc hasc2
    have hpre : pre.Nodup := (List.nodup_append.1 hnd).1
    have hlt : sumPow pre < 16777216 := sumPow_lt hpre fun x hx => hb x (by rw [← he]; simp [hx])
    have hor : a ||| sumPow pre < 16777216 := Nat.or_lt_two_pow (n := 24) ha hlt
    have hstep : (a ||| sumPow pre) ||| 2 ^ i = a ||| sumPow (pre ++ [i]) := by
      apply Nat.eq_of_testBit_eq
      intro j
      rw [Nat.testBit_or, Nat.testBit_or, Nat.testBit_or, sumPow_testBit hpre, sumPow_testBit hnd, Nat.testBit_two_pow, Bool.eq_iff_iff]
      simp only [Bool.or_eq_true, decide_eq_true_eq, List.mem_append, List.mem_singleton]
      constructor
      · rintro ((h | h) | h)
        · exact .inl h
        · exact .inr (.inl h)
        · exact .inr (.inr h.symm)
      · rintro (h | h | h)
        · exact .inl (.inl h)
        · exact .inl (.inr h)
        · exact .inr h.symm
    have e2 : wrap64 ((pre.length : Int) + 1) = (((pre ++ [i]).length : Nat) : Int) := by
      rw [wrap64_small (by omega) (by omega), List.length_append, List.length_singleton]
      omega
    have hrd : rd (L D) (pre.length : Int) = (i : Int) := by rw [← he]; exact rd_mid pre post i
    have hw := refwith (a ||| sumPow pre) k (i : Int) (by omega) (by omega)
    rw [if_pos (by omega), Int.toNat_natCast, Nat.mod_eq_of_lt hor, hstep] at hw
    have hll := L_len D
    rw [hypercuberef02_union.l0, if_pos (by omega), if_pos (by omega), hrd, hw, Option.bind_some, e2]
    exact ih (pre ++ [i]) k (by rw [← e3]; exact he) (by omega)
theorem union (a b k : Nat) (ha : a < 16777216) (hb : b < 16777216) (hk : 200 ≤ k) : hypercuberef02_union.f k (a : Int) (b : Int) = some ((a ||| b : Nat) : Int) := by
  have hlen := dimsN_len b
  have h := union_l0 a (dimsN b) ha hlen (dimsN_asc b) (fun x hx => (mem_dimsN.1 hx).1) (dimsN b) [] k rfl (by omega)
  rw [sumPow_dimsN, Nat.mod_eq_of_lt hb] at h
  rw [show sumPow [] = 0 from rfl, Nat.or_zero] at h
  unfold hypercuberef02_union.f
  rw [list b k (by omega) (by omega), Option.bind_some]
  exact h
theorem unionU (a b : UInt32) (k : Nat) (ha : r1 a = true) (hb : r1 b = true) (hk : 200 ≤ k) : hypercuberef02_union.f k (un a) (un b) = some (un (a ||| b)) := by
  rw [r1_lt, decide_eq_true_eq] at ha hb
  unfold un
  rw [union a.toNat b.toNat k ha hb hk, UInt32.toNat_or]
theorem refmeet (a b : C) (k : Nat) (ha : ok a = true) (hb : ok b = true) (hk : 200 ≤ k) : hypercuberef02_Meet.f k (un a.1) (un a.2) (un b.1) (un b.2) = some (un (meet a b).1, un (meet a b).2) := by
  unfold ok at ha hb
  rw [Bool.and_eq_true] at ha hb
  unfold hypercuberef02_Meet.f
  rw [unionU a.1 b.1 k ha.1 hb.1 hk, Option.bind_some, unionU a.2 b.2 k ha.2 hb.2 hk, Option.bind_some]
  rfl
theorem refleastL (l : List C) (h : l.length ≤ 1000000) : hypercuberef02_Least.f (LC l) = some (LC (least l).1, (least l).2) := by
  unfold hypercuberef02_Least.f
  rw [if_pos (okLC h), backLC, leastR_eq]
  rfl
theorem least_le64 (l : List C) : (least l).1.length ≤ 64 := by
  rcases least_cases l with ⟨_, e⟩ | ⟨_, _, e⟩ | ⟨_, h2, e⟩
  · rw [e]; simp
  · rw [e]; simp
  · rw [e]
    show (sortC (keep l)).length ≤ 64
    rw [length_sortC]
    exact h2
theorem ref3right (l : List C) (k : Nat) (h : l.length ≤ 1000000) (hk : 64 < k) : hypercuberef03_Right.f k (LC l) = some (H.right l) := by
  have h64 := least_le64 l
  unfold hypercuberef03_Right.f H.right
  rw [refleastL l h, Option.bind_some]
  by_cases he : (least l).2 = 0
  · rw [if_pos he, sameL _ _ k (by omega) (by omega), Option.bind_some, decide_eq_true he, Bool.true_and]
  · rw [if_neg he, decide_eq_false he, Bool.false_and]
theorem unN (x : UInt32) : un x = ((x.toNat : Nat) : Int) := rfl
theorem hasU (x : UInt32) (i k : Nat) (hi : i < 24) (hk : 41 ≤ k) : hypercuberef01_Has.f k (un x) (i : Int) = some (tb x i) := by
  rw [unN, has x.toNat k i x.toNat_lt hk, decide_eq_true (by omega), Bool.true_and, Int.toNat_natCast]
  rfl
theorem setOne (i k : Nat) (hi : i < 24) (hk : 70 ≤ k) : hypercuberef01_Set.f k [(i : Int)] = some (un (H.one i)) := by
  have h := set [i] k (by simp) (by simpa using hi) hk
  have e : sumPow [i] = 2 ^ i := by simp [sumPow]
  rw [e] at h
  rw [show un (H.one i) = ((2 ^ i : Nat) : Int) by unfold un; rw [H.toNat_one (by omega)]]
  exact h
/-- A clause's opposites, dimension by dimension. -/
def turnD (c : C) (i : Nat) : List C := (if tb c.1 i = true then [(0, H.one i)] else []) ++ (if tb c.2 i = true then [(H.one i, 0)] else [])
def turnL (c : C) : List C := (List.range 24).flatMap (turnD c)
theorem turn_least (c : C) : least (turnL c) = least (opps c) := by
  refine least_congr fun x => ?_
  unfold turnL opps
  rw [List.mem_flatMap, List.mem_append, List.mem_map, List.mem_map]
  constructor
  · rintro ⟨i, hi, hx⟩
    rw [List.mem_range] at hi
    rcases List.mem_append.1 hx with h | h
    · split at h
      · rename_i hb
        rw [List.mem_singleton.1 h]
        exact .inl ⟨i, mem_dims.2 ⟨hi, hb⟩, rfl⟩
      · cases h
    · split at h
      · rename_i hb
        rw [List.mem_singleton.1 h]
        exact .inr ⟨i, mem_dims.2 ⟨hi, hb⟩, rfl⟩
      · cases h
  · rintro (⟨i, hi, rfl⟩ | ⟨i, hi, rfl⟩)
    · obtain ⟨h1, h2⟩ := mem_dims.1 hi
      exact ⟨i, List.mem_range.2 h1, List.mem_append.2 (.inl (by rw [if_pos h2]; simp))⟩
    · obtain ⟨h1, h2⟩ := mem_dims.1 hi
      exact ⟨i, List.mem_range.2 h1, List.mem_append.2 (.inr (by rw [if_pos h2]; simp))⟩
theorem turn_l0 (c : C) : ∀ (d k i : Nat) (A : List C), i + d = 24 → d + 80 < k → A.length ≤ 2 * i → hypercuberef03_turned.l0 k (LC A) (i : Int) (un c.1) (un c.2) = some (LC (least (A ++ (List.range' i d).flatMap (turnD c))).1)
  | d, 0, _, _, _, hk, _ => absurd hk (by omega)
  | 0, k + 1, i, A, hi, _, hA => by
    rw [hypercuberef03_turned.l0, if_neg (by omega), refleastL A (by omega), Option.bind_some]
    simp
  | d + 1, k + 1, i, A, hi, hk, hA => by
    have hi24 : i < 24 := by omega
    have e2 : wrap64 ((i : Int) + 1) = ((i + 1 : Nat) : Int) := by
      unfold wrap64
      omega
    have e3 : LC A ++ [(⟨0, un (H.one i)⟩ : S25)] = LC (A ++ [(0, H.one i)]) := by rw [LC_append]; rfl
    have e4 : ∀ B, LC B ++ [(⟨un (H.one i), 0⟩ : S25)] = LC (B ++ [(H.one i, 0)]) := fun B => by rw [LC_append]; rfl
    have hr : List.range' i (d + 1) = i :: List.range' (i + 1) d := List.range'_succ
    rw [hypercuberef03_turned.l0, if_pos (by omega), setOne i k hi24 (by omega), Option.bind_some, hasU _ i k hi24 (by omega), Option.bind_some, hasU _ i k hi24 (by omega), hr, List.flatMap_cons]
    cases h1 : tb c.1 i
    · rw [if_neg (by simp), Option.bind_some]
      cases h2 : tb c.2 i
      · rw [if_neg (by simp), e2, turn_l0 c d k (i + 1) A (by omega) (by omega) (by omega)]
        simp [turnD, h1, h2]
      · rw [if_pos rfl, if_pos (by rw [LC_len]; omega), e2, e4, turn_l0 c d k (i + 1) _ (by omega) (by omega) (by rw [List.length_append, List.length_singleton]; omega)]
        simp [turnD, h1, h2]
    · rw [if_pos rfl, if_pos (by rw [LC_len]; omega), Option.bind_some, e3, Option.bind_some]
      cases h2 : tb c.2 i
      · rw [if_neg (by simp), e2, turn_l0 c d k (i + 1) _ (by omega) (by omega) (by rw [List.length_append, List.length_singleton]; omega)]
        simp [turnD, h1, h2]
      · rw [if_pos rfl, if_pos (by rw [LC_len, List.length_append, List.length_singleton]; omega), e2, e4, turn_l0 c d k (i + 1) _ (by omega) (by omega) (by rw [List.length_append, List.length_append, List.length_singleton, List.length_singleton]; omega)]
        simp [turnD, h1, h2]
theorem turnedL (c : C) (k : Nat) (hk : 110 ≤ k) : hypercuberef03_turned.f k (un c.1) (un c.2) = some (LC (least (opps c)).1) := by
  have h := turn_l0 c 24 k 0 [] rfl (by omega) (by simp)
  unfold hypercuberef03_turned.f
  rw [← turn_least]
  unfold turnL
  rw [List.range_eq_range']
  rw [List.nil_append] at h
  exact h
/-! ### Meeting -/
theorem meet3_l1 (f g : List C) (hf : f.all ok = true) (hg : g.all ok = true) (i : Nat) (hi : i < f.length) (k : Nat) (hk : 300 ≤ k) (hl : f.length ≤ 1000000) (hlg : g.length ≤ 1000000) : ∀ (d j : Nat) (A : List C), j + d = g.length → A.length + d ≤ 1000000 →
    hypercuberef03_Meet.l1 (k + d + 1) (LC f) (LC g) (LC A) (i : Int) (j : Int) = hypercuberef03_Meet.l0 k (LC f) (LC g) (LC (A ++ (g.drop j).map (H.meet f[i]))) ((i + 1 : Nat) : Int)
  | 0, j, A, hj, _ => by
    have e2 : wrap64 ((i : Int) + 1) = ((i + 1 : Nat) : Int) := by
      unfold wrap64
      omega
    rw [hypercuberef03_Meet.l1, if_neg (by rw [LC_len]; omega), e2, List.drop_eq_nil_of_le (by omega), List.map_nil, List.append_nil]
  | d + 1, j, A, hj, hA => by
    have hjl : j < g.length := by omega
    have e2 : wrap64 ((j : Int) + 1) = ((j + 1 : Nat) : Int) := by
      unfold wrap64
      omega
    have hm : hypercuberef02_Meet.f (k + (d + 1)) (ofC24 f[i]).f0 (ofC24 f[i]).f1 (ofC24 g[j]).f0 (ofC24 g[j]).f1 = some (un (H.meet f[i] g[j]).1, un (H.meet f[i] g[j]).2) := refmeet f[i] g[j] _ (List.all_eq_true.1 hf _ (List.getElem_mem _)) (List.all_eq_true.1 hg _ (List.getElem_mem _)) (by omega)
    have e3 : LC A ++ [(⟨un (H.meet f[i] g[j]).1, un (H.meet f[i] g[j]).2⟩ : S25)] = LC (A ++ [H.meet f[i] g[j]]) := by rw [LC_append]; rfl
    rw [hypercuberef03_Meet.l1, if_pos (by rw [LC_len]; omega), if_pos (by omega), if_pos (by rw [LC_len]; omega), if_pos (by omega), rdC f i hi, rdC g j hjl, hm, Option.bind_some, if_pos (by rw [LC_len]; omega), e2, e3,
      show k + (d + 1) = k + d + 1 by omega, meet3_l1 f g hf hg i hi k hk hl hlg d (j + 1) _ (by omega) (by rw [List.length_append, List.length_singleton]; omega), List.drop_eq_getElem_cons hjl, List.map_cons, List.append_assoc]
    rfl
theorem meet3_l0 (f g : List C) (hf : f.all ok = true) (hg : g.all ok = true) (hl : f.length ≤ 1000000) (hlg : g.length ≤ 1000000) : ∀ (d k i : Nat) (A : List C), i + d = f.length → d * (g.length + 2) + 301 ≤ k → A.length + d * g.length ≤ 1000000 →
    hypercuberef03_Meet.l0 k (LC f) (LC g) (LC A) (i : Int) = some (LC (least (A ++ meets (f.drop i) g)).1, (least (A ++ meets (f.drop i) g)).2)
  | d, 0, _, _, _, hk, _ => absurd hk (by omega)
  | 0, k + 1, i, A, hi, _, hA => by
    rw [hypercuberef03_Meet.l0, if_neg (by rw [LC_len]; omega), refleastL A (by omega), Option.bind_some, List.drop_eq_nil_of_le (by omega)]
    simp [meets]
  | d + 1, k + 1, i, A, hi, hk, hA => by
    have hil : i < f.length := by omega
    rw [Nat.add_mul, Nat.one_mul] at hk hA
    obtain ⟨k', rfl⟩ : ∃ k', k = k' + g.length + 1 := ⟨k - g.length - 1, by omega⟩
    have h1 : hypercuberef03_Meet.l1 (k' + g.length + 1) (LC f) (LC g) (LC A) (i : Int) 0 = _ := meet3_l1 f g hf hg i hil k' (by omega) hl hlg g.length 0 A (by omega) (by omega)
    rw [hypercuberef03_Meet.l0, if_pos (by rw [LC_len]; omega), h1, List.drop_zero,
      meet3_l0 f g hf hg hl hlg d k' (i + 1) _ (by omega) (by omega) (by rw [List.length_append, List.length_map]; omega), List.drop_eq_getElem_cons hil, List.append_assoc]
    rfl
theorem ref3meet (f g : List C) (k : Nat) (hl : f.length ≤ 100) (hlg : g.length ≤ 100) (hk : 12000 ≤ k) : hypercuberef03_Meet.f k (LC f) (LC g) = some (LC (fMeet f g).1, (fMeet f g).2) := by
  obtain ⟨k, rfl⟩ : ∃ m, k = m + 1 := ⟨k - 1, by omega⟩
  have hb : f.length * g.length ≤ 100 * 100 := Nat.mul_le_mul hl hlg
  have hb2 : f.length * (g.length + 2) ≤ 100 * 102 := Nat.mul_le_mul hl (by omega)
  unfold hypercuberef03_Meet.f fMeet
  rw [ref3right f _ (by omega) (by omega), Option.bind_some]
  cases h1 : H.right f
  · rw [if_neg (by simp), hypercuberef03_Meet.j0, if_pos rfl, if_neg (by simp)]
    rfl
  · rw [if_pos rfl, ref3right g _ (by omega) (by omega), Option.bind_some]
    cases h2 : H.right g
    · rw [hypercuberef03_Meet.j0, if_pos (by rfl), if_neg (by simp)]
      rfl
    · have h := meet3_l0 f g (ok_of_right h1) (ok_of_right h2) (by omega) (by omega) f.length k 0 [] (by omega) (by omega) (by simp; omega)
      rw [hypercuberef03_Meet.j0, if_neg (by simp), if_pos ⟨rfl, rfl⟩]
      exact h
/-! ### The opposite -/
theorem not3_l0 (f : List C) (hl : f.length ≤ 100) : ∀ (d k i : Nat) (b : List C), i + d = f.length → 2 * d + 13000 ≤ k → H.right b = true → hypercuberef03_Not.l0 k (LC f) (LC b) 0 (i : Int) = some (LC (foldE [] notStep (f.drop i) b).1, (foldE [] notStep (f.drop i) b).2)
  | d, 0, _, _, _, hk, _ => absurd hk (by omega)
  | 0, k + 1, i, b, hi, hk, _ => by
    obtain ⟨k, rfl⟩ : ∃ m, k = m + 1 := ⟨k - 1, by omega⟩
    rw [hypercuberef03_Not.l0, if_neg (by rw [LC_len]; omega), hypercuberef03_Not.j1, if_neg (by simp), List.drop_eq_nil_of_le (by omega)]
    rfl
  | d + 1, k + 1, i, b, hi, hk, hb => by
    have hil : i < f.length := by omega
    obtain ⟨k, rfl⟩ : ∃ m, k = m + 1 := ⟨k - 1, by omega⟩
    have e2 : wrap64 ((i : Int) + 1) = ((i + 1 : Nat) : Int) := by
      unfold wrap64
      omega
    have ht : hypercuberef03_turned.f k (ofC24 f[i]).f0 (ofC24 f[i]).f1 = some (LC (least (opps f[i])).1) := turnedL f[i] k (by omega)
    have hrk := right_least (opps_told f[i])
    have hm : fMeet b (least (opps f[i])).1 = notStep b f[i] := by
      unfold fMeet
      rw [if_pos ⟨hb, hrk⟩, notStep_eq]
    have hbl := len_of_right hb
    have hkl := least_len (opps f[i])
    rw [hypercuberef03_Not.l0, if_pos (by rw [LC_len]; omega), hypercuberef03_Not.j1, if_pos (by rfl), if_pos (by omega), if_pos (by rw [LC_len]; omega), rdC f i hil, ht, Option.bind_some, ref3meet b _ k (by omega) (by omega) (by omega), hm, Option.bind_some, e2, List.drop_eq_getElem_cons hil, foldE]
    by_cases h0 : (notStep b f[i]).2 = 0
    · rw [if_pos h0, h0]
      have hr : H.right (notStep b f[i]).1 = true := by
        rw [notStep_eq] at h0 ⊢
        exact right_least h0
      exact not3_l0 f hl d k (i + 1) _ (by omega) (by omega) hr
    · have hn : (notStep b f[i]).1 = [] := by
        rw [notStep_eq] at h0 ⊢
        exact least_none h0
      obtain ⟨k, rfl⟩ : ∃ m, k = m + 2 := ⟨k - 2, by omega⟩
      rw [if_neg h0, hn, hypercuberef03_Not.l0]
      have hj : hypercuberef03_Not.j1 (k + 1) (LC f) (LC []) (notStep b f[i]).2 ((i + 1 : Nat) : Int) false = some (LC [], (notStep b f[i]).2) := by
        rw [hypercuberef03_Not.j1, if_neg (by simp)]
      by_cases hlt : ((i + 1 : Nat) : Int) < ((LC f).length : Int)
      · rw [if_pos hlt, show ((notStep b f[i]).2 == 0) = false by simpa using h0]
        exact hj
      · rw [if_neg hlt]
        exact hj
theorem refnot (f : List C) (k : Nat) (hl : f.length ≤ 100) (hk : 14000 ≤ k) : hypercuberef03_Not.f k (LC f) = some (LC (fNot f).1, (fNot f).2) := by
  unfold hypercuberef03_Not.f fNot
  rw [ref3right f _ (by omega) (by omega), Option.bind_some]
  cases h1 : H.right f
  · rw [if_neg (by simp), if_neg (by simp)]
    rfl
  · rw [if_pos rfl, if_pos rfl]
    have h := not3_l0 f hl f.length k 0 [top] (by omega) (by omega) right_top
    rw [List.drop_zero] at h
    exact h
theorem ref5right_l0 (l : List C) (hok : l.all ok = true) (hl : l.length ≤ 1000000) : ∀ (d k i : Nat), i + d = l.length → d + 110 < k → (∀ x ∈ l.take i, H.clash x = false) → hypercuberef05_Right.l0 k (LC l) (i : Int) = some (!l.any H.clash)
  | d, 0, _, _, hk, _ => absurd hk (by omega)
  | 0, k + 1, i, hi, _, ht => by
    rw [hypercuberef05_Right.l0, if_neg (by rw [LC_len]; omega), List.any_eq_false.2]
    · rfl
    · intro x hx
      rw [ht x (by rw [List.take_of_length_le (by omega)]; exact hx)]
      exact Bool.false_ne_true
  | d + 1, k + 1, i, hi, hk, ht => by
    have hil : i < l.length := by omega
    have e2 : wrap64 ((i : Int) + 1) = ((i + 1 : Nat) : Int) := by
      unfold wrap64
      omega
    have hc : hypercuberef02_Clash.f k (ofC24 l[i]).f0 (ofC24 l[i]).f1 = some (H.clash l[i]) := refclash l[i] k (List.all_eq_true.1 hok _ (List.getElem_mem _)) (by omega)
    rw [hypercuberef05_Right.l0, if_pos (by rw [LC_len]; omega), if_pos (by omega), rdC l i hil, hc, Option.bind_some, e2]
    cases h1 : H.clash l[i]
    · rw [if_neg (by simp)]
      refine ref5right_l0 l hok hl d k (i + 1) (by omega) (by omega) fun x hx => ?_
      rw [List.take_succ_eq_append_getElem hil] at hx
      rcases List.mem_append.1 hx with h | h
      · exact ht x h
      · rw [List.mem_singleton.1 h]
        exact h1
    · rw [if_pos rfl, List.any_eq_true.2 ⟨l[i], List.getElem_mem _, h1⟩]
      rfl
theorem ref5right (l : List C) (k : Nat) (h : l.length ≤ 1000000) (hk : l.length + 200 < k) : hypercuberef05_Right.f k (LC l) = some (faceR l) := by
  unfold hypercuberef05_Right.f faceR
  rw [ref3right l k h (by omega), Option.bind_some]
  cases hr : H.right l
  · rfl
  · rw [if_pos rfl, Bool.true_and]
    exact ref5right_l0 l (right_all hr) h l.length k 0 (by omega) (by omega) (by simp)
theorem refright (c : C) (k : Nat) (hk : 30 ≤ k) : hypercuberef02_Right.f k (un c.1) (un c.2) = some (H.ok c) :=
  at_rounds (g := fun k => hypercuberef02_Right.f k (un c.1) (un c.2)) (fun k => hypercuberef02_Right.mono _ _ k) hk (refright24 c)
theorem single (c : C) (k : Nat) (hk : 110 ≤ k) : hypercuberef05_Single.f k (un c.1) (un c.2) = some (H.ok c && !H.clash c) := by
  unfold hypercuberef05_Single.f
  rw [refright c k (by omega), Option.bind_some]
  cases h : H.ok c
  · rfl
  · rw [if_pos rfl, refclash c k h (by omega), Option.bind_some]
    rfl
theorem calm_cons (a : C) (l : List C) : keepC calmP (a :: l) = (if H.clash a = true then [] else [a]) ++ keepC calmP l := by
  unfold keepC
  cases h : H.clash a <;> simp [calmP, h]
theorem calm5_l0 (l : List C) (hok : l.all ok = true) (hl : l.length ≤ 100000) : ∀ (d k i : Nat) (A : List C), i + d = l.length → d + 110 < k → A.length + d ≤ 100000 →
    hypercuberef05_calm.l0 k (LC l) (LC A) (i : Int) = some (LC (least (A ++ keepC calmP (l.drop i))).1, (least (A ++ keepC calmP (l.drop i))).2)
  | d, 0, _, _, _, hk, _ => absurd hk (by omega)
  | 0, k + 1, i, A, hi, _, hA => by
    rw [hypercuberef05_calm.l0, if_neg (by rw [LC_len]; omega), refleastL A (by omega), Option.bind_some, List.drop_eq_nil_of_le (by omega), show keepC calmP [] = [] from rfl, List.append_nil]
  | d + 1, k + 1, i, A, hi, hk, hA => by
    have hil : i < l.length := by omega
    have e2 : wrap64 ((i : Int) + 1) = ((i + 1 : Nat) : Int) := by
      unfold wrap64
      omega
    have hc : hypercuberef02_Clash.f k (ofC24 l[i]).f0 (ofC24 l[i]).f1 = some (H.clash l[i]) := refclash l[i] k (List.all_eq_true.1 hok _ (List.getElem_mem _)) (by omega)
    have e3 : LC A ++ [(⟨(ofC24 l[i]).f0, (ofC24 l[i]).f1⟩ : S25)] = LC (A ++ [l[i]]) := by rw [LC_append]; rfl
    rw [hypercuberef05_calm.l0, if_pos (by rw [LC_len]; omega), if_pos (by omega), rdC l i hil, hc, Option.bind_some, e2, List.drop_eq_getElem_cons hil, calm_cons]
    cases h1 : H.clash l[i]
    · rw [if_neg (by simp), if_pos (by rw [LC_len]; omega), e3, calm5_l0 l hok hl d k (i + 1) _ (by omega) (by omega) (by rw [List.length_append, List.length_singleton]; omega), if_neg (by simp), List.append_assoc]
    · rw [if_pos rfl, calm5_l0 l hok hl d k (i + 1) _ (by omega) (by omega) (by omega), if_pos rfl, List.nil_append]
theorem calm5 (l : List C) (hok : l.all ok = true) (hl : l.length ≤ 100000) (k : Nat) (hk : l.length + 110 < k) : hypercuberef05_calm.f k (LC l) = some (LC (least (keepC calmP l)).1, (least (keepC calmP l)).2) := by
  have h := calm5_l0 l hok hl l.length k 0 [] (by omega) hk (by simp; omega)
  unfold hypercuberef05_calm.f
  rw [List.drop_zero, List.nil_append] at h
  exact h
theorem refof (l : List C) (k : Nat) (h : l.length ≤ 100000) (hk : l.length + 110 < k) : hypercuberef05_Of.f k (LC l) = some (LC (ofF l).1, (ofF l).2) := by
  unfold hypercuberef05_Of.f ofF
  rw [ref3right l k (by omega) (by omega), Option.bind_some]
  cases hr : H.right l
  · rw [if_neg (by simp), if_neg (by simp)]
    rfl
  · rw [if_pos rfl, if_pos rfl, calm5 l (ok_of_right hr) h k hk, Option.bind_some]
def zeroF (f : List C) : List C × Int := if (fNot f).2 = 0 then ofF (fNot f).1 else ([], (fNot f).2)
theorem notL (f : List C) (hf : f.length ≤ 1000000) : formula_Not.f (LC f) = some (LC (fNot f).1, (fNot f).2) := by
  unfold formula_Not.f
  rw [if_pos (okLC hf), backLC]
  rfl
theorem zeroL (f : List C) (hf : f.length ≤ 1000000) : face_OfZero.f (LC f) = some (LC (zeroF f).1, (zeroF f).2) := by
  have hl := fNot_len f
  unfold face_OfZero.f zeroF
  rw [notL f hf, Option.bind_some]
  by_cases h : (fNot f).2 = 0
  · rw [if_pos h, if_pos h, ofL _ (by omega), Option.bind_some]
  · rw [if_neg h, if_neg h]
    rfl
theorem refzero (f : List C) (k : Nat) (hf : f.length ≤ 100) (hk : 14000 ≤ k) : hypercuberef05_OfZero.f k (LC f) = some (LC (zeroF f).1, (zeroF f).2) := by
  have hl := fNot_len f
  unfold hypercuberef05_OfZero.f zeroF
  rw [refnot f k hf hk, Option.bind_some]
  by_cases h : (fNot f).2 = 0
  · have hr := (fNot_told h).2.1
    rw [if_pos h, if_pos h, calm5 _ (ok_of_right hr) (by omega) k (by omega), Option.bind_some]
    unfold ofF
    rw [if_pos hr]
  · rw [if_neg h, if_neg h]
    rfl
theorem calm_id {l : List C} (h : ∀ c ∈ l, H.clash c = false) : keepC calmP l = l := by
  unfold keepC
  rw [List.filter_eq_self.2 fun c hc => by simp [calmP, h c hc]]
  simp [calmP]
theorem refjoin5 (f g : List C) (k : Nat) (hf : f.length ≤ 100) (hg : g.length ≤ 100) (hk : 400 ≤ k) : hypercuberef05_Join.f k (LC f) (LC g) = some (LC (fjoinF f g).1, (fjoinF f g).2) := by
  unfold hypercuberef05_Join.f fjoinF
  rw [ref5right f k (by omega) (by omega), Option.bind_some]
  cases h1 : faceR f
  · rw [if_neg (by simp), if_neg (by simp)]
    rfl
  rw [if_pos rfl, ref5right g k (by omega) (by omega), Option.bind_some]
  cases h2 : faceR g
  · rw [if_neg (by simp), if_neg (by simp)]
    rfl
  obtain ⟨r1, c1⟩ := faceR_iff.1 h1
  obtain ⟨r2, c2⟩ := faceR_iff.1 h2
  have hok : (f ++ g).all ok = true := by rw [List.all_append, ok_of_right r1, ok_of_right r2]; rfl
  have hid : keepC calmP (f ++ g) = f ++ g := calm_id fun c hc => by
    rcases List.mem_append.1 hc with h | h
    · exact c1 c h
    · exact c2 c h
  have h := calm5 (f ++ g) hok (by rw [List.length_append]; omega) k (by rw [List.length_append]; omega)
  rw [hid] at h
  rw [if_pos rfl, if_pos ⟨rfl, rfl⟩, Option.bind_some, if_pos (by rw [LC_len]; simp; omega), Option.bind_some, List.nil_append, if_pos (by rw [LC_len, LC_len]; omega), ← LC_append, h, Option.bind_some]
theorem calm_map (a : C) (g : List C) : keepC calmP (g.map (H.meet a)) = keepC (meetP a) g := by
  unfold keepC
  rw [List.filter_map, List.map_map]
  rfl
theorem calm_append (a b : List C) : keepC calmP (a ++ b) = keepC calmP a ++ keepC calmP b := by
  unfold keepC
  rw [List.filter_append, List.map_append]
theorem calm_meets (f g : List C) : keepC calmP (meets f g) = meetsC f g := by
  induction f with
  | nil => rfl
  | cons a f ih =>
    have e1 : meets (a :: f) g = g.map (H.meet a) ++ meets f g := rfl
    have e2 : meetsC (a :: f) g = keepC (meetP a) g ++ meetsC f g := rfl
    rw [e1, e2, calm_append, calm_map, ih]
theorem meet5_l1 (f g : List C) (hf : f.all ok = true) (hg : g.all ok = true) (i : Nat) (hi : i < f.length) (k : Nat) (hk : 300 ≤ k) (hl : f.length ≤ 1000000) (hlg : g.length ≤ 1000000) : ∀ (d j : Nat) (A : List C), j + d = g.length → A.length + d ≤ 1000000 →
    hypercuberef05_Meet.l1 (k + d + 1) (LC f) (LC g) (LC A) (i : Int) (j : Int) = hypercuberef05_Meet.l0 k (LC f) (LC g) (LC (A ++ (g.drop j).map (H.meet f[i]))) ((i + 1 : Nat) : Int)
  | 0, j, A, hj, _ => by
    have e2 : wrap64 ((i : Int) + 1) = ((i + 1 : Nat) : Int) := by
      unfold wrap64
      omega
    rw [hypercuberef05_Meet.l1, if_neg (by rw [LC_len]; omega), e2, List.drop_eq_nil_of_le (by omega), List.map_nil, List.append_nil]
  | d + 1, j, A, hj, hA => by
    have hjl : j < g.length := by omega
    have e2 : wrap64 ((j : Int) + 1) = ((j + 1 : Nat) : Int) := by
      unfold wrap64
      omega
    have hm : hypercuberef02_Meet.f (k + (d + 1)) (ofC24 f[i]).f0 (ofC24 f[i]).f1 (ofC24 g[j]).f0 (ofC24 g[j]).f1 = some (un (H.meet f[i] g[j]).1, un (H.meet f[i] g[j]).2) := refmeet f[i] g[j] _ (List.all_eq_true.1 hf _ (List.getElem_mem _)) (List.all_eq_true.1 hg _ (List.getElem_mem _)) (by omega)
    have e3 : LC A ++ [(⟨un (H.meet f[i] g[j]).1, un (H.meet f[i] g[j]).2⟩ : S25)] = LC (A ++ [H.meet f[i] g[j]]) := by rw [LC_append]; rfl
    rw [hypercuberef05_Meet.l1, if_pos (by rw [LC_len]; omega), if_pos (by omega), if_pos (by rw [LC_len]; omega), if_pos (by omega), rdC f i hi, rdC g j hjl, hm, Option.bind_some, if_pos (by rw [LC_len]; omega), e2, e3,
      show k + (d + 1) = k + d + 1 by omega, meet5_l1 f g hf hg i hi k hk hl hlg d (j + 1) _ (by omega) (by rw [List.length_append, List.length_singleton]; omega), List.drop_eq_getElem_cons hjl, List.map_cons, List.append_assoc]
    rfl
theorem meet5_l0 (f g : List C) (hf : f.all ok = true) (hg : g.all ok = true) (hl : f.length ≤ 100) (hlg : g.length ≤ 100) : ∀ (d k i : Nat) (A : List C), i + d = f.length → d * (g.length + 2) + 11000 ≤ k → A.length + d * g.length ≤ 10000 → A.all ok = true →
    hypercuberef05_Meet.l0 k (LC f) (LC g) (LC A) (i : Int) = some (LC (least (keepC calmP (A ++ meets (f.drop i) g))).1, (least (keepC calmP (A ++ meets (f.drop i) g))).2)
  | d, 0, _, _, _, hk, _, _ => absurd hk (by omega)
  | 0, k + 1, i, A, hi, _, hA, ho => by
    rw [hypercuberef05_Meet.l0, if_neg (by rw [LC_len]; omega), calm5 A ho (by omega) k (by omega), Option.bind_some, List.drop_eq_nil_of_le (by omega)]
    simp [meets]
  | d + 1, k + 1, i, A, hi, hk, hA, ho => by
    have hil : i < f.length := by omega
    rw [Nat.add_mul, Nat.one_mul] at hk hA
    obtain ⟨k', rfl⟩ : ∃ k', k = k' + g.length + 1 := ⟨k - g.length - 1, by omega⟩
    have ho2 : (A ++ g.map (H.meet f[i])).all ok = true := by
      rw [List.all_append, ho, Bool.true_and, List.all_eq_true]
      intro c hc
      obtain ⟨b, hb, rfl⟩ := List.mem_map.1 hc
      rw [ok_meet, List.all_eq_true.1 hf _ (List.getElem_mem _), List.all_eq_true.1 hg _ hb]; rfl
    have h1 : hypercuberef05_Meet.l1 (k' + g.length + 1) (LC f) (LC g) (LC A) (i : Int) 0 = _ := meet5_l1 f g hf hg i hil k' (by omega) (by omega) (by omega) g.length 0 A (by omega) (by omega)
    rw [hypercuberef05_Meet.l0, if_pos (by rw [LC_len]; omega), h1, List.drop_zero,
      meet5_l0 f g hf hg hl hlg d k' (i + 1) _ (by omega) (by omega) (by rw [List.length_append, List.length_map]; omega) ho2, List.drop_eq_getElem_cons hil, List.append_assoc]
    rfl
theorem refmeet5 (f g : List C) (k : Nat) (hl : f.length ≤ 100) (hlg : g.length ≤ 100) (hk : 30000 ≤ k) : hypercuberef05_Meet.f k (LC f) (LC g) = some (LC (fmeetF f g).1, (fmeetF f g).2) := by
  obtain ⟨k, rfl⟩ : ∃ m, k = m + 1 := ⟨k - 1, by omega⟩
  have hb : f.length * g.length ≤ 100 * 100 := Nat.mul_le_mul hl hlg
  have hb2 : f.length * (g.length + 2) ≤ 100 * 102 := Nat.mul_le_mul hl (by omega)
  unfold hypercuberef05_Meet.f fmeetF
  rw [ref5right f _ (by omega) (by omega), Option.bind_some]
  cases h1 : faceR f
  · rw [if_neg (by simp), hypercuberef05_Meet.j0, if_pos rfl, if_neg (by simp)]
    rfl
  · rw [if_pos rfl, ref5right g _ (by omega) (by omega), Option.bind_some]
    cases h2 : faceR g
    · rw [hypercuberef05_Meet.j0, if_pos (by rfl), if_neg (by simp)]
      rfl
    · have h := meet5_l0 f g (ok_of_right (faceR_iff.1 h1).1) (ok_of_right (faceR_iff.1 h2).1) hl hlg f.length k 0 [] (by omega) (by omega) (by simp; omega) rfl
      rw [List.drop_zero, List.nil_append, calm_meets] at h
      rw [hypercuberef05_Meet.j0, if_neg (by simp), if_pos ⟨rfl, rfl⟩]
      exact h
theorem same5_l0 (b : Bool) (n : Nat) (hn : n ≤ 1000000) : ∀ (d k i : Nat) (x : List S25), x.length = n → i + d = n → d < k → ∃ y, hypercubelaw05_same.l0 k x b (n : Int) (i : Int) = some (b, y)
  | d, 0, _, _, _, _, hk => absurd hk (by omega)
  | 0, k + 1, i, x, hx, hi, _ => ⟨x, by rw [hypercubelaw05_same.l0, if_neg (by omega)]⟩
  | d + 1, k + 1, i, x, hx, hi, hk => by
    have e2 : wrap64 ((i : Int) + 1) = ((i + 1 : Nat) : Int) := by
      unfold wrap64
      omega
    rw [hypercubelaw05_same.l0, if_pos (by omega), if_pos (by omega), if_pos (by omega), e2]
    exact same5_l0 b n hn d k (i + 1) _ (by rw [List.length_set]; exact hx) (by omega) (by omega)
theorem same5 (a : List C) (e : Int) (k : Nat) (hl : a.length ≤ 1000) (hk : 2000 ≤ k) : ∃ y, hypercubelaw05_same.f k (LC a) e (LC a) e = some (true, y) := by
  obtain ⟨k, rfl⟩ : ∃ m, k = m + 1 := ⟨k - 1, by omega⟩
  obtain ⟨y, hy⟩ := same5_l0 true a.length (by omega) a.length k 0 (LC a) (LC_len a) (by omega) (by omega)
  refine ⟨y, ?_⟩
  unfold hypercubelaw05_same.f
  rw [same a _ (by omega) (by omega), Option.bind_some, if_pos rfl, beq_self_eq_true, hypercubelaw05_same.j0, LC_len]
  exact hy
theorem shl_fin24 : ∀ n : Fin 24, shl .u32 1 ((n.val : Nat) : Int) = ((2 ^ n.val : Nat) : Int) := by decide +kernel
theorem u64_dim24 {i : Int} (h : dimI i = true) : IntKind.u64.wrap i = i := by
  have := of_decide_eq_true h
  rw [IntKind.wrap_u64]
  omega
theorem shl24 {i : Int} (h : dimI i = true) : shl .u32 1 i = un (H.one i.toNat) := by
  have h24 := of_decide_eq_true h
  have h1 := shl_fin24 ⟨i.toNat, by omega⟩
  rw [show ((i.toNat : Nat) : Int) = i by omega] at h1
  rw [h1]
  unfold un
  rw [H.toNat_one (by omega)]
theorem without24 (x : UInt32) (i : Int) : mask_Without.f (un x) i = some (un (wo x i)) := by
  unfold mask_Without.f wo
  rw [mdim24, Option.bind_some]
  cases h : dimI i
  · rw [if_neg Bool.false_ne_true, if_neg Bool.false_ne_true, un_all, un_and]
    rfl
  · have h24 := of_decide_eq_true h
    rw [if_pos rfl, if_pos rfl, u64_dim24 h, if_pos h24.1, shl24 h, un_all, un_and, un_andNot]
    rfl
theorem has24 (x : UInt32) (i : Int) : mask_Has.f (un x) i = some (hasI x i) := by
  unfold mask_Has.f hasI
  rw [mdim24, Option.bind_some]
  cases h : dimI i
  · rfl
  · have h24 := of_decide_eq_true h
    have hlt : x.toNat / 2 ^ i.toNat < 4294967296 := Nat.lt_of_le_of_lt (Nat.div_le_self _ _) x.toNat_lt
    have hx : shr .u32 (un x) i = un (UInt32.ofNat (x.toNat / 2 ^ i.toNat)) := by
      unfold shr un
      rw [UInt32.toNat_ofNat', Nat.mod_eq_of_lt hlt, show min i.toNat (IntKind.bits .u32) = i.toNat from Nat.min_eq_left (by show i.toNat ≤ 32; omega)]
      simp
    have hb : (Go.bits .and .u32 (shr .u32 (un x) i) 1 == 1) = x.toNat.testBit i.toNat := by
      have e1 : (1 : Int) = un 1 := rfl
      rw [hx, e1, un_and, un_beq, Nat.testBit_eq_decide_div_mod_eq, Bool.eq_iff_iff]
      simp only [decide_eq_true_eq]
      rw [← UInt32.toNat_inj, UInt32.toNat_and, UInt32.toNat_ofNat', Nat.mod_eq_of_lt hlt]
      show _ &&& 1 = 1 ↔ _
      rw [Nat.and_one_is_mod]
    rw [if_pos rfl, u64_dim24 h, if_pos h24.1, hb, Bool.true_and]
theorem refwo (x : UInt32) {i : Int} (hd : dimI i = true) (k : Nat) (hk : 95 ≤ k) : hypercuberef01_Without.f k (un x) i = some (un (wo x i)) := by
  have h24 := of_decide_eq_true hd
  have h := without x.toNat k i x.toNat_lt hk
  have e : sumPow ((dimsN x.toNat).filter fun y : Nat => decide ((y : Int) ≠ i)) = (wo x i).toNat := by
    apply Nat.eq_of_testBit_eq
    intro j
    have hw := tb_wo hd x j
    unfold tb at hw
    rw [hw, sumPow_testBit (nodup_of_asc ((dimsN_asc _).filter _)), Bool.eq_iff_iff]
    simp only [decide_eq_true_eq, Bool.and_eq_true, List.mem_filter, mem_dimsN, Bool.not_eq_true', decide_eq_false_iff_not]
    constructor
    · rintro ⟨⟨h1, h2⟩, h3⟩
      exact ⟨⟨h2, h1⟩, by omega⟩
    · rintro ⟨⟨h2, h1⟩, h3⟩
      exact ⟨⟨h1, h2⟩, by omega⟩
  rw [e] at h
  exact h
theorem refhasI (x : UInt32) {i : Int} (hd : dimI i = true) (k : Nat) (hk : 41 ≤ k) : hypercuberef01_Has.f k (un x) i = some (hasI x i) := by
  have h := has x.toNat k i x.toNat_lt hk
  rw [decide_eq_true (of_decide_eq_true hd), Bool.true_and] at h
  rw [hasI_eq hd]
  exact h
theorem foldE_err_nil {f : List C → C → List C × Int} {c : C} {l b : List C} (h : (f b c).2 ≠ 0) : foldE [] f (c :: l) b = ([], (f b c).2) := by
  rw [foldE, if_neg h]
theorem foldE_ok {f : List C → C → List C × Int} {c : C} {l b : List C} (h : (f b c).2 = 0) : foldE [] f (c :: l) b = foldE [] f l (f b c).1 := by
  rw [foldE, if_pos h]
/-! ### All -/
theorem hasI_or' (x y : UInt32) (i : Int) : hasI (x ||| y) i = (hasI x i || hasI y i) := hasI_or x y i
theorem keepC_snoc (p : C → C × Bool) (l : List C) (c : C) : keepC p (l ++ [c]) = keepC p l ++ (if (p c).2 = true then [(p c).1] else []) := by
  unfold keepC
  rw [List.filter_append, List.map_append]
  congr 1
  by_cases h : (p c).2 = true
  · rw [if_pos h, List.filter_cons, if_pos h]
    rfl
  · rw [if_neg h, List.filter_cons, if_neg h]
    rfl
theorem keepC_len (p : C → C × Bool) (l : List C) : (keepC p l).length ≤ l.length := by
  unfold keepC
  rw [List.length_map]
  exact List.length_filter_le ..
theorem rall_l0 (f : List C) (i : Int) (hd : dimI i = true) (hl : f.length ≤ 1000) : ∀ (d k j : Nat), j + d = f.length → d + 110 < k →
    hypercuberef05_All.l0 k (LC f) i (LC (keepC (allP i) (f.take j))) (j : Int) = some (LC (least (keepC (allP i) f)).1, (least (keepC (allP i) f)).2)
  | d, 0, _, _, hk => absurd hk (by omega)
  | 0, k + 1, j, hj, _ => by
    have hkl := keepC_len (allP i) f
    rw [hypercuberef05_All.l0, if_neg (by rw [LC_len]; omega), List.take_of_length_le (by omega), refleastL _ (by omega), Option.bind_some]
  | d + 1, k + 1, j, hj, hk => by
    have hjl : j < f.length := by omega
    have e2 : wrap64 ((j : Int) + 1) = ((j + 1 : Nat) : Int) := by
      unfold wrap64
      omega
    have ih := rall_l0 f i hd hl d k (j + 1) (by omega) (by omega)
    rw [List.take_succ_eq_append_getElem hjl, keepC_snoc] at ih
    have hkl := keepC_len (allP i) (f.take j)
    rw [List.length_take] at hkl
    have hp : (allP i f[j]).2 = !(hasI f[j].1 i || hasI f[j].2 i) := by
      unfold allP
      rw [hasI_or']
    rw [hypercuberef05_All.l0, if_pos (by rw [LC_len]; omega), if_pos (by omega), rdC f j hjl]
    show (hypercuberef01_Has.f k (un f[j].1) i).bind _ = _
    rw [refhasI _ hd _ (by omega), Option.bind_some, e2]
    by_cases h1 : hasI f[j].1 i = true
    · rw [if_pos h1]
      rw [if_neg (by rw [hp, h1]; simp), List.append_nil] at ih
      exact ih
    · rw [if_neg h1]
      show (hypercuberef01_Has.f k (un f[j].2) i).bind _ = _
      rw [refhasI _ hd _ (by omega), Option.bind_some]
      by_cases h2 : hasI f[j].2 i = true
      · rw [if_pos h2]
        rw [if_neg (by rw [hp, h2]; simp), List.append_nil] at ih
        exact ih
      · rw [if_neg h2, if_pos (by rw [LC_len]; omega)]
        rw [if_pos (by rw [hp, show hasI f[j].1 i = false by simpa using h1, show hasI f[j].2 i = false by simpa using h2]; rfl), LC_append] at ih
        exact ih
theorem refall (f : List C) (i : Int) (k : Nat) (hl : f.length ≤ 1000) (hk : 2000 < k) : hypercuberef05_All.f k (LC f) i = some (LC (allF f i).1, (allF f i).2) := by
  obtain ⟨k, rfl⟩ : ∃ m, k = m + 1 := ⟨k - 1, by omega⟩
  have hno : hypercuberef05_All.j0 (k + 1) (LC f) i true = some ([], 2) := by rw [hypercuberef05_All.j0, if_pos rfl]
  unfold hypercuberef05_All.f allF
  rw [ref5right f _ (by omega) (by omega), Option.bind_some]
  by_cases hf : faceR f = true
  · rw [if_pos hf]
    by_cases hd : dimI i = true
    · have h24 := of_decide_eq_true hd
      have h := rall_l0 f i hd hl f.length k 0 (by omega) (by omega)
      rw [if_neg (by omega), decide_eq_false (by omega), hypercuberef05_All.j0, if_neg Bool.false_ne_true, if_pos ⟨hf, hd⟩]
      exact h
    · have hn : ¬ (0 ≤ i ∧ i < 24) := fun h => hd (decide_eq_true h)
      rw [if_neg (show ¬ (faceR f = true ∧ dimI i = true) from fun h => hd h.2)]
      by_cases h1 : i < 0
      · rw [if_pos h1, hno]
        rfl
      · rw [if_neg h1, decide_eq_true (by omega), hno]
        rfl
  · rw [if_neg hf, hno, if_neg (fun h => hf h.1)]
    rfl
/-! ### Restrict -/
theorem rminus_l0 (D : List Nat) (hD : ∀ x ∈ D, x < 24) (hl : D.length ≤ 24) : ∀ (post pre : List Nat) (k : Nat) (a : UInt32), pre ++ post = D → post.length + 100 < k → r1 a = true →
    ∃ b, hypercuberef05_minus.l0 k (un a) (L D) (pre.length : Int) = some (un b) ∧ ∀ j, tb b j = (tb a j && !decide (j ∈ post))
  | [], pre, k, a, he, hk, ha => by
    obtain ⟨k, rfl⟩ : ∃ m, k = m + 1 := ⟨k - 1, by omega⟩
    rw [List.append_nil] at he
    refine ⟨a, ?_, fun j => by simp⟩
    rw [hypercuberef05_minus.l0, if_neg (by rw [L_len, he]; omega)]
  | x :: post, pre, k, a, he, hk, ha => by
    obtain ⟨k, rfl⟩ : ∃ m, k = m + 1 := ⟨k - 1, by omega⟩
    rw [List.length_cons] at hk
    have hx : x < 24 := hD x (by rw [← he]; simp)
    have hd : dimI (x : Int) = true := decide_eq_true (by omega)
    have e3 : pre ++ x :: post = (pre ++ [x]) ++ post := by simp
    have hlen : D.length = pre.length + (post.length + 1) := by rw [← he, List.length_append, List.length_cons]
    have e2 : wrap64 ((pre.length : Int) + 1) = (((pre ++ [x]).length : Nat) : Int) := by
      rw [wrap64_small (by omega) (by omega), List.length_append, List.length_singleton]
      omega
    have hw : r1 (wo a (x : Int)) = true := r1_iff.2 fun j hj => by
      rw [tb_wo hd] at hj
      simp at hj
      exact hj.1.2
    obtain ⟨b, h1, h2⟩ := rminus_l0 D hD hl post (pre ++ [x]) k (wo a (x : Int)) (by rw [← e3]; exact he) (by omega) hw
    refine ⟨b, ?_, fun j => ?_⟩
    · rw [hypercuberef05_minus.l0, if_pos (by rw [L_len]; omega), if_pos (by omega), show rd (L D) (pre.length : Int) = (x : Int) by rw [← he]; exact rd_mid pre post x, refwo a hd k (by omega), Option.bind_some, e2]
      exact h1
    · rw [h2, tb_wo hd, Int.toNat_natCast]
      by_cases hj : j < 24
      · rw [decide_eq_true hj, Bool.and_true, Bool.and_assoc]
        congr 1
        by_cases hjx : x = j
        · subst hjx
          simp
        · have : ¬ j = x := fun e => hjx e.symm
          simp [hjx, this]
      · have : tb a j = false := by
          cases h : tb a j
          · rfl
          · exact absurd (r1_iff.1 ha j h) hj
        rw [this]
        simp
theorem refminus (a b : UInt32) (k : Nat) (ha : r1 a = true) (hb : r1 b = true) (hk : 300 < k) : hypercuberef05_minus.f k (un a) (un b) = some (un (a &&& ~~~b)) := by
  have hlst := list b.toNat k b.toNat_lt (by omega)
  have hlen := dimsN_len b.toNat
  obtain ⟨c, h1, h2⟩ := rminus_l0 (dimsN b.toNat) (fun x hx => (mem_dimsN.1 hx).1) hlen (dimsN b.toNat) [] k a rfl (by omega) ha
  have e : c = a &&& ~~~b := tb_ext fun j => by
    rw [h2, tb_off]
    cases h : tb a j
    · rfl
    · rw [Bool.true_and, Bool.true_and]
      congr 1
      rw [Bool.eq_iff_iff, decide_eq_true_iff, mem_dimsN]
      constructor
      · exact fun z => z.2
      · exact fun z => ⟨r1_iff.1 hb j z, z⟩
  unfold hypercuberef05_minus.f
  rw [show hypercuberef01_List.f k (un b) = some (L (dimsN b.toNat)) from hlst, Option.bind_some, ← e]
  exact h1
theorem rrestr_l0 (f : List C) (c : C) (hok : f.all ok = true) (hc : ok c = true) (hl : f.length ≤ 1000) : ∀ (d k j : Nat), j + d = f.length → d + 310 < k →
    hypercuberef05_Restrict.l0 k (LC f) (LC (keepC (restrP c) (f.take j))) (j : Int) (un c.1) (un c.2) = some (LC (least (keepC (restrP c) f)).1, (least (keepC (restrP c) f)).2)
  | d, 0, _, _, hk => absurd hk (by omega)
  | 0, k + 1, j, hj, _ => by
    have hkl := keepC_len (restrP c) f
    rw [hypercuberef05_Restrict.l0, if_neg (by rw [LC_len]; omega), List.take_of_length_le (by omega), refleastL _ (by omega), Option.bind_some]
  | d + 1, k + 1, j, hj, hk => by
    have hjl : j < f.length := by omega
    have e2 : wrap64 ((j : Int) + 1) = ((j + 1 : Nat) : Int) := by
      unfold wrap64
      omega
    have hokj : ok f[j] = true := List.all_eq_true.1 hok _ (List.getElem_mem _)
    have ih := rrestr_l0 f c hok hc hl d k (j + 1) (by omega) (by omega)
    rw [List.take_succ_eq_append_getElem hjl, keepC_snoc] at ih
    have hkl := keepC_len (restrP c) (f.take j)
    rw [List.length_take] at hkl
    have hm : ok (meet f[j] c) = true := by rw [ok_meet, hokj, hc]; rfl
    have o1 := hokj
    have o2 := hc
    unfold ok at o1 o2
    rw [Bool.and_eq_true] at o1 o2
    rw [hypercuberef05_Restrict.l0, if_pos (by rw [LC_len]; omega), if_pos (by omega), rdC f j hjl]
    show (hypercuberef02_Meet.f k (un f[j].1) (un f[j].2) (un c.1) (un c.2)).bind _ = _
    rw [refmeet f[j] c k hokj hc (by omega), Option.bind_some]
    show (hypercuberef02_Clash.f k (un (meet f[j] c).1) (un (meet f[j] c).2)).bind _ = _
    rw [refclash _ k hm (by omega), Option.bind_some, e2]
    have hp : (restrP c f[j]).2 = !decide ((meet f[j] c).1 &&& (meet f[j] c).2 ≠ 0) := by
      unfold restrP
      rw [meet_comm c]
      rfl
    by_cases h1 : decide ((meet f[j] c).1 &&& (meet f[j] c).2 ≠ 0) = true
    · rw [if_pos h1]
      rw [if_neg (by rw [hp, h1]; simp), List.append_nil] at ih
      exact ih
    · rw [if_neg h1]
      show (hypercuberef05_minus.f k (un f[j].1) (un c.1)).bind _ = _
      rw [refminus _ _ k o1.1 o2.1 (by omega), Option.bind_some]
      show (hypercuberef05_minus.f k (un f[j].2) (un c.2)).bind _ = _
      rw [refminus _ _ k o1.2 o2.2 (by omega), Option.bind_some, if_pos (by rw [LC_len]; omega)]
      rw [if_pos (by rw [hp, show decide ((meet f[j] c).1 &&& (meet f[j] c).2 ≠ 0) = false by simpa using h1]; rfl), LC_append] at ih
      exact ih
theorem refrestr (f : List C) (c : C) (k : Nat) (hl : f.length ≤ 1000) (hk : 3000 < k) : hypercuberef05_Restrict.f k (LC f) (un c.1) (un c.2) = some (LC (restrF f c).1, (restrF f c).2) := by
  obtain ⟨k, rfl⟩ : ∃ m, k = m + 1 := ⟨k - 1, by omega⟩
  have hno : hypercuberef05_Restrict.j0 (k + 1) (LC f) true (un c.1) (un c.2) = some ([], 2) := by rw [hypercuberef05_Restrict.j0, if_pos rfl]
  unfold hypercuberef05_Restrict.f restrF
  rw [ref5right f _ (by omega) (by omega), Option.bind_some]
  by_cases hf : faceR f = true
  · rw [if_pos hf, single c _ (by omega), Option.bind_some]
    by_cases hc : (H.ok c && !H.clash c) = true
    · have h := rrestr_l0 f c (ok_of_right (faceR_iff.1 hf).1) (by rw [Bool.and_eq_true] at hc; exact hc.1) hl f.length k 0 (by omega) (by omega)
      rw [hc, if_pos ⟨hf, rfl⟩]
      show hypercuberef05_Restrict.j0 (k + 1) (LC f) false (un c.1) (un c.2) = _
      rw [hypercuberef05_Restrict.j0, if_neg Bool.false_ne_true]
      exact h
    · rw [if_neg (show ¬ (faceR f = true ∧ (H.ok c && !H.clash c) = true) from fun h => hc h.2), show (H.ok c && !H.clash c) = false by simpa using hc]
      exact hno
  · rw [if_neg hf, hno, if_neg (fun h => hf h.1)]
    rfl
/-! ### Put -/
def fpG (i : Int) (r : List C) (c : C) : List C × Int :=
  if hasI c.1 i = true then (if (ofF r).2 = 0 then least (meetsC [woC c i] (ofF r).1) else ([woC c i], (ofF r).2))
  else if hasI c.2 i = true then (if (zeroF r).2 = 0 then least (meetsC [woC c i] (zeroF r).1) else ([woC c i], (zeroF r).2)) else ([woC c i], 0)
def fpStep (i : Int) (r b : List C) (c : C) : List C × Int := if (fpG i r c).2 = 0 then least (b ++ (fpG i r c).1) else ([], (fpG i r c).2)
def facePut (f : List C) (i : Int) (r : List C) : List C × Int := if faceR f = true ∧ dimI i = true ∧ H.right r = true then foldE [] (fpStep i r) f [] else ([], 2)
theorem fpG_len (i : Int) (r : List C) (c : C) : (fpG i r c).1.length ≤ 64 := by
  unfold fpG
  split
  · split
    · exact least_le64 _
    · simp
  · split
    · split
      · exact least_le64 _
      · simp
    · simp
theorem fpStep_len (i : Int) (r b : List C) (c : C) : (fpStep i r b c).1.length ≤ 64 := by
  unfold fpStep
  split
  · exact least_le64 _
  · simp
theorem fold_len (i : Int) (r : List C) : ∀ (l b : List C), b.length ≤ 64 → (foldE [] (fpStep i r) l b).1.length ≤ 64
  | [], b, h => h
  | c :: l, b, h => by
    unfold foldE
    split
    · exact fold_len i r l _ (fpStep_len i r b c)
    · simp
theorem fmeetL (f g : List C) (hf : f.length ≤ 100) (hg : g.length ≤ 100) : face_meet.f (LC f) (LC g) = some (LC (least (meetsC f g)).1, (least (meetsC f g)).2) := by
  have h : f.length * g.length ≤ 100 * 100 := Nat.mul_le_mul hf hg
  unfold face_meet.f
  rw [if_pos ⟨okLC (by omega), okLC (by omega), by rw [LC_len, LC_len]; omega⟩, backLC, backLC]
  rfl
theorem leastL (l : List C) (h : l.length ≤ 1000000) : clause_Least.f (LC l) = some (LC (H.least l).1, (H.least l).2) := leastx24 l h
theorem fjoinL (f g : List C) (hf : f.length ≤ 100) (hg : g.length ≤ 100) : face_join.f (LC f) (LC g) = some (LC (least (f ++ g)).1, (least (f ++ g)).2) := by
  unfold face_join.f
  rw [Option.bind_some, if_pos (by rw [LC_len]; simp; omega), List.nil_append, Option.bind_some, if_pos (by rw [LC_len, LC_len]; omega), ← LC_append, leastL _ (by rw [List.length_append]; omega), Option.bind_some]
theorem fput_l0 (f r : List C) (i : Int) (hl : f.length ≤ 1000) (hlr : r.length ≤ 100) : ∀ (d k j : Nat) (b : List C), j + d = f.length → 2 * d + 10 < k → b.length ≤ 64 →
    face_Put.l0 k i (LC r) (LC b) (LC f) (f.length : Int) (j : Int) = some (LC (foldE [] (fpStep i r) (f.drop j) b).1, (foldE [] (fpStep i r) (f.drop j) b).2)
  | d, 0, _, _, _, hk, _ => absurd hk (by omega)
  | 0, k + 1, j, b, hj, _, _ => by
    rw [face_Put.l0, if_neg (by omega), List.drop_eq_nil_of_le (by omega)]
    rfl
  | d + 1, k + 1, j, b, hj, hk, hb => by
    have hjl : j < f.length := by omega
    obtain ⟨k, rfl⟩ : ∃ m, k = m + 1 := ⟨k - 1, by omega⟩
    have e2 : wrap64 ((j : Int) + 1) = ((j + 1 : Nat) : Int) := by
      unfold wrap64
      omega
    have ho : (ofF r).1.length ≤ 64 := by
      unfold ofF
      split
      · exact least_le64 _
      · simp
    have hz : (zeroF r).1.length ≤ 64 := by
      unfold zeroF ofF
      split
      · split
        · exact least_le64 _
        · simp
      · simp
    have hj2 : ∀ G : List C × Int, G = fpG i r f[j] → face_Put.j2 (k + 1) i (LC r) (LC b) (LC G.1) G.2 (LC f) (f.length : Int) (j : Int) = some (LC (foldE [] (fpStep i r) (f.drop j) b).1, (foldE [] (fpStep i r) (f.drop j) b).2) := by
      rintro G rfl
      have hg := fpG_len i r f[j]
      rw [List.drop_eq_getElem_cons hjl, face_Put.j2]
      by_cases h : (fpG i r f[j]).2 = 0
      · have hs : fpStep i r b f[j] = least (b ++ (fpG i r f[j]).1) := by
          unfold fpStep
          rw [if_pos h]
        rw [if_pos h, fjoinL _ _ (by omega) (by omega), Option.bind_some, ← hs]
        by_cases h2 : (fpStep i r b f[j]).2 = 0
        · rw [if_pos h2, e2, foldE_ok h2]
          exact fput_l0 f r i hl hlr d k (j + 1) _ (by omega) (by omega) (fpStep_len i r b f[j])
        · rw [if_neg h2, foldE_err_nil h2]
          rfl
      · have hs : fpStep i r b f[j] = ([], (fpG i r f[j]).2) := by
          unfold fpStep
          rw [if_neg h]
        rw [if_neg h, foldE_err_nil (by rw [hs]; exact h), hs]
        rfl
    rw [face_Put.l0, if_pos (by omega), if_pos (by omega), if_pos (by rw [LC_len]; omega), rdC f j hjl]
    show (mask_Without.f (un f[j].1) i).bind _ = _
    rw [without24, Option.bind_some]
    show (mask_Without.f (un f[j].2) i).bind _ = _
    rw [without24, Option.bind_some, Option.bind_some]
    show (mask_Has.f (un f[j].1) i).bind _ = _
    rw [has24, Option.bind_some]
    have hw : ([(⟨un (wo f[j].1 i), un (wo f[j].2 i)⟩ : S25)] : List S25) = LC [woC f[j] i] := rfl
    rw [hw]
    by_cases h1 : hasI f[j].1 i = true
    · rw [if_pos h1, ofL r (by omega), Option.bind_some]
      by_cases h2 : (ofF r).2 = 0
      · rw [if_pos h2, fmeetL _ _ (by simp) (by omega), Option.bind_some]
        exact hj2 _ (by unfold fpG; rw [if_pos h1, if_pos h2])
      · rw [if_neg h2]
        exact hj2 ([woC f[j] i], (ofF r).2) (by unfold fpG; rw [if_pos h1, if_neg h2])
    · rw [if_neg h1]
      show (mask_Has.f (un f[j].2) i).bind _ = _
      rw [has24, Option.bind_some]
      by_cases h3 : hasI f[j].2 i = true
      · rw [if_pos h3, zeroL r (by omega), Option.bind_some]
        by_cases h2 : (zeroF r).2 = 0
        · rw [if_pos h2, fmeetL _ _ (by simp) (by omega), Option.bind_some]
          exact hj2 _ (by unfold fpG; rw [if_neg h1, if_pos h3, if_pos h2])
        · rw [if_neg h2]
          exact hj2 ([woC f[j] i], (zeroF r).2) (by unfold fpG; rw [if_neg h1, if_pos h3, if_neg h2])
      · rw [if_neg h3]
        exact hj2 ([woC f[j] i], 0) (by unfold fpG; rw [if_neg h1, if_neg h3])
theorem frightL (l : List C) (h : l.length ≤ 1000000) : face_Right.f (LC l) = some (faceR l) := by
  unfold face_Right.f
  rw [if_pos (okLC h), backLC]
theorem facePutL (f r : List C) (i : Int) (k : Nat) (hl : f.length ≤ 100) (hlr : r.length ≤ 100) (hk : 2000 < k) : face_Put.f k (LC f) i (LC r) = some (LC (facePut f i r).1, (facePut f i r).2) := by
  obtain ⟨k, rfl⟩ : ∃ m, k = m + 1 := ⟨k - 1, by omega⟩
  have hno : face_Put.j0 (k + 1) (LC f) i (LC r) true = some ([], 2) := by rw [face_Put.j0, if_pos rfl]
  unfold face_Put.f facePut
  rw [frightL f (by omega), Option.bind_some]
  by_cases hf : faceR f = true
  · rw [if_pos hf, dim24, Option.bind_some]
    by_cases hd : dimI i = true
    · have hr := fright24 r (k + 1) (by omega) (by omega)
      rw [if_pos hd, show formula_Right.f (k + 1) (LC r) = some (H.right r) from hr, Option.bind_some]
      by_cases hrr : H.right r = true
      · rw [hrr, if_pos ⟨hf, hd, rfl⟩]
        show face_Put.j0 (k + 1) (LC f) i (LC r) false = _
        have h := fput_l0 f r i (by omega) hlr f.length k 0 [] (by omega) (by omega) (by simp)
        rw [face_Put.j0, if_neg Bool.false_ne_true, LC_len]
        exact h
      · rw [if_neg (fun h => hrr h.2.2), show H.right r = false by simpa using hrr]
        exact hno
    · rw [if_neg hd, hno, if_neg (fun h => hd h.2.1)]
      rfl
  · rw [if_neg hf, hno, if_neg (fun h => hf h.1)]
    rfl
/-! ### The document's Put -/
theorem of_facts {f : List C} (hf : H.right f = true) : (ofF f).2 = 0 ∧ faceR (ofF f).1 = true := by
  have hok : (keepC calmP f).all ok = true := List.all_eq_true.2 fun x hx => by
    obtain ⟨y, hy, _, rfl⟩ := mem_keepC.1 hx
    exact List.all_eq_true.1 (ok_of_right hf) y hy
  have hlen : (keepC calmP f).length ≤ 64 := Nat.le_trans (keepC_len _ _) (len_of_right hf)
  have h0 := least_told hok hlen
  have e : ofF f = least (keepC calmP f) := by
    unfold ofF
    rw [if_pos hf]
  rw [e]
  refine ⟨h0, faceR_iff.2 ⟨right_least h0, fun x hx => ?_⟩⟩
  obtain ⟨y, _, hy, rfl⟩ := mem_keepC.1 (least_sub h0 hx)
  unfold calmP at hy ⊢
  simpa using hy
theorem zero_face {f : List C} (h : (zeroF f).2 = 0) : faceR (zeroF f).1 = true := by
  unfold zeroF at h ⊢
  by_cases h1 : (fNot f).2 = 0
  · rw [if_pos h1] at h ⊢
    exact (of_facts (fNot_told h1).2.1).2
  · rw [if_neg h1] at h
    exact absurd h h1
theorem wo_clash {i : Int} (hd : dimI i = true) {c : C} (hc : ok c = true) (hn : H.clash c = false) : H.clash (woC c i) = false := by
  have h := below_wo hd hc c
  rw [below_refl] at h
  have h2 : below c (woC c i) = true := by
    have h3 := h.symm
    rw [Bool.and_eq_true, Bool.and_eq_true] at h3
    exact h3.1.1
  exact clash_below h2 hn
theorem wo_face {i : Int} (hd : dimI i = true) {c : C} (hc : ok c = true) (hn : H.clash c = false) : faceR [woC c i] = true := by
  refine faceR_iff.2 ⟨right_one (woC_ok hd c), fun x hx => ?_⟩
  rw [List.mem_singleton.1 hx]
  exact wo_clash hd hc hn
theorem meetsC_face {f g : List C} (h : (least (meetsC f g)).2 = 0) : faceR (least (meetsC f g)).1 = true := by
  refine faceR_iff.2 ⟨right_least h, fun x hx => ?_⟩
  have h1 := least_sub h hx
  unfold meetsC at h1
  obtain ⟨a, _, h2⟩ := List.mem_flatMap.1 h1
  obtain ⟨y, _, hy, rfl⟩ := mem_keepC.1 h2
  unfold meetP at hy ⊢
  simpa using hy
theorem fpG_face {i : Int} (hd : dimI i = true) {r : List C} {c : C} (hc : ok c = true) (hn : H.clash c = false) (h : (fpG i r c).2 = 0) : faceR (fpG i r c).1 = true := by
  unfold fpG at h ⊢
  split at h
  · rename_i h1
    rw [if_pos h1]
    split at h
    · rename_i h2
      rw [if_pos h2]
      exact meetsC_face h
    · rename_i h2
      exact absurd h h2
  · rename_i h1
    rw [if_neg h1]
    split at h
    · rename_i h3
      rw [if_pos h3]
      split at h
      · rename_i h2
        rw [if_pos h2]
        exact meetsC_face h
      · rename_i h2
        exact absurd h h2
    · rename_i h3
      rw [if_neg h3]
      exact wo_face hd hc hn
theorem join_face {b g : List C} (hb : faceR b = true) (hg : faceR g = true) (h : (least (b ++ g)).2 = 0) : faceR (least (b ++ g)).1 = true := by
  refine faceR_iff.2 ⟨right_least h, fun x hx => ?_⟩
  rcases List.mem_append.1 (least_sub h hx) with h1 | h1
  · exact (faceR_iff.1 hb).2 x h1
  · exact (faceR_iff.1 hg).2 x h1
theorem not_both {i : Int} (hd : dimI i = true) {c : C} (hn : H.clash c = false) (h1 : hasI c.1 i = true) : hasI c.2 i = false := by
  rw [hasI_eq hd] at h1 ⊢
  cases h : tb c.2 i.toNat
  · rfl
  · exact (clash_iff.1 hn _ h1 h).elim
theorem meet_top {i : Int} (hd : dimI i = true) {c : C} (hc : ok c = true) (hn : H.clash c = false) : fmeetF [woC c i] [top] = ([woC c i], 0) := by
  have hw := wo_clash hd hc hn
  have e : meet (woC c i) top = woC c i := Prod.ext (by show (woC c i).1 ||| 0 = _; simp) (by show (woC c i).2 ||| 0 = _; simp)
  have h1 : meetsC [woC c i] [top] = [woC c i] := by
    unfold meetsC keepC meetP
    simp [e, hw]
  have h2 := right_one (woC_ok hd c)
  unfold H.right at h2
  rw [Bool.and_eq_true, decide_eq_true_iff, decide_eq_true_iff] at h2
  unfold fmeetF
  rw [if_pos ⟨wo_face hd hc hn, by decide +kernel⟩, h1]
  exact Prod.ext h2.2 h2.1
theorem rput5_j4 (f r b : List C) (i : Int) (hb : faceR b = true) (c : C) (rest : List C) (j : Nat) (hj : (j : Int) < 1000) (k : Nat) (hk : 30010 < k) (hg : (fpG i r c).2 = 0 → faceR (fpG i r c).1 = true)
    (hnext : (fpStep i r b c).2 = 0 → hypercuberef05_Put.l0 k (LC f) i (LC r) (LC (fpStep i r b c).1) ((j + 1 : Nat) : Int) = some (LC (foldE [] (fpStep i r) rest (fpStep i r b c).1).1, (foldE [] (fpStep i r) rest (fpStep i r b c).1).2))
    (G : List C) (hG : (fpG i r c).2 = 0 → G = (fpG i r c).1) :
    hypercuberef05_Put.j4 (k + 1) (LC f) i (LC r) (LC b) (j : Int) (LC G) (fpG i r c).2 = some (LC (foldE [] (fpStep i r) (c :: rest) b).1, (foldE [] (fpStep i r) (c :: rest) b).2) := by
  have e2 : wrap64 ((j : Int) + 1) = ((j + 1 : Nat) : Int) := by
    unfold wrap64
    omega
  have hlb := len_of_right (faceR_iff.1 hb).1
  have hlg := fpG_len i r c
  rw [hypercuberef05_Put.j4]
  by_cases h : (fpG i r c).2 = 0
  · have hs : fpStep i r b c = least (b ++ (fpG i r c).1) := by
      unfold fpStep
      rw [if_pos h]
    have hJ : fjoinF b (fpG i r c).1 = fpStep i r b c := by
      unfold fjoinF
      rw [if_pos ⟨hb, hg h⟩, hs]
    rw [if_pos h, hG h, refjoin5 b _ k (by omega) (by omega) (by omega), Option.bind_some, hJ]
    by_cases h2 : (fpStep i r b c).2 = 0
    · rw [if_pos h2, e2, foldE_ok h2]
      exact hnext h2
    · rw [if_neg h2, foldE_err_nil h2]
      rfl
  · have hs : fpStep i r b c = ([], (fpG i r c).2) := by
      unfold fpStep
      rw [if_neg h]
    rw [if_neg h, foldE_err_nil (by rw [hs]; exact h), hs]
    rfl
theorem rput5_l0 (f r : List C) (i : Int) (hd : dimI i = true) (hr : H.right r = true) (hok : f.all ok = true) (hcl : ∀ x ∈ f, H.clash x = false) (hl : f.length ≤ 100) : ∀ (d k j : Nat) (b : List C), j + d = f.length → 5 * d + 30100 < k → faceR b = true →
    hypercuberef05_Put.l0 k (LC f) i (LC r) (LC b) (j : Int) = some (LC (foldE [] (fpStep i r) (f.drop j) b).1, (foldE [] (fpStep i r) (f.drop j) b).2)
  | d, 0, _, _, _, hk, _ => absurd hk (by omega)
  | 0, k + 1, j, b, hj, _, _ => by
    rw [hypercuberef05_Put.l0, if_neg (by rw [LC_len]; omega), List.drop_eq_nil_of_le (by omega)]
    rfl
  | d + 1, k + 1, j, b, hj, hk, hb => by
    have hjl : j < f.length := by omega
    obtain ⟨k, rfl⟩ : ∃ m, k = m + 3 := ⟨k - 3, by omega⟩
    have hokj : ok f[j] = true := List.all_eq_true.1 hok _ (List.getElem_mem _)
    have hclj := hcl _ (List.getElem_mem hjl)
    have hlr := len_of_right hr
    have hwf := wo_face hd hokj hclj
    have hg : (fpG i r f[j]).2 = 0 → faceR (fpG i r f[j]).1 = true := fpG_face hd hokj hclj
    have hnext : (fpStep i r b f[j]).2 = 0 → hypercuberef05_Put.l0 k (LC f) i (LC r) (LC (fpStep i r b f[j]).1) ((j + 1 : Nat) : Int) = some (LC (foldE [] (fpStep i r) (f.drop (j + 1)) (fpStep i r b f[j]).1).1, (foldE [] (fpStep i r) (f.drop (j + 1)) (fpStep i r b f[j]).1).2) := fun h =>
      rput5_l0 f r i hd hr hok hcl hl d k (j + 1) _ (by omega) (by omega) (by
        unfold fpStep at h ⊢
        split at h
        · rename_i h2
          rw [if_pos h2]
          exact join_face hb (hg h2) h
        · rename_i h2
          exact absurd h h2)
    have h4 := rput5_j4 f r b i hb f[j] (f.drop (j + 1)) j (by omega) k (by omega) hg hnext
    have hJ : ∀ X : List C × Int, (X.2 = 0 → faceR X.1 = true ∧ X.1.length ≤ 64 ∧ fpG i r f[j] = fmeetF [woC f[j] i] X.1) → (X.2 ≠ 0 → fpG i r f[j] = ([woC f[j] i], X.2)) → hypercuberef05_Put.j3 (k + 2) (LC f) i (LC r) (LC b) (j : Int) (LC [woC f[j] i]) (LC X.1) X.2 = some (LC (foldE [] (fpStep i r) (f.drop j) b).1, (foldE [] (fpStep i r) (f.drop j) b).2) := by
      intro X hx0 hx1
      rw [List.drop_eq_getElem_cons hjl, hypercuberef05_Put.j3]
      by_cases h : X.2 = 0
      · obtain ⟨_, x2, x3⟩ := hx0 h
        rw [if_pos h, refmeet5 _ _ _ (by simp) (by omega) (by omega), Option.bind_some, ← x3]
        exact h4 _ fun _ => rfl
      · have e := hx1 h
        rw [if_neg h]
        have e2 : X.2 = (fpG i r f[j]).2 := by rw [e]
        rw [e2]
        exact h4 _ fun _ => by rw [e]
    have ho := of_facts hr
    have hol : (ofF r).1.length ≤ 64 := len_of_right (faceR_iff.1 ho.2).1
    rw [hypercuberef05_Put.l0, if_pos (by rw [LC_len]; omega), if_pos (by omega), rdC f j hjl]
    show (hypercuberef01_Without.f (k + 3) (un f[j].1) i).bind _ = _
    rw [refwo _ hd _ (by omega), Option.bind_some]
    show (hypercuberef01_Without.f (k + 3) (un f[j].2) i).bind _ = _
    rw [refwo _ hd _ (by omega), Option.bind_some, Option.bind_some]
    show (hypercuberef01_Has.f (k + 3) (un f[j].1) i).bind _ = _
    rw [refhasI _ hd _ (by omega), Option.bind_some]
    have hw : ([(⟨un (wo f[j].1 i), un (wo f[j].2 i)⟩ : S25)] : List S25) = LC [woC f[j] i] := rfl
    have htop : ([(⟨0, 0⟩ : S25)] : List S25) = LC [top] := rfl
    rw [hw, htop]
    by_cases h1 : hasI f[j].1 i = true
    · have h2 := not_both hd hclj h1
      rw [if_pos h1, refof r _ (by omega) (by omega), Option.bind_some]
      show hypercuberef05_Put.j2 (k + 3) (LC f) i (LC r) (LC b) (j : Int) (LC [woC f[j] i]) (LC (ofF r).1) (ofF r).2 (un f[j].1) (un f[j].2) = _
      rw [hypercuberef05_Put.j2, refhasI _ hd _ (by omega), Option.bind_some, h2, if_neg Bool.false_ne_true]
      refine hJ (ofF r) (fun _ => ⟨ho.2, hol, ?_⟩) (fun h => absurd ho.1 h)
      unfold fpG fmeetF
      rw [if_pos h1, if_pos ho.1, if_pos ⟨hwf, ho.2⟩]
    · rw [if_neg h1]
      show hypercuberef05_Put.j2 (k + 3) (LC f) i (LC r) (LC b) (j : Int) (LC [woC f[j] i]) (LC [top]) 0 (un f[j].1) (un f[j].2) = _
      rw [hypercuberef05_Put.j2, refhasI _ hd _ (by omega), Option.bind_some]
      by_cases h2 : hasI f[j].2 i = true
      · rw [if_pos h2, refzero r _ (by omega) (by omega), Option.bind_some]
        refine hJ (zeroF r) (fun h => ⟨zero_face h, len_of_right (faceR_iff.1 (zero_face h)).1, ?_⟩) (fun h => ?_)
        · unfold fpG fmeetF
          rw [if_neg h1, if_pos h2, if_pos h, if_pos ⟨hwf, zero_face h⟩]
        · unfold fpG
          rw [if_neg h1, if_pos h2, if_neg h]
      · rw [if_neg h2]
        refine hJ ([top], 0) (fun _ => ⟨by decide +kernel, by decide, ?_⟩) (fun h => absurd rfl h)
        rw [meet_top hd hokj hclj]
        unfold fpG
        rw [if_neg h1, if_neg h2]
theorem refput5 (f r : List C) (i : Int) (k : Nat) (hl : f.length ≤ 100) (hlr : r.length ≤ 100) (hk : 31000 < k) : hypercuberef05_Put.f k (LC f) i (LC r) = some (LC (facePut f i r).1, (facePut f i r).2) := by
  obtain ⟨k, rfl⟩ : ∃ m, k = m + 1 := ⟨k - 1, by omega⟩
  have hno : hypercuberef05_Put.j0 (k + 1) (LC f) i (LC r) true = some ([], 2) := by rw [hypercuberef05_Put.j0, if_pos rfl]
  unfold hypercuberef05_Put.f facePut
  rw [ref5right f _ (by omega) (by omega), Option.bind_some]
  by_cases hf : faceR f = true
  · rw [if_pos hf]
    by_cases hd : dimI i = true
    · have h24 := of_decide_eq_true hd
      rw [if_neg (by omega), if_neg (by omega), ref3right r _ (by omega) (by omega), Option.bind_some]
      by_cases hr : H.right r = true
      · rw [hr, if_pos ⟨hf, hd, rfl⟩]
        show hypercuberef05_Put.j0 (k + 1) (LC f) i (LC r) false = _
        rw [hypercuberef05_Put.j0, if_neg Bool.false_ne_true]
        exact rput5_l0 f r i hd hr (ok_of_right (faceR_iff.1 hf).1) (faceR_iff.1 hf).2 hl f.length k 0 [] (by omega) (by omega) (by decide +kernel)
      · rw [if_neg (fun h => hr h.2.2), show H.right r = false by simpa using hr]
        exact hno
    · have hn : ¬ (0 ≤ i ∧ i < 24) := fun h => hd (decide_eq_true h)
      rw [if_neg (show ¬ (faceR f = true ∧ dimI i = true ∧ H.right r = true) from fun h => hd h.2.1)]
      by_cases h1 : i < 0
      · rw [if_pos h1, hno]
        rfl
      · rw [if_neg h1, if_pos (by omega), hno]
        rfl
  · rw [if_neg hf, hno, if_neg (fun h => hf h.1)]
    rfl
theorem restr_len (f : List C) (c : C) : (restrF f c).1.length ≤ 64 := by
  unfold restrF
  split
  · exact least_le64 _
  · simp
theorem all_len (f : List C) (i : Int) : (allF f i).1.length ≤ 64 := by
  unfold allF
  split
  · exact least_le64 _
  · simp
theorem fput_len (f r : List C) (i : Int) : (facePut f i r).1.length ≤ 64 := by
  unfold facePut
  split
  · exact fold_len i r f [] (by simp)
  · simp
theorem FaceCuts (f : List C) (c : C) (i : Int) (_wi : (Lit.int .i64 i).wf = true) (r : List C) : ∃ k, hypercubelaw05_FaceCuts.f k (LC f) (un c.1) (un c.2) i (LC r) = some true := by
  obtain ⟨k, hk⟩ : ∃ k, k = 40000 := ⟨_, rfl⟩
  refine ⟨k, ?_⟩
  have hg : hypercubelaw05_great.f (LC f) (LC r) = some (decide (24 < f.length ∨ 24 < r.length)) := by
    unfold hypercubelaw05_great.f
    rw [LC_len, LC_len]
    by_cases h : (f.length : Int) > 24
    · rw [if_pos h, decide_eq_true (by omega)]
    · rw [if_neg h]
      by_cases h2 : (r.length : Int) > 24
      · rw [decide_eq_true h2, decide_eq_true (by omega)]
      · rw [decide_eq_false h2, decide_eq_false (by omega)]
  unfold hypercubelaw05_FaceCuts.f
  rw [hg, Option.bind_some]
  by_cases h24 : 24 < f.length ∨ 24 < r.length
  · rw [if_pos (decide_eq_true h24), works k (by omega)]
    rfl
  rw [if_neg (by simpa using h24), Option.bind_some, if_pos (by rw [LC_len]; simp; omega), List.nil_append, Option.bind_some]
  have l1 := restr_len f c
  have l2 := all_len f i
  have l3 := fput_len f r i
  obtain ⟨y1, s1⟩ := same5 (restrF f c).1 (restrF f c).2 k (by omega) (by omega)
  obtain ⟨y2, s2⟩ := same5 (allF f i).1 (allF f i).2 k (by omega) (by omega)
  obtain ⟨y3, s3⟩ := same5 (facePut f i r).1 (facePut f i r).2 k (by omega) (by omega)
  rw [restrL f c (by omega), Option.bind_some, refrestr f c k (by omega) (by omega), Option.bind_some, allL f i (by omega), Option.bind_some, refall f i k (by omega) (by omega), Option.bind_some, facePutL f r i k (by omega) (by omega) (by omega), Option.bind_some, refput5 f r i k (by omega) (by omega) (by omega), Option.bind_some,
    s1, Option.bind_some, if_pos rfl, s2, Option.bind_some, if_pos rfl, s3, Option.bind_some, if_pos rfl, same f k (by omega) (by omega), Option.bind_some, if_pos rfl, works k (by omega)]
  rfl
end Go.Proofs.YtfbcgjkagdbckaaGreatDoor.Pure
