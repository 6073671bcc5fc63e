/-
PLAIN LAW: the statement FormulaPuts.
-/
import Derived.Laws.BitsAllLaws
import Derived.Test.YtfbcgjkagdbckaaDoorNat
import Derived.Test.YtfbcgjkagdbckaaDoorFw
import Derived.Test.YtfbcgjkagdbckaaDoorLPuts
namespace Go.Proofs.YtfbcgjkagdbckaaDoor.Pure
open Go.RowKit Go.Proofs.YtfbcgjkagdbckaaDoor.XFv Go.Proofs.YtfbcgjkagdbckaaDoorW.PrintWords Go.Proofs.YtfbcgjkagdbckaaDoorW.PrintLast Go.Proofs.YtfbcgjkagdbckaaDoorW.PrintMore H

theorem wrap64_small {n : Int} (h1 : -9223372036854775808 ≤ n) (h2 : n < 9223372036854775808) : wrap64 n = n := by
  unfold wrap64
  omega
theorem u64w (n : Nat) (h : n < 18446744073709551616) : IntKind.u64.wrap (n : Int) = (n : Int) := by
  rw [IntKind.wrap_u64]
  omega
def LC (l : List C) : List S60 := l.map ofC24
theorem LC_len (l : List C) : (LC l).length = l.length := List.length_map ..
theorem LC_append (a b : List C) : LC (a ++ b) = LC a ++ LC b := List.map_append ..
theorem rdC (l : List C) (i : Nat) (h : i < l.length) : rd_T60 (LC l) (i : Int) = ofC24 l[i] := by
  unfold rd_T60 LC
  rw [Int.toNat_natCast, List.getD_eq_getElem?_getD, List.getElem?_map, List.getElem?_eq_getElem h]
  rfl
theorem backLC (l : List C) : (LC l).map toC24 = l := by
  unfold LC
  rw [List.map_map]
  refine (List.map_congr_left (g := id) fun c _ => ?_).trans (List.map_id _)
  rw [Function.comp_apply, toC_ofC24]
  rfl
theorem okLC {l : List C} (h : l.length ≤ 1000000) : okL24 (LC l) := ⟨by unfold LC; rw [List.all_map, List.all_eq_true]; intro c _; rw [Function.comp_apply, inR_ofC24], by rw [LC_len]; exact h⟩
theorem wf_i64 {a : Int} (h : (Lit.int .i64 a).wf = true) : -9223372036854775808 ≤ a ∧ a < 9223372036854775808 := by
  have h' : -9223372036854775808 ≤ a ∧ a ≤ 9223372036854775807 := by simpa [Lit.wf, IntKind.min, IntKind.max, IntKind.bits, IntKind.signed] using h
  omega

def L (l : List Nat) : List Int := l.map fun i : Nat => (i : Int)
theorem L_len (l : List Nat) : (L l).length = l.length := List.length_map ..
theorem rd_mid (pre post : List Nat) (a : Nat) : rd (L (pre ++ a :: post)) (pre.length : Int) = (a : Int) := by
  unfold rd L
  simp
theorem set_mid (pre post : List Nat) (a b : Nat) : (L (pre ++ a :: post)).set ((pre.length : Int)).toNat (b : Int) = L (pre ++ b :: post) := by
  unfold L
  rw [Int.toNat_natCast, List.map_append, List.map_append, List.set_append]
  simp
theorem same_l0 (a b : List C) (hab : a.length = b.length) (hl : a.length < 4611686018427387904) : ∀ (d k i : Nat), i + d = a.length → d < k → a.take i = b.take i → hypercuberef02_Same.l0 k (LC a) (LC b) (i : Int) = some (decide (a = b))
  | d, 0, _, _, hk, _ => absurd hk (by omega)
  | 0, k + 1, i, hi, _, ht => by
    have e : a = b := by rw [← List.take_of_length_le (l := a) (i := i) (by omega), ht, List.take_of_length_le (by omega)]
    rw [hypercuberef02_Same.l0, if_neg (by rw [LC_len]; omega), decide_eq_true e]
  | d + 1, k + 1, i, hi, hk, ht => by
    have hia : i < a.length := by omega
    have hib : i < b.length := by omega
    have e2 : wrap64 ((i : Int) + 1) = ((i + 1 : Nat) : Int) := by
      unfold wrap64
      omega
    rw [hypercuberef02_Same.l0, if_pos (by rw [LC_len]; omega), if_pos (by omega), if_pos (by rw [LC_len]; omega), rdC a i hia, rdC b i hib]
    have hq : (!((ofC24 a[i]).f0 == (ofC24 b[i]).f0) || !((ofC24 a[i]).f1 == (ofC24 b[i]).f1)) = !decide (a[i] = b[i]) := by
      unfold ofC24
      rw [un_beq, un_beq, Bool.eq_iff_iff]
      simp [Prod.ext_iff]
    rw [hq, e2]
    by_cases hc : a[i] = b[i]
    · rw [if_neg (by simp [hc])]
      refine same_l0 a b hab hl d k (i + 1) (by omega) (by omega) ?_
      rw [List.take_succ_eq_append_getElem hia, List.take_succ_eq_append_getElem hib, ht, hc]
    · rw [if_pos (by simp [hc]), decide_eq_false (fun e => hc (by subst e; rfl))]
theorem sameL (a b : List C) (k : Nat) (hl : a.length < 4611686018427387904) (hk : a.length < k) : hypercuberef02_Same.f k (LC a) (LC b) = some (decide (a = b)) := by
  unfold hypercuberef02_Same.f
  rw [LC_len, LC_len]
  by_cases h : a.length = b.length
  · rw [if_pos (by omega)]
    exact same_l0 a b h hl a.length k 0 (by omega) hk rfl
  · rw [if_neg (by omega), decide_eq_false (fun e => h (by rw [e]))]
theorem same (l : List C) (k : Nat) (hl : l.length < 4611686018427387904) (hk : l.length < k) : hypercuberef02_Same.f k (LC l) (LC l) = some true := by
  rw [sameL l l k hl hk, decide_eq_true rfl]
theorem meetL (f g : List C) (hf : f.length ≤ 100) (hg : g.length ≤ 100) : formula_Meet.f (LC f) (LC g) = some (LC (fMeet f g).1, (fMeet f g).2) := by
  have h : f.length * g.length ≤ 100 * 100 := Nat.mul_le_mul hf hg
  unfold formula_Meet.f
  rw [if_pos ⟨okLC (by omega), okLC (by omega), by rw [LC_len, LC_len]; omega⟩, backLC, backLC]
  rfl
theorem notL (f : List C) (hf : f.length ≤ 100) : formula_Not.f (LC f) = some (LC (fNot f).1, (fNot f).2) := by
  unfold formula_Not.f
  rw [if_pos (okLC (by omega)), backLC]
  rfl
theorem putL (f : List C) (i : Int) (r : List C) (hf : f.length ≤ 100) (hr : r.length ≤ 100) : formula_Put.f (LC f) i (LC r) = some (LC (fPut f i r).1, (fPut f i r).2) := by
  unfold formula_Put.f
  rw [if_pos ⟨okLC (by omega), okLC (by omega)⟩, backLC, backLC]
  rfl
theorem works (k : Nat) (hk : 5 ≤ k) : hypercubelaw03_works.f k = some true := by
  have e1 := fdim24 0
  have e2 := notL [(3, 0)] (by decide)
  have e3 := meetL [(1, 0)] [(0, 1)] (by decide) (by decide)
  have e4 := putL [(0, 1), (1, 0)] 0 [] (by decide) (by decide)
  rw [w_dim] at e1
  rw [w_not] at e2
  rw [w_meet] at e3
  rw [w_put] at e4
  have s1 := same [(0, 1), (0, 2)] k (by decide) (by simp; omega)
  have s2 := same [(1, 1)] k (by decide) (by simp; omega)
  have s3 := same [(0, 0)] k (by decide) (by simp; omega)
  have f1 : LC [(1, 0)] = [⟨1, 0⟩] := rfl
  have f2 : LC [(3, 0)] = [⟨3, 0⟩] := rfl
  have f3 : LC [(0, 1)] = [⟨0, 1⟩] := rfl
  have f4 : LC [(0, 1), (1, 0)] = [⟨0, 1⟩, ⟨1, 0⟩] := rfl
  have f5 : LC [(0, 1), (0, 2)] = [⟨0, 1⟩, ⟨0, 2⟩] := rfl
  have f6 : LC [(1, 1)] = [⟨1, 1⟩] := rfl
  have f7 : LC [(0, 0)] = [⟨0, 0⟩] := rfl
  have f8 : LC [] = [] := rfl
  have f9 : ([((1 : UInt32), (0 : UInt32))] : List C).map ofC24 = [⟨1, 0⟩] := rfl
  rw [f2, f5] at e2
  rw [f1, f3, f6] at e3
  rw [f4, f7, f8] at e4
  rw [f5] at s1
  rw [f6] at s2
  rw [f7] at s3
  unfold hypercubelaw03_works.f
  rw [e1, Option.bind_some, e2, Option.bind_some, f9, e3, Option.bind_some, e4, Option.bind_some, if_pos rfl, if_pos rfl, if_pos rfl, if_pos rfl, s1, Option.bind_some, if_pos rfl, s2, Option.bind_some, if_pos rfl]
  unfold formula_One.f
  rw [Option.bind_some, s3, Option.bind_some, if_pos rfl]
  unfold formula_Zero.f
  rfl
theorem power_l0 (n : Nat) (hn : n ≤ 40) : ∀ (d k i : Nat), i + d = n → d < k → hypercuberef01_power.l0 k (n : Int) ((2 ^ i : Nat) : Int) (i : Int) = some ((2 ^ n : Nat) : Int)
  | d, 0, _, _, hk => absurd hk (by omega)
  | 0, k + 1, i, hi, _ => by
    unfold hypercuberef01_power.l0
    rw [if_neg (by omega), show i = n by omega]
  | d + 1, k + 1, i, hi, hk => by
    have hp : 2 ^ (i + 1) ≤ 2 ^ 40 := Nat.pow_le_pow_right (by omega) (by omega)
    have he : 2 ^ (i + 1) = 2 ^ i * 2 := Nat.pow_succ ..
    have e1 : wrap64 (((2 ^ i : Nat) : Int) * 2) = ((2 ^ (i + 1) : Nat) : Int) := by
      rw [wrap64_small (by omega) (by omega)]
      omega
    have e2 : wrap64 ((i : Int) + 1) = ((i + 1 : Nat) : Int) := by
      rw [wrap64_small (by omega) (by omega)]
      omega
    unfold hypercuberef01_power.l0
    rw [if_pos (by omega), e1, e2]
    exact power_l0 n hn d k (i + 1) (by omega) (by omega)
theorem power (n k : Nat) (hn : n ≤ 40) (hk : 41 ≤ k) : hypercuberef01_power.f k (n : Int) = some ((2 ^ n : Nat) : Int) := by
  unfold hypercuberef01_power.f
  exact power_l0 n hn n k 0 (by omega) (by omega)

theorem has (s k : Nat) (i : Int) (hs : s < 4294967296) (hk : 41 ≤ k) : hypercuberef01_Has.f k (s : Int) i = some (decide (0 ≤ i ∧ i < 24) && s.testBit i.toNat) := by
  unfold hypercuberef01_Has.f
  by_cases h0 : i ≥ 0
  · by_cases h1 : i < 24
    · obtain ⟨n, rfl⟩ := Int.eq_ofNat_of_zero_le h0
      have hp : 0 < 2 ^ n := Nat.two_pow_pos n
      have hd : s / 2 ^ n ≤ s := Nat.div_le_self ..
      rw [if_pos h0, if_pos h1, power n k (by omega) hk]
      simp only [Option.bind_some]
      rw [if_neg (by omega), wrap64_small (n := (s : Int)) (by omega) (by omega), ← Int.ofNat_tdiv, wrap64_small (Int.le_trans (by decide) (Int.natCast_nonneg _)) (Int.lt_of_le_of_lt (Int.ofNat_le.2 hd) (by omega))]
      rw [show (2 : Int) = ((2 : Nat) : Int) from rfl, ← Int.ofNat_tmod, Int.toNat_natCast, Nat.testBit_eq_decide_div_mod_eq]
      rw [Option.some.injEq, Bool.eq_iff_iff]
      simp only [beq_iff_eq, Bool.and_eq_true, decide_eq_true_eq]
      omega
    · rw [if_pos h0, if_neg h1]
      simp [h1]
  · rw [if_neg h0]
    have : ¬ 0 ≤ i := h0
    simp [this]
theorem list_l0 (s : Nat) (hs : s < 4294967296) : ∀ (d k i : Nat), i + d = 24 → d + 41 ≤ k →
    hypercuberef01_List.l0 k (s : Int) (L ((List.range i).filter fun j => s.testBit j)) (i : Int) = some (L (dimsN s))
  | d, 0, _, _, hk => absurd hk (by omega)
  | 0, k + 1, i, hi, _ => by
    obtain rfl : i = 24 := by omega
    unfold hypercuberef01_List.l0
    rw [if_neg (by omega)]
    rfl
  | d + 1, k + 1, i, hi, hk => by
    have e2 : wrap64 ((i : Int) + 1) = ((i + 1 : Nat) : Int) := by
      rw [wrap64_small (by omega) (by omega)]
      omega
    have hl : ((List.range i).filter fun j => s.testBit j).length ≤ i := by
      have := List.length_filter_le (fun j => s.testBit j) (List.range i)
      rwa [List.length_range] at this
    have ih := list_l0 s hs d k (i + 1) (by omega) (by omega)
    rw [List.range_succ, List.filter_append] at ih
    unfold hypercuberef01_List.l0
    rw [if_pos (by omega), has s k i hs (by omega)]
    simp only [Option.bind_some]
    rw [Int.toNat_natCast, show decide (0 ≤ (i : Int) ∧ (i : Int) < 24) = true from decide_eq_true (by omega), Bool.true_and, e2]
    by_cases hb : s.testBit i = true
    · rw [if_pos hb, if_pos (by rw [L_len]; omega)]
      rw [show L ((List.range i).filter fun j => s.testBit j) ++ [(i : Int)] = L (((List.range i).filter fun j => s.testBit j) ++ [i].filter fun j => s.testBit j) by simp [L, hb]]
      exact ih
    · rw [if_neg hb]
      rw [show L ((List.range i).filter fun j => s.testBit j) = L (((List.range i).filter fun j => s.testBit j) ++ [i].filter fun j => s.testBit j) by simp [hb]]
      exact ih
theorem list (s k : Nat) (hs : s < 4294967296) (hk : 65 ≤ k) : hypercuberef01_List.f k (s : Int) = some (L (dimsN s)) := by
  unfold hypercuberef01_List.f
  exact list_l0 s hs 24 k 0 (by omega) (by omega)

theorem set_l0 (l : List Nat) (hl : l.length ≤ 25) (hb : ∀ x ∈ l, x < 24) : ∀ (post pre : List Nat) (k : Nat), pre ++ post = l → post.length + 41 < k →
    hypercuberef01_Set.l0 k (L l) ((sumPow pre : Nat) : Int) (pre.length : Int) = some ((sumPow l : Nat) : Int)
  | _, _, 0, _, hk => absurd hk (by omega)
  | [], pre, k + 1, he, _ => by
    rw [List.append_nil] at he
    subst he
    have := sumPow_le (l := pre) 23 fun x hx => by have := hb x hx; omega
    have h2 : pre.length * 2 ^ 23 ≤ 25 * 2 ^ 23 := Nat.mul_le_mul_right _ hl
    unfold hypercuberef01_Set.l0
    rw [if_neg (by rw [L_len]; omega), Int.emod_eq_of_lt (by omega) (by omega)]
  | a :: post, pre, k + 1, he, hk => by
    subst he
    have ha : a < 24 := hb a (by simp)
    rw [List.length_append, List.length_cons] at hl
    rw [List.length_cons] at hk
    have h1 := sumPow_le (l := pre ++ [a]) 23 fun x hx => by
      have := hb x (by simp at hx ⊢; rcases hx with h | h; exact .inl h; exact .inr (.inl h))
      omega
    rw [List.length_append, List.length_singleton] at h1
    have h2 : (pre.length + 1) * 2 ^ 23 ≤ 25 * 2 ^ 23 := Nat.mul_le_mul_right _ (by omega)
    have h3 : sumPow (pre ++ [a]) = sumPow pre + 2 ^ a := by
      rw [sumPow_append]
      simp [sumPow]
    have e1 : wrap64 (((sumPow pre : Nat) : Int) + ((2 ^ a : Nat) : Int)) = ((sumPow (pre ++ [a]) : Nat) : Int) := by
      rw [wrap64_small (by omega) (by omega), h3]
      omega
    have e2 : wrap64 ((pre.length : Int) + 1) = (((pre ++ [a]).length : Nat) : Int) := by
      rw [wrap64_small (by omega) (by omega), List.length_append, List.length_singleton]
      omega
    unfold hypercuberef01_Set.l0
    rw [if_pos (by rw [L_len, List.length_append, List.length_cons]; omega), if_pos (by omega), rd_mid, power a k (by omega) (by omega)]
    simp only [Option.bind_some]
    rw [e1, e2]
    have e3 : pre ++ a :: post = (pre ++ [a]) ++ post := by simp
    exact set_l0 (pre ++ a :: post) (by rw [List.length_append, List.length_cons]; omega) hb post (pre ++ [a]) k e3.symm (by omega)
theorem set (l : List Nat) (k : Nat) (hl : l.length ≤ 25) (hb : ∀ x ∈ l, x < 24) (hk : 70 ≤ k) : hypercuberef01_Set.f k (L l) = some ((sumPow l : Nat) : Int) := by
  unfold hypercuberef01_Set.f
  exact set_l0 l hl hb l [] k rfl (by omega)
theorem without_l0 (i : Int) (l : List Nat) (hl : l.length ≤ 24) (hb : ∀ x ∈ l, x < 24) : ∀ (post pre : List Nat) (k : Nat), pre ++ post = l → post.length + 71 ≤ k →
    hypercuberef01_Without.l0 k i (L l) (L (pre.filter fun x : Nat => decide ((x : Int) ≠ i))) (pre.length : Int) = some ((sumPow (l.filter fun x : Nat => decide ((x : Int) ≠ i)) : Nat) : Int)
  | _, _, 0, _, hk => absurd hk (by omega)
  | [], pre, k + 1, he, hk => by
    rw [List.append_nil] at he
    subst he
    unfold hypercuberef01_Without.l0
    have hf := List.length_filter_le (fun x : Nat => decide ((x : Int) ≠ i)) pre
    rw [if_neg (by rw [L_len]; omega), set _ k (by omega) (fun x hx => hb x (List.mem_filter.1 hx).1) (by simp at hk; omega)]
    rfl
  | a :: post, pre, k + 1, he, hk => by
    subst he
    rw [List.length_cons] at hk
    have hl' := hl
    rw [List.length_append, List.length_cons] at hl'
    have e2 : wrap64 ((pre.length : Int) + 1) = (((pre ++ [a]).length : Nat) : Int) := by
      rw [wrap64_small (by omega) (by omega), List.length_append, List.length_singleton]
      omega
    have e3 : pre ++ a :: post = (pre ++ [a]) ++ post := by simp
    have ih := without_l0 i (pre ++ a :: post) hl hb post (pre ++ [a]) k e3.symm (by omega)
    have hf := List.length_filter_le (fun x : Nat => decide ((x : Int) ≠ i)) pre
    unfold hypercuberef01_Without.l0
    rw [if_pos (by rw [L_len, List.length_append, List.length_cons]; omega), if_pos (by omega), rd_mid, e2]
    by_cases h : (a : Int) = i
    · rw [if_pos h]
      rw [List.filter_append] at ih
      simp only [List.filter_cons, List.filter_nil, ne_eq, h, not_true, decide_false, Bool.false_eq_true, if_false, List.append_nil] at ih ⊢
      exact ih
    · rw [if_neg h, if_pos (by rw [L_len]; omega)]
      rw [show L (pre.filter fun x : Nat => decide ((x : Int) ≠ i)) ++ [(a : Int)] = L ((pre ++ [a]).filter fun x : Nat => decide ((x : Int) ≠ i)) by simp [L, List.filter_append, h]]
      exact ih
theorem without (s k : Nat) (i : Int) (hs : s < 4294967296) (hk : 95 ≤ k) : hypercuberef01_Without.f k (s : Int) i = some ((sumPow ((dimsN s).filter fun x : Nat => decide ((x : Int) ≠ i)) : Nat) : Int) := by
  unfold hypercuberef01_Without.f
  rw [list s k hs (by omega)]
  simp only [Option.bind_some]
  have := dimsN_len s
  exact without_l0 i (dimsN s) this (fun x hx => (mem_dimsN.1 hx).1) (dimsN s) [] k rfl (by omega)

theorem dimsN_sum_filter (s : Nat) (p : Nat → Bool) : dimsN (sumPow ((dimsN s).filter p)) = (dimsN s).filter p :=
  dimsN_sumPow ((dimsN_asc s).filter _) fun _ hx => (mem_dimsN.1 (List.mem_filter.1 hx).1).1
theorem sum_filter_lt (s : Nat) (p : Nat → Bool) : sumPow ((dimsN s).filter p) < 16777216 :=
  sumPow_lt (nodup_of_asc ((dimsN_asc s).filter _)) fun _ hx => (mem_dimsN.1 (List.mem_filter.1 hx).1).1
theorem refwith (s k : Nat) (i : Int) (hs : s < 4294967296) (hk : 100 ≤ k) : hypercuberef01_With.f k (s : Int) i = some (if 0 ≤ i ∧ i < 24 then ((s % 16777216 ||| 2 ^ i.toNat : Nat) : Int) else ((s % 16777216 : Nat) : Int)) := by
  obtain ⟨k', rfl⟩ : ∃ k', k = k' + 1 := ⟨k - 1, by omega⟩
  have hneg : sumPow ((dimsN s).filter fun x : Nat => decide ((x : Int) ≠ -1)) = s % 16777216 := by
    rw [List.filter_eq_self.2, sumPow_dimsN]
    intro x _
    simp
  unfold hypercuberef01_With.f
  by_cases h : 0 ≤ i ∧ i < 24
  · obtain ⟨n, rfl⟩ := Int.eq_ofNat_of_zero_le h.1
    have hlt := sum_filter_lt s fun x : Nat => decide ((x : Int) ≠ (n : Int))
    have hlen := List.length_filter_le (fun x : Nat => decide ((x : Int) ≠ (n : Int))) (dimsN s)
    have hlen2 := dimsN_len s
    rw [if_neg (by omega), show decide ((n : Int) ≥ 24) = false from decide_eq_false (by omega), hypercuberef01_With.j0, if_neg Bool.false_ne_true, without s k' n hs (by omega)]
    simp only [Option.bind_some]
    rw [list _ k' (by omega) (by omega), dimsN_sum_filter]
    simp only [Option.bind_some]
    rw [if_pos (by rw [L_len]; omega)]
    rw [show L ((dimsN s).filter fun x : Nat => decide ((x : Int) ≠ (n : Int))) ++ [(n : Int)] = L (((dimsN s).filter fun x : Nat => decide ((x : Int) ≠ (n : Int))) ++ [n]) by simp [L]]
    rw [set _ k' (by rw [List.length_append, List.length_singleton]; omega) (by
      intro x hx
      rcases List.mem_append.1 hx with h1 | h1
      · exact (mem_dimsN.1 (List.mem_filter.1 h1).1).1
      · rw [List.mem_singleton] at h1; omega) (by omega), if_pos h, Int.toNat_natCast]
    simp only [Option.bind_some]
    rw [Option.some.injEq, Int.ofNat_inj]
    apply Nat.eq_of_testBit_eq
    intro j
    have nd : (((dimsN s).filter fun x : Nat => decide ((x : Int) ≠ (n : Int))) ++ [n]).Nodup := by
      rw [List.nodup_append]
      refine ⟨nodup_of_asc ((dimsN_asc s).filter _), by simp, ?_⟩
      intro a ha b hb e
      rw [List.mem_singleton] at hb
      have := (List.mem_filter.1 ha).2
      simp at this
      omega
    rw [sumPow_testBit nd, Nat.testBit_or, testBit_low24, Nat.testBit_two_pow, Bool.eq_iff_iff]
    simp only [decide_eq_true_eq, Bool.or_eq_true, Bool.and_eq_true, List.mem_append, List.mem_singleton, List.mem_filter, mem_dimsN]
    constructor
    · rintro (⟨h1, _⟩ | h1)
      · exact .inl h1
      · exact .inr h1.symm
    · rintro (h1 | h1)
      · by_cases e : j = n
        · exact .inr e
        · exact .inl ⟨h1, by omega⟩
      · exact .inr h1.symm
  · rw [if_neg h]
    by_cases hn : i < 0
    · rw [if_pos hn, hypercuberef01_With.j0, if_pos rfl, without s k' (-1) hs (by omega), hneg]
      rfl
    · rw [if_neg hn, show decide (i ≥ 24) = true from decide_eq_true (by omega), hypercuberef01_With.j0, if_pos rfl, without s k' (-1) hs (by omega), hneg]
      rfl
theorem r1_lt (x : UInt32) : r1 x = decide (x.toNat < 16777216) := rfl
theorem union_l0 (a : Nat) (D : List Nat) (ha : a < 16777216) (hlen : D.length ≤ 24) (hD : D.Pairwise (· < ·)) (hb : ∀ x ∈ D, x < 24) : ∀ (post pre : List Nat) (k : Nat), pre ++ post = D → post.length + 101 ≤ k →
    hypercuberef02_union.l0 k ((a ||| sumPow pre : Nat) : Int) (L D) (pre.length : Int) = some ((a ||| sumPow D : Nat) : Int) := by
  intro post
  induction post with
  | nil =>
    intro pre k he hk
    obtain ⟨k, rfl⟩ : ∃ k', k = k' + 1 := ⟨k - 1, by omega⟩
    rw [List.append_nil] at he
    subst he
    rw [hypercuberef02_union.l0, if_neg (by rw [L_len]; omega)]
  | cons i post ih =>
    intro pre k he hk
    obtain ⟨k, rfl⟩ : ∃ k', k = k' + 1 := ⟨k - 1, by omega⟩
    rw [List.length_cons] at hk
    have e3 : pre ++ i :: post = (pre ++ [i]) ++ post := by simp
    have hl2 : D.length = pre.length + (post.length + 1) := by rw [← he, List.length_append, List.length_cons]
    have hi : i < 24 := hb i (by rw [← he]; simp)
    have hasc2 : (pre ++ [i]).Pairwise (· < ·) := by
      rw [← he, e3] at hD
      exact (List.pairwise_append.1 hD).1
    have hnd := nodup_of_asc hasc2
    have hpre : pre.Nodup := (List.nodup_append.1 hnd).1
    have hlt : sumPow pre < 16777216 := sumPow_lt hpre fun x hx => hb x (by rw [← he]; simp [hx])
    have hor : a ||| sumPow pre < 16777216 := Nat.or_lt_two_pow (n := 24) ha hlt
    have hstep : (a ||| sumPow pre) ||| 2 ^ i = a ||| sumPow (pre ++ [i]) := by
      apply Nat.eq_of_testBit_eq
      intro j
      rw [Nat.testBit_or, Nat.testBit_or, Nat.testBit_or, sumPow_testBit hpre, sumPow_testBit hnd, Nat.testBit_two_pow, Bool.eq_iff_iff]
      simp only [Bool.or_eq_true, decide_eq_true_eq, List.mem_append, List.mem_singleton]
      constructor
      · rintro ((h | h) | h)
        · exact .inl h
        · exact .inr (.inl h)
        · exact .inr (.inr h.symm)
      · rintro (h | h | h)
        · exact .inl (.inl h)
        · exact .inl (.inr h)
        · exact .inr h.symm
    have e2 : wrap64 ((pre.length : Int) + 1) = (((pre ++ [i]).length : Nat) : Int) := by
      rw [wrap64_small (by omega) (by omega), List.length_append, List.length_singleton]
      omega
    have hrd : rd (L D) (pre.length : Int) = (i : Int) := by rw [← he]; exact rd_mid pre post i
    have hw := refwith (a ||| sumPow pre) k (i : Int) (by omega) (by omega)
    rw [if_pos (by omega), Int.toNat_natCast, Nat.mod_eq_of_lt hor, hstep] at hw
    have hll := L_len D
    rw [hypercuberef02_union.l0, if_pos (by omega), if_pos (by omega), hrd, hw, Option.bind_some, e2]
    exact ih (pre ++ [i]) k (by rw [← e3]; exact he) (by omega)
theorem union (a b k : Nat) (ha : a < 16777216) (hb : b < 16777216) (hk : 200 ≤ k) : hypercuberef02_union.f k (a : Int) (b : Int) = some ((a ||| b : Nat) : Int) := by
  have hlen := dimsN_len b
  have h := union_l0 a (dimsN b) ha hlen (dimsN_asc b) (fun x hx => (mem_dimsN.1 hx).1) (dimsN b) [] k rfl (by omega)
  rw [sumPow_dimsN, Nat.mod_eq_of_lt hb] at h
  rw [show sumPow [] = 0 from rfl, Nat.or_zero] at h
  unfold hypercuberef02_union.f
  rw [list b k (by omega) (by omega), Option.bind_some]
  exact h
theorem unionU (a b : UInt32) (k : Nat) (ha : r1 a = true) (hb : r1 b = true) (hk : 200 ≤ k) : hypercuberef02_union.f k (un a) (un b) = some (un (a ||| b)) := by
  rw [r1_lt, decide_eq_true_eq] at ha hb
  unfold un
  rw [union a.toNat b.toNat k ha hb hk, UInt32.toNat_or]
theorem refmeet (a b : C) (k : Nat) (ha : ok a = true) (hb : ok b = true) (hk : 200 ≤ k) : hypercuberef02_Meet.f k (un a.1) (un a.2) (un b.1) (un b.2) = some (un (meet a b).1, un (meet a b).2) := by
  unfold ok at ha hb
  rw [Bool.and_eq_true] at ha hb
  unfold hypercuberef02_Meet.f
  rw [unionU a.1 b.1 k ha.1 hb.1 hk, Option.bind_some, unionU a.2 b.2 k ha.2 hb.2 hk, Option.bind_some]
  rfl
theorem refleastL (l : List C) (h : l.length ≤ 1000000) : hypercuberef02_Least.f (LC l) = some (LC (least l).1, (least l).2) := by
  unfold hypercuberef02_Least.f
  rw [if_pos (okLC h), backLC, leastR_eq]
  rfl
theorem least_le64 (l : List C) : (least l).1.length ≤ 64 := by
  rcases least_cases l with ⟨_, e⟩ | ⟨_, _, e⟩ | ⟨_, h2, e⟩
  · rw [e]; simp
  · rw [e]; simp
  · rw [e]
    show (sortC (keep l)).length ≤ 64
    rw [length_sortC]
    exact h2
theorem ref3right (l : List C) (k : Nat) (h : l.length ≤ 1000000) (hk : 64 < k) : hypercuberef03_Right.f k (LC l) = some (H.right l) := by
  have h64 := least_le64 l
  unfold hypercuberef03_Right.f H.right
  rw [refleastL l h, Option.bind_some]
  by_cases he : (least l).2 = 0
  · rw [if_pos he, sameL _ _ k (by omega) (by omega), Option.bind_some, decide_eq_true he, Bool.true_and]
  · rw [if_neg he, decide_eq_false he, Bool.false_and]
theorem unN (x : UInt32) : un x = ((x.toNat : Nat) : Int) := rfl
theorem hasU (x : UInt32) (i k : Nat) (hi : i < 24) (hk : 41 ≤ k) : hypercuberef01_Has.f k (un x) (i : Int) = some (tb x i) := by
  rw [unN, has x.toNat k i x.toNat_lt hk, decide_eq_true (by omega), Bool.true_and, Int.toNat_natCast]
  rfl
theorem setOne (i k : Nat) (hi : i < 24) (hk : 70 ≤ k) : hypercuberef01_Set.f k [(i : Int)] = some (un (H.one i)) := by
  have h := set [i] k (by simp) (by simpa using hi) hk
  have e : sumPow [i] = 2 ^ i := by simp [sumPow]
  rw [e] at h
  rw [show un (H.one i) = ((2 ^ i : Nat) : Int) by unfold un; rw [H.toNat_one (by omega)]]
  exact h
/-- A clause's opposites, dimension by dimension. -/
def turnD (c : C) (i : Nat) : List C := (if tb c.1 i = true then [(0, H.one i)] else []) ++ (if tb c.2 i = true then [(H.one i, 0)] else [])
def turnL (c : C) : List C := (List.range 24).flatMap (turnD c)
theorem turn_least (c : C) : least (turnL c) = least (opps c) := by
  refine least_congr fun x => ?_
  unfold turnL opps
  rw [List.mem_flatMap, List.mem_append, List.mem_map, List.mem_map]
  constructor
  · rintro ⟨i, hi, hx⟩
    rw [List.mem_range] at hi
    rcases List.mem_append.1 hx with h | h
    · split at h
      · rename_i hb
        rw [List.mem_singleton.1 h]
        exact .inl ⟨i, mem_dims.2 ⟨hi, hb⟩, rfl⟩
      · cases h
    · split at h
      · rename_i hb
        rw [List.mem_singleton.1 h]
        exact .inr ⟨i, mem_dims.2 ⟨hi, hb⟩, rfl⟩
      · cases h
  · rintro (⟨i, hi, rfl⟩ | ⟨i, hi, rfl⟩)
    · obtain ⟨h1, h2⟩ := mem_dims.1 hi
      exact ⟨i, List.mem_range.2 h1, List.mem_append.2 (.inl (by rw [if_pos h2]; simp))⟩
    · obtain ⟨h1, h2⟩ := mem_dims.1 hi
      exact ⟨i, List.mem_range.2 h1, List.mem_append.2 (.inr (by rw [if_pos h2]; simp))⟩
theorem turn_l0 (c : C) : ∀ (d k i : Nat) (A : List C), i + d = 24 → d + 80 < k → A.length ≤ 2 * i → hypercuberef03_turned.l0 k (LC A) (i : Int) (un c.1) (un c.2) = some (LC (least (A ++ (List.range' i d).flatMap (turnD c))).1)
  | d, 0, _, _, _, hk, _ => absurd hk (by omega)
  | 0, k + 1, i, A, hi, _, hA => by
    rw [hypercuberef03_turned.l0, if_neg (by omega), refleastL A (by omega), Option.bind_some]
    simp
  | d + 1, k + 1, i, A, hi, hk, hA => by
    have hi24 : i < 24 := by omega
    have e2 : wrap64 ((i : Int) + 1) = ((i + 1 : Nat) : Int) := by
      unfold wrap64
      omega
    have e3 : LC A ++ [(⟨0, un (H.one i)⟩ : S60)] = LC (A ++ [(0, H.one i)]) := by rw [LC_append]; rfl
    have e4 : ∀ B, LC B ++ [(⟨un (H.one i), 0⟩ : S60)] = LC (B ++ [(H.one i, 0)]) := fun B => by rw [LC_append]; rfl
    have hr : List.range' i (d + 1) = i :: List.range' (i + 1) d := List.range'_succ
    rw [hypercuberef03_turned.l0, if_pos (by omega), setOne i k hi24 (by omega), Option.bind_some, hasU _ i k hi24 (by omega), Option.bind_some, hasU _ i k hi24 (by omega), hr, List.flatMap_cons]
    cases h1 : tb c.1 i
    · rw [if_neg (by simp), Option.bind_some]
      cases h2 : tb c.2 i
      · rw [if_neg (by simp), e2, turn_l0 c d k (i + 1) A (by omega) (by omega) (by omega)]
        simp [turnD, h1, h2]
      · rw [if_pos rfl, if_pos (by rw [LC_len]; omega), e2, e4, turn_l0 c d k (i + 1) _ (by omega) (by omega) (by rw [List.length_append, List.length_singleton]; omega)]
        simp [turnD, h1, h2]
    · rw [if_pos rfl, if_pos (by rw [LC_len]; omega), Option.bind_some, e3, Option.bind_some]
      cases h2 : tb c.2 i
      · rw [if_neg (by simp), e2, turn_l0 c d k (i + 1) _ (by omega) (by omega) (by rw [List.length_append, List.length_singleton]; omega)]
        simp [turnD, h1, h2]
      · rw [if_pos rfl, if_pos (by rw [LC_len, List.length_append, List.length_singleton]; omega), e2, e4, turn_l0 c d k (i + 1) _ (by omega) (by omega) (by rw [List.length_append, List.length_append, List.length_singleton, List.length_singleton]; omega)]
        simp [turnD, h1, h2]
theorem turnedL (c : C) (k : Nat) (hk : 110 ≤ k) : hypercuberef03_turned.f k (un c.1) (un c.2) = some (LC (least (opps c)).1) := by
  have h := turn_l0 c 24 k 0 [] rfl (by omega) (by simp)
  unfold hypercuberef03_turned.f
  rw [← turn_least]
  unfold turnL
  rw [List.range_eq_range']
  rw [List.nil_append] at h
  exact h
/-! ### Meeting -/
theorem meet3_l1 (f g : List C) (hf : f.all ok = true) (hg : g.all ok = true) (i : Nat) (hi : i < f.length) (k : Nat) (hk : 300 ≤ k) (hl : f.length ≤ 1000000) (hlg : g.length ≤ 1000000) : ∀ (d j : Nat) (A : List C), j + d = g.length → A.length + d ≤ 1000000 →
    hypercuberef03_Meet.l1 (k + d + 1) (LC f) (LC g) (LC A) (i : Int) (j : Int) = hypercuberef03_Meet.l0 k (LC f) (LC g) (LC (A ++ (g.drop j).map (H.meet f[i]))) ((i + 1 : Nat) : Int)
  | 0, j, A, hj, _ => by
    have e2 : wrap64 ((i : Int) + 1) = ((i + 1 : Nat) : Int) := by
      unfold wrap64
      omega
    rw [hypercuberef03_Meet.l1, if_neg (by rw [LC_len]; omega), e2, List.drop_eq_nil_of_le (by omega), List.map_nil, List.append_nil]
  | d + 1, j, A, hj, hA => by
    have hjl : j < g.length := by omega
    have e2 : wrap64 ((j : Int) + 1) = ((j + 1 : Nat) : Int) := by
      unfold wrap64
      omega
    have hm : hypercuberef02_Meet.f (k + (d + 1)) (ofC24 f[i]).f0 (ofC24 f[i]).f1 (ofC24 g[j]).f0 (ofC24 g[j]).f1 = some (un (H.meet f[i] g[j]).1, un (H.meet f[i] g[j]).2) := refmeet f[i] g[j] _ (List.all_eq_true.1 hf _ (List.getElem_mem _)) (List.all_eq_true.1 hg _ (List.getElem_mem _)) (by omega)
    have e3 : LC A ++ [(⟨un (H.meet f[i] g[j]).1, un (H.meet f[i] g[j]).2⟩ : S60)] = LC (A ++ [H.meet f[i] g[j]]) := by rw [LC_append]; rfl
    rw [hypercuberef03_Meet.l1, if_pos (by rw [LC_len]; omega), if_pos (by omega), if_pos (by rw [LC_len]; omega), if_pos (by omega), rdC f i hi, rdC g j hjl, hm, Option.bind_some, if_pos (by rw [LC_len]; omega), e2, e3,
      show k + (d + 1) = k + d + 1 by omega, meet3_l1 f g hf hg i hi k hk hl hlg d (j + 1) _ (by omega) (by rw [List.length_append, List.length_singleton]; omega), List.drop_eq_getElem_cons hjl, List.map_cons, List.append_assoc]
    rfl
theorem meet3_l0 (f g : List C) (hf : f.all ok = true) (hg : g.all ok = true) (hl : f.length ≤ 1000000) (hlg : g.length ≤ 1000000) : ∀ (d k i : Nat) (A : List C), i + d = f.length → d * (g.length + 2) + 301 ≤ k → A.length + d * g.length ≤ 1000000 →
    hypercuberef03_Meet.l0 k (LC f) (LC g) (LC A) (i : Int) = some (LC (least (A ++ meets (f.drop i) g)).1, (least (A ++ meets (f.drop i) g)).2)
  | d, 0, _, _, _, hk, _ => absurd hk (by omega)
  | 0, k + 1, i, A, hi, _, hA => by
    rw [hypercuberef03_Meet.l0, if_neg (by rw [LC_len]; omega), refleastL A (by omega), Option.bind_some, List.drop_eq_nil_of_le (by omega)]
    simp [meets]
  | d + 1, k + 1, i, A, hi, hk, hA => by
    have hil : i < f.length := by omega
    rw [Nat.add_mul, Nat.one_mul] at hk hA
    obtain ⟨k', rfl⟩ : ∃ k', k = k' + g.length + 1 := ⟨k - g.length - 1, by omega⟩
    have h1 : hypercuberef03_Meet.l1 (k' + g.length + 1) (LC f) (LC g) (LC A) (i : Int) 0 = _ := meet3_l1 f g hf hg i hil k' (by omega) hl hlg g.length 0 A (by omega) (by omega)
    rw [hypercuberef03_Meet.l0, if_pos (by rw [LC_len]; omega), h1, List.drop_zero,
      meet3_l0 f g hf hg hl hlg d k' (i + 1) _ (by omega) (by omega) (by rw [List.length_append, List.length_map]; omega), List.drop_eq_getElem_cons hil, List.append_assoc]
    rfl
theorem ref3meet (f g : List C) (k : Nat) (hl : f.length ≤ 100) (hlg : g.length ≤ 100) (hk : 12000 ≤ k) : hypercuberef03_Meet.f k (LC f) (LC g) = some (LC (fMeet f g).1, (fMeet f g).2) := by
  obtain ⟨k, rfl⟩ : ∃ m, k = m + 1 := ⟨k - 1, by omega⟩
  have hb : f.length * g.length ≤ 100 * 100 := Nat.mul_le_mul hl hlg
  have hb2 : f.length * (g.length + 2) ≤ 100 * 102 := Nat.mul_le_mul hl (by omega)
  unfold hypercuberef03_Meet.f fMeet
  rw [ref3right f _ (by omega) (by omega), Option.bind_some]
  cases h1 : H.right f
  · rw [if_neg (by simp), hypercuberef03_Meet.j0, if_pos rfl, if_neg (by simp)]
    rfl
  · rw [if_pos rfl, ref3right g _ (by omega) (by omega), Option.bind_some]
    cases h2 : H.right g
    · rw [hypercuberef03_Meet.j0, if_pos (by rfl), if_neg (by simp)]
      rfl
    · have h := meet3_l0 f g (ok_of_right h1) (ok_of_right h2) (by omega) (by omega) f.length k 0 [] (by omega) (by omega) (by simp; omega)
      rw [hypercuberef03_Meet.j0, if_neg (by simp), if_pos ⟨rfl, rfl⟩]
      exact h
/-! ### The opposite -/
theorem not3_l0 (f : List C) (hl : f.length ≤ 100) : ∀ (d k i : Nat) (b : List C), i + d = f.length → 2 * d + 13000 ≤ k → H.right b = true → hypercuberef03_Not.l0 k (LC f) (LC b) 0 (i : Int) = some (LC (foldE [] notStep (f.drop i) b).1, (foldE [] notStep (f.drop i) b).2)
  | d, 0, _, _, _, hk, _ => absurd hk (by omega)
  | 0, k + 1, i, b, hi, hk, _ => by
    obtain ⟨k, rfl⟩ : ∃ m, k = m + 1 := ⟨k - 1, by omega⟩
    rw [hypercuberef03_Not.l0, if_neg (by rw [LC_len]; omega), hypercuberef03_Not.j1, if_neg (by simp), List.drop_eq_nil_of_le (by omega)]
    rfl
  | d + 1, k + 1, i, b, hi, hk, hb => by
    have hil : i < f.length := by omega
    obtain ⟨k, rfl⟩ : ∃ m, k = m + 1 := ⟨k - 1, by omega⟩
    have e2 : wrap64 ((i : Int) + 1) = ((i + 1 : Nat) : Int) := by
      unfold wrap64
      omega
    have ht : hypercuberef03_turned.f k (ofC24 f[i]).f0 (ofC24 f[i]).f1 = some (LC (least (opps f[i])).1) := turnedL f[i] k (by omega)
    have hrk := right_least (opps_told f[i])
    have hm : fMeet b (least (opps f[i])).1 = notStep b f[i] := by
      unfold fMeet
      rw [if_pos ⟨hb, hrk⟩, notStep_eq]
    have hbl := len_of_right hb
    have hkl := least_len (opps f[i])
    rw [hypercuberef03_Not.l0, if_pos (by rw [LC_len]; omega), hypercuberef03_Not.j1, if_pos (by rfl), if_pos (by omega), if_pos (by rw [LC_len]; omega), rdC f i hil, ht, Option.bind_some, ref3meet b _ k (by omega) (by omega) (by omega), hm, Option.bind_some, e2, List.drop_eq_getElem_cons hil, foldE]
    by_cases h0 : (notStep b f[i]).2 = 0
    · rw [if_pos h0, h0]
      have hr : H.right (notStep b f[i]).1 = true := by
        rw [notStep_eq] at h0 ⊢
        exact right_least h0
      exact not3_l0 f hl d k (i + 1) _ (by omega) (by omega) hr
    · have hn : (notStep b f[i]).1 = [] := by
        rw [notStep_eq] at h0 ⊢
        exact least_none h0
      obtain ⟨k, rfl⟩ : ∃ m, k = m + 2 := ⟨k - 2, by omega⟩
      rw [if_neg h0, hn, hypercuberef03_Not.l0]
      have hj : hypercuberef03_Not.j1 (k + 1) (LC f) (LC []) (notStep b f[i]).2 ((i + 1 : Nat) : Int) false = some (LC [], (notStep b f[i]).2) := by
        rw [hypercuberef03_Not.j1, if_neg (by simp)]
      by_cases hlt : ((i + 1 : Nat) : Int) < ((LC f).length : Int)
      · rw [if_pos hlt, show ((notStep b f[i]).2 == 0) = false by simpa using h0]
        exact hj
      · rw [if_neg hlt]
        exact hj
theorem refnot (f : List C) (k : Nat) (hl : f.length ≤ 100) (hk : 14000 ≤ k) : hypercuberef03_Not.f k (LC f) = some (LC (fNot f).1, (fNot f).2) := by
  unfold hypercuberef03_Not.f fNot
  rw [ref3right f _ (by omega) (by omega), Option.bind_some]
  cases h1 : H.right f
  · rw [if_neg (by simp), if_neg (by simp)]
    rfl
  · rw [if_pos rfl, if_pos rfl]
    have h := not3_l0 f hl f.length k 0 [top] (by omega) (by omega) right_top
    rw [List.drop_zero] at h
    exact h
theorem refjoin (f g : List C) (k : Nat) (hl : f.length ≤ 100) (hlg : g.length ≤ 100) (hk : 100 ≤ k) : hypercuberef03_Join.f k (LC f) (LC g) = some (LC (fJoin f g).1, (fJoin f g).2) := by
  unfold hypercuberef03_Join.f fJoin
  rw [ref3right f _ (by omega) (by omega), Option.bind_some]
  cases h1 : H.right f
  · rw [if_neg (by simp), if_neg (by simp)]
    rfl
  · rw [if_pos rfl, ref3right g _ (by omega) (by omega), Option.bind_some]
    cases h2 : H.right g
    · rw [if_neg (by simp), if_neg (by simp)]
      rfl
    · rw [if_pos rfl, if_pos ⟨rfl, rfl⟩, Option.bind_some, if_pos (by rw [LC_len]; simp; omega), List.nil_append, Option.bind_some, if_pos (by rw [LC_len, LC_len]; omega), ← LC_append, refleastL _ (by rw [List.length_append]; omega), Option.bind_some]
      rfl
theorem same3_l0 (b : Bool) (n : Nat) (hn : n ≤ 1000000) : ∀ (d k i : Nat) (x : List S60), x.length = n → i + d = n → d < k → ∃ y, hypercubelaw03_same.l0 k x b (n : Int) (i : Int) = some (b, y)
  | d, 0, _, _, _, _, hk => absurd hk (by omega)
  | 0, k + 1, i, x, hx, hi, _ => ⟨x, by rw [hypercubelaw03_same.l0, if_neg (by omega)]⟩
  | d + 1, k + 1, i, x, hx, hi, hk => by
    have e2 : wrap64 ((i : Int) + 1) = ((i + 1 : Nat) : Int) := by
      unfold wrap64
      omega
    rw [hypercubelaw03_same.l0, if_pos (by omega), if_pos (by omega), if_pos (by omega), e2]
    exact same3_l0 b n hn d k (i + 1) _ (by rw [List.length_set]; exact hx) (by omega) (by omega)
theorem same3 (a : List C) (e : Int) (k : Nat) (hl : a.length ≤ 1000) (hk : 2000 ≤ k) : ∃ y, hypercubelaw03_same.f k (LC a) e (LC a) e = some (true, y) := by
  obtain ⟨k, rfl⟩ : ∃ m, k = m + 1 := ⟨k - 1, by omega⟩
  obtain ⟨y, hy⟩ := same3_l0 true a.length (by omega) a.length k 0 (LC a) (LC_len a) (by omega) (by omega)
  refine ⟨y, ?_⟩
  unfold hypercubelaw03_same.f
  rw [same a _ (by omega) (by omega), Option.bind_some, if_pos rfl, beq_self_eq_true, hypercubelaw03_same.j0, LC_len]
  exact hy
theorem mand (s : Nat) (hs : s < 4294967296) : bits .and .u32 (s : Int) 16777215 = ((s % 16777216 : Nat) : Int) := by
  have := u32_and_nat s 16777215 hs (by omega)
  rw [show ((16777215 : Nat) : Int) = 16777215 from rfl] at this
  rw [this, show (16777215 : Nat) = 2 ^ 24 - 1 from rfl, Nat.and_two_pow_sub_one_eq_mod]
theorem shl64_one (j : Nat) (h : j ≤ 24) : shl .u64 1 (j : Int) = ((2 ^ j : Nat) : Int) := by
  have hp : 2 ^ j ≤ 2 ^ 24 := Nat.pow_le_pow_right (by omega) h
  have e : min j 64 = j := by omega
  unfold shl
  rw [Int.toNat_natCast, show IntKind.u64.bits = 64 from rfl, e, Int.one_mul, show ((2 : Int) ^ j) = ((2 ^ j : Nat) : Int) by rw [Int.natCast_pow]; rfl]
  exact u64w _ (by omega)
theorem shl64_nat (a j : Nat) (h : a * 2 ^ j < 18446744073709551616) (hj : j ≤ 64) : shl .u64 (a : Int) (j : Int) = ((a * 2 ^ j : Nat) : Int) := by
  have e : min j 64 = j := by omega
  unfold shl
  rw [Int.toNat_natCast, show IntKind.u64.bits = 64 from rfl, e, show ((2 : Int) ^ j) = ((2 ^ j : Nat) : Int) by rw [Int.natCast_pow]; rfl, ← Int.natCast_mul]
  exact u64w _ h
theorem pow_le24 {j : Nat} (h : j ≤ 24) : 2 ^ j ≤ 16777216 := Nat.pow_le_pow_right (n := 2) (by omega) h

theorem below (i : Nat) : mask_below.f (i : Int) = some ((2 ^ min i 24 - 1 : Nat) : Int) := by
  have hp := pow_le24 (Nat.min_le_right i 24)
  have h0 := Nat.two_pow_pos (min i 24)
  have e1 : mn (i : Int) 24 = ((min i 24 : Nat) : Int) := by
    unfold mn
    split <;> omega
  unfold mask_below.f
  rw [e1, u64w _ (by omega), if_pos (by omega), shl64_one _ (Nat.min_le_right i 24)]
  rw [show ((2 ^ min i 24 : Nat) : Int) - 1 = ((2 ^ min i 24 - 1 : Nat) : Int) by omega, u64w _ (by omega), Int.emod_eq_of_lt (by omega) (by omega)]
theorem and_below (m j : Nat) (hm : m < 4294967296) (hj : j ≤ 24) : bits .and .u32 (m : Int) ((2 ^ j - 1 : Nat) : Int) = ((m % 2 ^ j : Nat) : Int) := by
  have hp := pow_le24 hj
  rw [u32_and_nat _ _ hm (by omega), Nat.and_two_pow_sub_one_eq_mod]
theorem testBit_not32 (x : Nat) (h : x < 4294967296) (i : Nat) : (4294967295 - x).testBit i = (decide (i < 32) && !x.testBit i) := by
  have := Nat.testBit_two_pow_sub_succ (n := 32) (show x < 2 ^ 32 from h) i
  rw [show (2 : Nat) ^ 32 - (x + 1) = 4294967295 - x by omega] at this
  exact this
theorem testBit_lt32 {m i : Nat} (hm : m < 4294967296) (h : m.testBit i = true) : i < 32 := by
  rcases Nat.lt_or_ge i 32 with h1 | h1
  · exact h1
  · rw [Nat.testBit_lt_two_pow (Nat.lt_of_lt_of_le (show m < 2 ^ 32 from hm) (Nat.pow_le_pow_right (by omega) h1))] at h
    cases h
theorem andNot_below (m j : Nat) (hm : m < 4294967296) (hj : j ≤ 24) : bits .andNot .u32 (m : Int) ((2 ^ j - 1 : Nat) : Int) = ((2 ^ j * (m / 2 ^ j) : Nat) : Int) := by
  have hp := pow_le24 hj
  rw [u32_andNot_nat _ _ hm (by omega)]
  congr 1
  apply Nat.eq_of_testBit_eq
  intro i
  rw [Nat.testBit_and, testBit_not32 _ (by omega), high_testBit, Nat.testBit_two_pow_sub_one, Bool.eq_iff_iff]
  simp only [Bool.and_eq_true, decide_eq_true_eq, Bool.not_eq_true', decide_eq_false_iff_not]
  constructor
  · rintro ⟨h1, h2, h3⟩; exact ⟨by omega, h1⟩
  · rintro ⟨h1, h2⟩; exact ⟨h2, testBit_lt32 hm h2, by omega⟩

theorem mlift (s k f b : Nat) (hs : s < 4294967296) (hf : f < 9223372036854775808) (hb : b < 9223372036854775808) (hk : 1 ≤ k) :
    mask_Lift.f k (s : Int) (f : Int) (b : Int) = some (if movable s f b = true then (((lifted s f b : Nat) : Int), 0) else (0, 10)) := by
  have hm : s % 16777216 < 16777216 := Nat.mod_lt _ (by omega)
  have hmv : movable s f b = movable (s % 16777216) f b := by unfold movable; rw [dimsN_mod]
  have hlf : lifted s f b = lifted (s % 16777216) f b := by unfold lifted; rw [dimsN_mod]
  rw [hmv, hlf]
  obtain ⟨k', rfl⟩ : ∃ k', k = k' + 1 := ⟨k - 1, by omega⟩
  unfold mask_Lift.f
  rw [if_neg (by omega), show decide ((b : Int) < 0) = false from decide_eq_false (by omega), mask_Lift.j0, if_neg Bool.false_ne_true, below, mand s hs]
  simp only [Option.bind_some]
  generalize s % 16777216 = m at *
  rw [andNot_below m _ (by omega) (Nat.min_le_right ..), and_below m _ (by omega) (Nat.min_le_right ..)]
  have hhi : 2 ^ min f 24 * (m / 2 ^ min f 24) ≤ m := Nat.mul_div_le ..
  have hlo : m % 2 ^ min f 24 ≤ m := Nat.mod_le ..
  rw [u64w _ (by omega)]
  by_cases hz : 2 ^ min f 24 * (m / 2 ^ min f 24) = 0
  · have hmv2 : movable m f b = true := movable_iff.2 fun x hx hbit => .inl ((high_zero hm).1 hz x hx hbit)
    have e := lift_bits (f := f) (b := b) hm
    rw [hz, Nat.zero_mul, Nat.or_zero] at e
    rw [if_pos (by omega), if_pos hmv2, e]
  · rw [if_neg (by omega)]
    by_cases h24 : b ≥ 24
    · have hmv2 : ¬ movable m f b = true := fun h => hz ((high_zero hm).2 fun x hx hbit => by
        have := movable_iff.1 h x hx hbit
        omega)
      rw [if_pos (by omega), if_neg hmv2]
    · have hp : 2 ^ b ≤ 16777216 := pow_le24 (by omega)
      have hmul : 2 ^ min f 24 * (m / 2 ^ min f 24) * 2 ^ b ≤ 16777216 * 16777216 := Nat.mul_le_mul (by omega) hp
      rw [if_neg (by omega), u64w b (by omega), if_pos (by omega), shl64_nat _ _ (by omega) (by omega)]
      by_cases hmv2 : movable m f b = true
      · have hs2 := lift_small hm hmv2
        rw [if_neg (by omega), if_pos hmv2]
        rw [Int.emod_eq_of_lt (by omega) (by omega), u32_or_nat _ _ (by omega) (by omega), lift_bits hm]
      · have hs2 := lift_none (m := m) (f := f) (b := b) (by simpa using hmv2)
        rw [if_pos (by omega), if_neg hmv2]
theorem mlift_neg (k : Nat) (s f b : Int) (h : f < 0 ∨ b < 0) (hk : 1 ≤ k) : mask_Lift.f k s f b = some (0, 2) := by
  obtain ⟨k', rfl⟩ : ∃ k', k = k' + 1 := ⟨k - 1, by omega⟩
  unfold mask_Lift.f
  by_cases hf : f < 0
  · rw [if_pos hf, mask_Lift.j0, if_pos rfl]
  · rw [if_neg hf, show decide (b < 0) = true from decide_eq_true (by omega), mask_Lift.j0, if_pos rfl]
theorem lift_l0 (f b : Nat) (hf : f < 9223372036854775808) (hbb : b < 9223372036854775808) : ∀ (post pre : List Nat) (k : Nat), (pre ++ post).length ≤ 24 → (∀ x ∈ pre ++ post, x < 24) → post.length + 71 ≤ k →
    hypercuberef01_Lift.l0 k (f : Int) (b : Int) (L (pre ++ post)) (pre.length : Int) =
      some (if post.all (fun x => decide (x < f ∨ x + b < 24)) = true then (((sumPow (pre ++ post.map (moved f b)) : Nat) : Int), 0) else (0, 10))
  | _, _, 0, _, _, hk => absurd hk (by omega)
  | [], pre, k + 1, hl, hb, hk => by
    rw [List.append_nil] at hl hb
    unfold hypercuberef01_Lift.l0
    rw [List.append_nil, if_neg (by rw [L_len]; omega), set _ k (by omega) hb (by simp at hk; omega)]
    simp
  | a :: post, pre, k + 1, hl, hb, hk => by
    have hl' := hl
    rw [List.length_append, List.length_cons] at hl'
    rw [List.length_cons] at hk
    have ha : a < 24 := hb a (by simp)
    have e2 : ∀ v, wrap64 ((pre.length : Int) + 1) = (((pre ++ [v]).length : Nat) : Int) := by
      intro v
      rw [wrap64_small (by omega) (by omega), List.length_append, List.length_singleton]
      omega
    have em : (a :: post).map (moved f b) = moved f b a :: post.map (moved f b) := rfl
    unfold hypercuberef01_Lift.l0
    rw [if_pos (by rw [L_len, List.length_append, List.length_cons]; omega), if_pos (by omega), rd_mid, em, List.all_cons]
    by_cases h : a < f
    · have ih := lift_l0 f b hf hbb post (pre ++ [a]) k (by simp; omega) (by intro x hx; exact hb x (by simpa using hx)) (by omega)
      simp only [List.append_assoc, List.singleton_append] at ih
      have e4 : moved f b a = a := by unfold moved; rw [if_pos h]
      rw [if_pos (by omega), e2 a, ih, e4]
      simp [h]
    · have e5 : wrap64 (24 - (a : Int)) = 24 - (a : Int) := wrap64_small (by omega) (by omega)
      rw [if_neg (by omega), e5]
      by_cases h2 : a + b < 24
      · have e6 : wrap64 ((a : Int) + (b : Int)) = ((moved f b a : Nat) : Int) := by
          rw [wrap64_small (by omega) (by omega)]
          unfold moved
          rw [if_neg h]
          omega
        have hm : moved f b a < 24 := by unfold moved; rw [if_neg h]; exact h2
        have ih := lift_l0 f b hf hbb post (pre ++ [moved f b a]) k (by simp; omega) (by
          intro x hx
          simp at hx
          rcases hx with h | h | h
          · exact hb x (by simp [h])
          · omega
          · exact hb x (by simp [h])) (by omega)
        simp only [List.append_assoc, List.singleton_append] at ih
        rw [if_neg (by omega), e6, set_mid, e2 (moved f b a), ih]
        simp [h2]
      · rw [if_pos (by omega)]
        simp [h, h2]
theorem lift_l0' (f b : Nat) (hf : f < 9223372036854775808) (hbb : b < 9223372036854775808) (D : List Nat) (k : Nat) (h1 : D.length ≤ 24) (h2 : ∀ x ∈ D, x < 24) (hk : 95 ≤ k) :
    hypercuberef01_Lift.l0 k (f : Int) (b : Int) (L D) 0 = some (if D.all (fun x => decide (x < f ∨ x + b < 24)) = true then (((sumPow (D.map (moved f b)) : Nat) : Int), 0) else (0, 10)) :=
  lift_l0 f b hf hbb D [] k h1 h2 (by omega)
theorem reflift (s k f b : Nat) (hs : s < 4294967296) (hf : f < 9223372036854775808) (hbb : b < 9223372036854775808) (hk : 100 ≤ k) :
    hypercuberef01_Lift.f k (s : Int) (f : Int) (b : Int) = some (if movable s f b = true then (((lifted s f b : Nat) : Int), 0) else (0, 10)) := by
  have hlen := dimsN_len s
  obtain ⟨k', rfl⟩ : ∃ k', k = k' + 1 := ⟨k - 1, by omega⟩
  unfold hypercuberef01_Lift.f
  rw [if_neg (by omega), show decide ((b : Int) < 0) = false from decide_eq_false (by omega)]
  rw [hypercuberef01_Lift.j0, if_neg Bool.false_ne_true, list s k' hs (by omega)]
  simp only [Option.bind_some]
  rw [lift_l0' f b hf hbb (dimsN s) k' hlen (fun x hx => (mem_dimsN.1 hx).1) (by omega)]
  rfl
theorem reflift_neg (k : Nat) (s f b : Int) (h : f < 0 ∨ b < 0) (hk : 100 ≤ k) : hypercuberef01_Lift.f k s f b = some (0, 2) := by
  obtain ⟨k', rfl⟩ : ∃ k', k = k' + 1 := ⟨k - 1, by omega⟩
  unfold hypercuberef01_Lift.f
  by_cases hf : f < 0
  · rw [if_pos hf]
    rw [hypercuberef01_Lift.j0, if_pos rfl]
  · rw [if_neg hf, show decide (b < 0) = true from decide_eq_true (by omega)]
    rw [hypercuberef01_Lift.j0, if_pos rfl]
theorem hasT (x : UInt32) (k i : Nat) (hk : 41 ≤ k) (hi : i < 24) : hypercuberef01_Has.f k (un x) (i : Int) = some (tb x i) := by
  have h := has x.toNat k (i : Int) (by have := x.toNat_lt; omega) hk
  rw [decide_eq_true (by omega), Bool.true_and, Int.toNat_natCast] at h
  exact h
theorem rdims_l1 (f : List C) (hl : f.length ≤ 10000) (i : Nat) (hi : i < 24) (pre : List Nat) (hpre : pre.length ≤ i) (R : Option Int) (K0 : Nat) (hK : 50 ≤ K0) : ∀ (d k j : Nat) (b : Bool), j + d = f.length → K0 + d < k →
    (∀ k', K0 ≤ k' → hypercuberef03_Dims.l0 k' (LC f) (L (if (b || (f.drop j).any fun c => tb c.1 i || tb c.2 i) = true then pre ++ [i] else pre)) ((i + 1 : Nat) : Int) = R) → hypercuberef03_Dims.l1 k (LC f) (L pre) (i : Int) b (j : Int) = R
  | d, 0, _, _, _, hk, _ => absurd hk (by omega)
  | 0, k + 1, j, b, hj, hk, h => by
    have e2 : wrap64 ((i : Int) + 1) = ((i + 1 : Nat) : Int) := by
      unfold wrap64
      omega
    have h2 := h k (by omega)
    rw [List.drop_eq_nil_of_le (by omega), List.any_nil, Bool.or_false] at h2
    rw [hypercuberef03_Dims.l1, if_neg (by rw [LC_len]; omega), e2]
    cases b
    · rw [if_neg Bool.false_ne_true]
      rw [if_neg Bool.false_ne_true] at h2
      exact h2
    · rw [if_pos rfl, if_pos (by rw [L_len]; omega)]
      rw [if_pos rfl] at h2
      rw [show L pre ++ [(i : Int)] = L (pre ++ [i]) by simp [L]]
      exact h2
  | d + 1, k + 1, j, b, hj, hk, h => by
    have hjl : j < f.length := by omega
    have e2 : wrap64 ((j : Int) + 1) = ((j + 1 : Nat) : Int) := by
      unfold wrap64
      omega
    have ih := fun b' h' => rdims_l1 f hl i hi pre hpre R K0 hK d k (j + 1) b' (by omega) (by omega) h'
    rw [hypercuberef03_Dims.l1, if_pos (by rw [LC_len]; omega), e2]
    rw [List.drop_eq_getElem_cons hjl] at h
    cases b
    · rw [if_neg Bool.false_ne_true, if_pos (by omega), rdC f j hjl]
      show (hypercuberef01_Has.f k (un f[j].1) (i : Int)).bind _ = _
      rw [hasT _ k i (by omega) hi, Option.bind_some]
      by_cases h1 : tb f[j].1 i = true
      · rw [if_pos h1]
        refine ih true fun k' hk' => ?_
        have h3 := h k' hk'
        rw [List.any_cons, h1, Bool.true_or, Bool.true_or, Bool.or_true] at h3
        rw [Bool.true_or]
        exact h3
      · rw [if_neg h1]
        show (hypercuberef01_Has.f k (un f[j].2) (i : Int)).bind _ = _
        rw [hasT _ k i (by omega) hi, Option.bind_some]
        refine ih _ fun k' hk' => ?_
        have h3 := h k' hk'
        rw [List.any_cons, show tb f[j].1 i = false by simpa using h1, Bool.false_or, Bool.false_or] at h3
        exact h3
    · rw [if_pos rfl]
      refine ih true fun k' hk' => ?_
      have h3 := h k' hk'
      rw [Bool.true_or] at h3 ⊢
      exact h3
theorem rdims_l0 (f : List C) (hl : f.length ≤ 10000) (R : Option Int) (h : ∀ k', 90 ≤ k' → hypercuberef01_Set.f k' (L ((List.range 24).filter fun i => f.any fun c => tb c.1 i || tb c.2 i)) = R) : ∀ (d k i : Nat), i + d = 24 → 100 + d * (f.length + 5) < k →
    hypercuberef03_Dims.l0 k (LC f) (L ((List.range i).filter fun i => f.any fun c => tb c.1 i || tb c.2 i)) (i : Int) = R
  | d, 0, _, _, hk => absurd hk (by omega)
  | 0, k + 1, i, hi, hk => by
    obtain rfl : i = 24 := by omega
    rw [hypercuberef03_Dims.l0, if_neg (by omega), h k (by omega)]
    cases R <;> rfl
  | d + 1, k + 1, i, hi, hk => by
    have hm : (d + 1) * (f.length + 5) = d * (f.length + 5) + (f.length + 5) := Nat.succ_mul ..
    have hlen : ((List.range i).filter fun i => f.any fun c => tb c.1 i || tb c.2 i).length ≤ i := by
      have := List.length_filter_le (fun i => f.any fun c => tb c.1 i || tb c.2 i) (List.range i)
      rwa [List.length_range] at this
    rw [hypercuberef03_Dims.l0, if_pos (by omega)]
    refine rdims_l1 f hl i (by omega) _ hlen R (101 + d * (f.length + 5)) (by omega) f.length k 0 false (by omega) (by omega) fun k' hk' => ?_
    have ih := rdims_l0 f hl R h d k' (i + 1) (by omega) (by omega)
    rw [List.range_succ, List.filter_append] at ih
    rw [List.drop_zero, Bool.false_or]
    by_cases hb : (f.any fun c => tb c.1 i || tb c.2 i) = true
    · rw [if_pos hb]
      rw [show List.filter (fun i => f.any fun c => tb c.1 i || tb c.2 i) [i] = [i] by rw [List.filter_cons, if_pos hb]; rfl] at ih
      exact ih
    · rw [if_neg hb]
      rw [show List.filter (fun i => f.any fun c => tb c.1 i || tb c.2 i) [i] = [] by rw [List.filter_cons, if_neg hb]; rfl, List.append_nil] at ih
      exact ih
theorem refdims (f : List C) (k : Nat) (hl : f.length ≤ 10000) (hk : 300 + 24 * f.length < k) : hypercuberef03_Dims.f k (LC f) = some (un (dimsF f)) := by
  unfold hypercuberef03_Dims.f
  have hr : r1 (dimsF f) = true := r1_iff.2 fun i hi => by
    rw [tb_dimsF, Bool.and_eq_true, decide_eq_true_iff] at hi
    exact hi.1
  have hlt : (dimsF f).toNat < 16777216 := of_decide_eq_true hr
  have e : ((List.range 24).filter fun i => f.any fun c => tb c.1 i || tb c.2 i) = dimsN (dimsF f).toNat := by
    unfold dimsN
    refine List.filter_congr fun i hi => ?_
    have h := tb_dimsF f i
    rw [decide_eq_true (List.mem_range.1 hi), Bool.true_and] at h
    exact h.symm
  refine rdims_l0 f hl _ (fun k' hk' => ?_) 24 k 0 (by omega) (by omega)
  rw [e, set _ k' (by have := dimsN_len (dimsF f).toNat; omega) (fun x hx => (mem_dimsN.1 hx).1) (by have := dimsN_len (dimsF f).toNat; omega), sumPow_dimsN, Nat.mod_eq_of_lt hlt]
  rfl
theorem dims_l0 (l : List C) (hl : l.length ≤ 1000000) : ∀ (d k i : Nat) (s : UInt32), i + d = l.length → d < k → formula_Dims.l0 k (un s) (LC l) (l.length : Int) (i : Int) = some (un (((l.drop i).foldl (fun s c => s ||| (c.1 ||| c.2)) s) &&& M24))
  | d, 0, _, _, _, hk => absurd hk (by omega)
  | 0, k + 1, i, s, hi, _ => by
    rw [formula_Dims.l0, if_neg (by omega), without24, Option.bind_some, List.drop_eq_nil_of_le (by omega)]
    unfold wo
    rw [if_neg (by decide)]
    rfl
  | d + 1, k + 1, i, s, hi, hk => by
    have hil : i < l.length := by omega
    have e2 : wrap64 ((i : Int) + 1) = ((i + 1 : Nat) : Int) := by
      unfold wrap64
      omega
    have e3 : Go.bits .or .u32 (un s) (Go.bits .or .u32 (ofC24 l[i]).f0 (ofC24 l[i]).f1) = un (s ||| (l[i].1 ||| l[i].2)) := by
      unfold ofC24
      rw [un_or, un_or]
    rw [formula_Dims.l0, if_pos (by omega), if_pos (by omega), if_pos (by rw [LC_len]; omega), rdC l i hil, e3, e2, dims_l0 l hl d k (i + 1) _ (by omega) (by omega), List.drop_eq_getElem_cons hil, List.foldl_cons]
theorem dimsL (l : List C) (k : Nat) (hl : l.length ≤ 1000000) (hk : l.length < k) : formula_Dims.f k (LC l) = some (un (dimsF l)) := by
  unfold formula_Dims.f
  rw [LC_len]
  exact dims_l0 l hl l.length k 0 0 (by omega) hk
theorem refwo (x : UInt32) {i : Int} (hd : dimI i = true) (k : Nat) (hk : 95 ≤ k) : hypercuberef01_Without.f k (un x) i = some (un (wo x i)) := by
  have h24 := of_decide_eq_true hd
  have h := without x.toNat k i x.toNat_lt hk
  have e : sumPow ((dimsN x.toNat).filter fun y : Nat => decide ((y : Int) ≠ i)) = (wo x i).toNat := by
    apply Nat.eq_of_testBit_eq
    intro j
    have hw := tb_wo hd x j
    unfold tb at hw
    rw [hw, sumPow_testBit (nodup_of_asc ((dimsN_asc _).filter _)), Bool.eq_iff_iff]
    simp only [decide_eq_true_eq, Bool.and_eq_true, List.mem_filter, mem_dimsN, Bool.not_eq_true', decide_eq_false_iff_not]
    constructor
    · rintro ⟨⟨h1, h2⟩, h3⟩
      exact ⟨⟨h2, h1⟩, by omega⟩
    · rintro ⟨⟨h2, h1⟩, h3⟩
      exact ⟨⟨h1, h2⟩, by omega⟩
  rw [e] at h
  exact h
theorem refhasI (x : UInt32) {i : Int} (hd : dimI i = true) (k : Nat) (hk : 41 ≤ k) : hypercuberef01_Has.f k (un x) i = some (hasI x i) := by
  have h := has x.toNat k i x.toNat_lt hk
  rw [decide_eq_true (of_decide_eq_true hd), Bool.true_and] at h
  rw [hasI_eq hd]
  exact h
theorem putA_right {i : Int} (hd : dimI i = true) {r : List C} {c : C} (h : (putA i r c).2 = 0) : H.right (putA i r c).1 = true := by
  unfold putA at h ⊢
  split at h
  · rename_i hb
    rw [if_pos hb]
    exact right_least h
  · rename_i hb
    rw [if_neg hb]
    exact right_one (woC_ok hd c)
theorem putB_right {i : Int} (hd : dimI i = true) {r : List C} {c : C} (h : (putB i r c).2 = 0) : H.right (putB i r c).1 = true := by
  unfold putB at h ⊢
  by_cases h1 : (putA i r c).2 = 0
  · rw [if_pos h1] at h ⊢
    by_cases h2 : hasI c.2 i = true
    · rw [if_pos h2] at h ⊢
      by_cases h3 : (H.notF r).2 = 0
      · rw [if_pos h3] at h ⊢
        exact right_least h
      · rw [if_neg h3] at h
        exact absurd h h3
    · rw [if_neg h2] at h ⊢
      exact putA_right hd h1
  · rw [if_neg h1] at h
    exact absurd h h1
theorem foldE_err_nil {f : List C → C → List C × Int} {c : C} {l b : List C} (h : (f b c).2 ≠ 0) : foldE [] f (c :: l) b = ([], (f b c).2) := by
  rw [foldE, if_neg h]
theorem foldE_ok {f : List C → C → List C × Int} {c : C} {l b : List C} (h : (f b c).2 = 0) : foldE [] f (c :: l) b = foldE [] f l (f b c).1 := by
  rw [foldE, if_pos h]
theorem fMeet_right {f g : List C} (hf : H.right f = true) (hg : H.right g = true) : fMeet f g = H.meetF f g := by
  unfold fMeet
  rw [if_pos ⟨hf, hg⟩]
theorem fJoin_right {f g : List C} (hf : H.right f = true) (hg : H.right g = true) : fJoin f g = H.joinF f g := by
  unfold fJoin
  rw [if_pos ⟨hf, hg⟩]
theorem fNot_right {f : List C} (hf : H.right f = true) : fNot f = H.notF f := by
  unfold fNot
  rw [if_pos hf]
theorem rput_j4 (f r b : List C) (i : Int) (hd : dimI i = true) (hb : H.right b = true) (c : C) (rest : List C) (j : Nat) (hj : (j : Int) < 1000) (k : Nat) (hk : 14100 < k)
    (hnext : (putStep i r b c).2 = 0 → hypercuberef03_Put.l0 k (LC f) i (LC r) (LC (putStep i r b c).1) ((j + 1 : Nat) : Int) = some (LC (foldE [] (putStep i r) rest (putStep i r b c).1).1, (foldE [] (putStep i r) rest (putStep i r b c).1).2)) :
    hypercuberef03_Put.j4 (k + 1) (LC f) i (LC r) (LC b) (j : Int) (LC (putB i r c).1) (putB i r c).2 = some (LC (foldE [] (putStep i r) (c :: rest) b).1, (foldE [] (putStep i r) (c :: rest) b).2) := by
  have e2 : wrap64 ((j : Int) + 1) = ((j + 1 : Nat) : Int) := by
    unfold wrap64
    omega
  have hlb := len_of_right hb
  have hlp := putB_len i r c
  rw [hypercuberef03_Put.j4]
  by_cases h : (putB i r c).2 = 0
  · have hs : putStep i r b c = H.joinF b (putB i r c).1 := by
      unfold putStep
      rw [if_pos h]
    rw [if_pos h, refjoin b _ k (by omega) (by omega) (by omega), Option.bind_some, fJoin_right hb (putB_right hd h), ← hs]
    by_cases h2 : (putStep i r b c).2 = 0
    · rw [if_pos h2, e2, foldE_ok h2]
      exact hnext h2
    · rw [if_neg h2, foldE_err_nil h2]
      rfl
  · have hs : putStep i r b c = ([], (putB i r c).2) := by
      unfold putStep
      rw [if_neg h]
    rw [if_neg h, foldE_err_nil (by rw [hs]; exact h), hs]
    rfl
theorem rput_j3 (f r b : List C) (i : Int) (hd : dimI i = true) (hr : H.right r = true) (hb : H.right b = true) (c : C) (rest : List C) (j : Nat) (hj : (j : Int) < 1000) (k : Nat) (hk : 14100 < k) (_h0 : (putA i r c).2 = 0 ∨ hasI c.2 i = false)
    (hnext : (putStep i r b c).2 = 0 → hypercuberef03_Put.l0 k (LC f) i (LC r) (LC (putStep i r b c).1) ((j + 1 : Nat) : Int) = some (LC (foldE [] (putStep i r) rest (putStep i r b c).1).1, (foldE [] (putStep i r) rest (putStep i r b c).1).2)) (t : Bool) (ht : (putA i r c).2 = 0 → t = hasI c.2 i) (ht2 : (putA i r c).2 ≠ 0 → t = false) :
    hypercuberef03_Put.j3 (k + 2) (LC f) i (LC r) (LC b) (j : Int) (LC (putA i r c).1) (putA i r c).2 t = some (LC (foldE [] (putStep i r) (c :: rest) b).1, (foldE [] (putStep i r) (c :: rest) b).2) := by
  have h4 := rput_j4 f r b i hd hb c rest j hj k hk hnext
  have hlr := len_of_right hr
  have hla := putA_len i r c
  rw [hypercuberef03_Put.j3]
  by_cases h : (putA i r c).2 = 0
  · rw [ht h]
    cases h2 : hasI c.2 i
    · have e : putB i r c = putA i r c := by
        unfold putB
        rw [if_pos h, h2, if_neg Bool.false_ne_true]
      rw [if_neg Bool.false_ne_true, ← e]
      exact h4
    · rw [if_pos rfl, refnot r (k + 1) (by omega) (by omega), Option.bind_some, fNot_right hr]
      by_cases h3 : (H.notF r).2 = 0
      · have hn := notF_len r
        have e : putB i r c = H.meetF (putA i r c).1 (H.notF r).1 := by
          unfold putB
          rw [if_pos h, h2, if_pos rfl, if_pos h3]
        rw [if_pos h3, ref3meet _ _ (k + 1) (by omega) (by omega) (by omega), Option.bind_some, fMeet_right (putA_right hd h) (notF_facts (ok_of_right hr) h3).1, ← e]
        exact h4
      · have e : putB i r c = ([], (H.notF r).2) := by
          unfold putB
          rw [if_pos h, h2, if_pos rfl, if_neg h3]
        rw [if_neg h3, hypercuberef03_Put.j4, if_neg h3]
        have hs : putStep i r b c = ([], (H.notF r).2) := by
          unfold putStep
          rw [e, if_neg h3]
        rw [foldE_err_nil (by rw [hs]; exact h3), hs]
        rfl
  · rw [ht2 h, if_neg Bool.false_ne_true]
    have e : putB i r c = ([], (putA i r c).2) := by
      unfold putB
      rw [if_neg h]
    rw [hypercuberef03_Put.j4, if_neg h]
    have hs : putStep i r b c = ([], (putA i r c).2) := by
      unfold putStep
      rw [e, if_neg h]
    rw [foldE_err_nil (by rw [hs]; exact h), hs]
    rfl
theorem rput_l0 (f r : List C) (i : Int) (hd : dimI i = true) (hr : H.right r = true) (hl : f.length ≤ 100) : ∀ (d k j : Nat) (b : List C), j + d = f.length → 5 * d + 14110 < k → H.right b = true →
    hypercuberef03_Put.l0 k (LC f) i (LC r) (LC b) (j : Int) = some (LC (foldE [] (putStep i r) (f.drop j) b).1, (foldE [] (putStep i r) (f.drop j) b).2)
  | d, 0, _, _, _, hk, _ => absurd hk (by omega)
  | 0, k + 1, j, b, hj, _, _ => by
    rw [hypercuberef03_Put.l0, if_neg (by rw [LC_len]; omega), List.drop_eq_nil_of_le (by omega)]
    rfl
  | d + 1, k + 1, j, b, hj, hk, hb => by
    have hjl : j < f.length := by omega
    have hlr := len_of_right hr
    obtain ⟨k, rfl⟩ : ∃ m, k = m + 3 := ⟨k - 3, by omega⟩
    have hnext : (putStep i r b f[j]).2 = 0 → hypercuberef03_Put.l0 k (LC f) i (LC r) (LC (putStep i r b f[j]).1) ((j + 1 : Nat) : Int) = some (LC (foldE [] (putStep i r) (f.drop (j + 1)) (putStep i r b f[j]).1).1, (foldE [] (putStep i r) (f.drop (j + 1)) (putStep i r b f[j]).1).2) := fun h =>
      rput_l0 f r i hd hr hl d k (j + 1) _ (by omega) (by omega) (by
        unfold putStep at h ⊢
        split at h
        · rename_i h2
          rw [if_pos h2]
          exact right_least h
        · rename_i h2
          exact absurd h h2)
    have hj2 : ∀ (X : List C × Int), X = putA i r f[j] → hypercuberef03_Put.j2 (k + 3) (LC f) i (LC r) (LC b) (j : Int) (LC X.1) X.2 (un f[j].1) (un f[j].2) = some (LC (foldE [] (putStep i r) (f.drop j) b).1, (foldE [] (putStep i r) (f.drop j) b).2) := by
      rintro X rfl
      rw [List.drop_eq_getElem_cons hjl, hypercuberef03_Put.j2]
      by_cases h : (putA i r f[j]).2 = 0
      · rw [if_pos h, refhasI _ hd _ (by omega), Option.bind_some]
        exact rput_j3 f r b i hd hr hb f[j] _ j (by omega) k (by omega) (.inl h) hnext _ (fun _ => rfl) (fun h2 => absurd h h2)
      · rw [if_neg h]
        by_cases h2 : hasI f[j].2 i = false
        · exact rput_j3 f r b i hd hr hb f[j] _ j (by omega) k (by omega) (.inr h2) hnext _ (fun h3 => absurd h3 h) (fun _ => rfl)
        · rw [hypercuberef03_Put.j3, if_neg Bool.false_ne_true, hypercuberef03_Put.j4, if_neg h]
          have hs : putStep i r b f[j] = ([], (putA i r f[j]).2) := by
            unfold putStep putB
            rw [if_neg h, if_neg h]
          rw [foldE_err_nil (by rw [hs]; exact h), hs]
          rfl
    rw [hypercuberef03_Put.l0, if_pos (by rw [LC_len]; omega), if_pos (by omega), rdC f j hjl]
    show (hypercuberef01_Without.f (k + 3) (un f[j].1) i).bind _ = _
    rw [refwo _ hd _ (by omega), Option.bind_some]
    show (hypercuberef01_Without.f (k + 3) (un f[j].2) i).bind _ = _
    rw [refwo _ hd _ (by omega), Option.bind_some, Option.bind_some]
    show (hypercuberef01_Has.f (k + 3) (un f[j].1) i).bind _ = _
    rw [refhasI _ hd _ (by omega), Option.bind_some]
    have hw : ([(⟨un (wo f[j].1 i), un (wo f[j].2 i)⟩ : S60)] : List S60) = LC [woC f[j] i] := rfl
    rw [hw]
    by_cases h1 : hasI f[j].1 i = true
    · rw [if_pos h1, ref3meet _ _ _ (by simp) (by omega) (by omega), Option.bind_some, fMeet_right (right_one (woC_ok hd _)) hr]
      exact hj2 _ (by unfold putA; rw [if_pos h1])
    · rw [if_neg h1]
      exact hj2 ([woC f[j] i], 0) (by unfold putA; rw [if_neg h1])
theorem refput (f r : List C) (i : Int) (k : Nat) (hl : f.length ≤ 100) (hlr : r.length ≤ 100) (hk : 15000 < k) : hypercuberef03_Put.f k (LC f) i (LC r) = some (LC (fPut f i r).1, (fPut f i r).2) := by
  obtain ⟨k, rfl⟩ : ∃ m, k = m + 1 := ⟨k - 1, by omega⟩
  unfold hypercuberef03_Put.f
  have hno : hypercuberef03_Put.j0 (k + 1) (LC f) i (LC r) true = some ([], 2) := by rw [hypercuberef03_Put.j0, if_pos rfl]
  rw [ref3right f _ (by omega) (by omega), Option.bind_some]
  by_cases hf : H.right f = true
  · rw [if_pos hf, ref3right r _ (by omega) (by omega), Option.bind_some]
    by_cases hr : H.right r = true
    · rw [if_pos hr]
      by_cases hd : dimI i = true
      · have h24 := of_decide_eq_true hd
        have e : fPut f i r = putF f i r := by
          unfold fPut
          rw [if_pos ⟨hf, hr⟩, if_pos hd]
        rw [if_neg (by omega), decide_eq_false (by omega), hypercuberef03_Put.j0, if_neg Bool.false_ne_true, e]
        exact rput_l0 f r i hd hr hl f.length k 0 [] (by omega) (by omega) right_nil
      · have e : fPut f i r = ([], 2) := by
          unfold fPut
          rw [if_pos ⟨hf, hr⟩, if_neg hd]
        have hn : ¬ (0 ≤ i ∧ i < 24) := fun h => hd (decide_eq_true h)
        rw [e]
        by_cases h1 : i < 0
        · rw [if_pos h1, hno]
          rfl
        · rw [if_neg h1, decide_eq_true (by omega), hno]
          rfl
    · rw [if_neg hr, hno]
      unfold fPut
      rw [if_neg (fun h => hr h.2)]
      rfl
  · rw [if_neg hf, hno]
    unfold fPut
    rw [if_neg (fun h => hf h.1)]
    rfl
def mlP (a b : Int) (s : UInt32) : UInt32 × Int := if a < 0 ∨ b < 0 then (0, 2) else if movable s.toNat a.toNat b.toNat = true then (UInt32.ofNat (lifted s.toNat a.toNat b.toNat), 0) else (0, 10)
def clP (a b : Int) (c : C) : C × Int := if H.ok c = true then (if (mlP a b c.1).2 = 0 then (if (mlP a b c.2).2 = 0 then (((mlP a b c.1).1, (mlP a b c.2).1), 0) else ((0, 0), (mlP a b c.2).2)) else ((0, 0), (mlP a b c.1).2)) else ((0, 0), 2)
theorem mlG (a b : Int) (s : UInt32) (k : Nat) (b1 : -9223372036854775808 ≤ a ∧ a < 9223372036854775808) (b2 : -9223372036854775808 ≤ b ∧ b < 9223372036854775808) (hk : 100 ≤ k) :
    mask_Lift.f k (un s) a b = some (un (mlP a b s).1, (mlP a b s).2) ∧ hypercuberef01_Lift.f k (un s) a b = some (un (mlP a b s).1, (mlP a b s).2) := by
  unfold mlP
  by_cases hn : a < 0 ∨ b < 0
  · rw [if_pos hn, mlift_neg k _ _ _ hn (by omega), reflift_neg k _ _ _ hn hk]
    exact ⟨rfl, rfl⟩
  · rw [if_neg hn]
    obtain ⟨f, rfl⟩ := Int.eq_ofNat_of_zero_le (show 0 ≤ a by omega)
    obtain ⟨g, rfl⟩ := Int.eq_ofNat_of_zero_le (show 0 ≤ b by omega)
    have e1 := mlift s.toNat k f g s.toNat_lt (by omega) (by omega) (by omega)
    have e2 := reflift s.toNat k f g s.toNat_lt (by omega) (by omega) hk
    rw [Int.toNat_natCast, Int.toNat_natCast]
    rw [show un s = ((s.toNat : Nat) : Int) from rfl, e1, e2]
    by_cases hm : movable s.toNat f g = true
    · have hlt := lifted_lt hm
      have e3 : un (UInt32.ofNat (lifted s.toNat f g)) = ((lifted s.toNat f g : Nat) : Int) := by
        unfold un
        rw [UInt32.toNat_ofNat', Nat.mod_eq_of_lt (by omega)]
      rw [if_pos hm, if_pos hm]
      dsimp only
      rw [e3]
      exact ⟨rfl, rfl⟩
    · rw [if_neg hm, if_neg hm]
      exact ⟨rfl, rfl⟩
theorem refrightP (c : C) (k : Nat) (hk : 30 ≤ k) : hypercuberef02_Right.f k (un c.1) (un c.2) = some (H.ok c) :=
  at_rounds (g := fun k => hypercuberef02_Right.f k (un c.1) (un c.2)) (fun k => hypercuberef02_Right.mono _ _ k) hk (refright24 c)
theorem clG (a b : Int) (c : C) (k : Nat) (b1 : -9223372036854775808 ≤ a ∧ a < 9223372036854775808) (b2 : -9223372036854775808 ≤ b ∧ b < 9223372036854775808) (hk : 100 ≤ k) :
    clause_Lift.f k (un c.1) (un c.2) a b = some (un (clP a b c).1.1, un (clP a b c).1.2, (clP a b c).2) ∧ hypercuberef02_Lift.f k (un c.1) (un c.2) a b = some (un (clP a b c).1.1, un (clP a b c).1.2, (clP a b c).2) := by
  obtain ⟨p1, p2⟩ := mlG a b c.1 k b1 b2 hk
  obtain ⟨n1, n2⟩ := mlG a b c.2 k b1 b2 hk
  unfold clause_Lift.f hypercuberef02_Lift.f clP
  rw [right24, refrightP c k (by omega), Option.bind_some, Option.bind_some]
  by_cases ho : H.ok c = true
  · rw [if_pos ho, if_pos ho, if_pos ho, p1, p2, Option.bind_some, Option.bind_some]
    by_cases h1 : (mlP a b c.1).2 = 0
    · rw [if_pos h1, if_pos h1, if_pos h1, n1, n2, Option.bind_some]
      by_cases h2 : (mlP a b c.2).2 = 0
      · rw [if_pos h2, if_pos h2]
        exact ⟨rfl, rfl⟩
      · rw [if_neg h2, if_neg h2]
        exact ⟨rfl, rfl⟩
    · rw [if_neg h1, if_neg h1, if_neg h1]
      exact ⟨rfl, rfl⟩
  · rw [if_neg ho, if_neg ho, if_neg ho]
    exact ⟨rfl, rfl⟩
theorem liftC_eq (a b : Int) (k : Nat) (b1 : -9223372036854775808 ≤ a ∧ a < 9223372036854775808) (b2 : -9223372036854775808 ≤ b ∧ b < 9223372036854775808) (hk : 100 ≤ k) (c : C) : liftC24 k a b c = clP a b c := by
  have e : ∀ x : UInt32, UInt32.ofNat (un x).toNat = x := fun x => by
    unfold un
    simp
  unfold liftC24
  rw [(clG a b c k b1 b2 hk).1]
  dsimp only
  rw [e, e]
theorem liftL (f : List C) (a b : Int) (k : Nat) (b1 : -9223372036854775808 ≤ a ∧ a < 9223372036854775808) (b2 : -9223372036854775808 ≤ b ∧ b < 9223372036854775808) (hl : f.length ≤ 1000) (hk : 100 ≤ k) : formula_Lift.f k (LC f) a b = some (LC (fLift (clP a b) f).1, (fLift (clP a b) f).2) := by
  have e : liftC24 k a b = clP a b := funext fun c => liftC_eq a b k b1 b2 hk c
  have ho := okLC (l := f) (by omega)
  unfold formula_Lift.f
  rw [if_pos ⟨ho.1, by rw [LC_len]; omega, fun c _ => by unfold liftsC24; rw [e]; exact (clG a b c k b1 b2 hk).1⟩, e, backLC]
  rfl
theorem rlift_l0 (f : List C) (a b : Int) (b1 : -9223372036854775808 ≤ a ∧ a < 9223372036854775808) (b2 : -9223372036854775808 ≤ b ∧ b < 9223372036854775808) (hl : f.length ≤ 1000) : ∀ (d k j : Nat) (out : List C), j + d = f.length → d + 110 < k → out.length ≤ j →
    hypercuberef03_Lift.l0 k (LC f) a b (LC out) (j : Int) = some (if (foldE [] (liftStep (clP a b)) (f.drop j) out).2 = 0 then (LC (least (foldE [] (liftStep (clP a b)) (f.drop j) out).1).1, (least (foldE [] (liftStep (clP a b)) (f.drop j) out).1).2) else ([], (foldE [] (liftStep (clP a b)) (f.drop j) out).2))
  | d, 0, _, _, _, hk, _ => absurd hk (by omega)
  | 0, k + 1, j, out, hj, _, ho => by
    rw [hypercuberef03_Lift.l0, if_neg (by rw [LC_len]; omega), refleastL _ (by omega), Option.bind_some, List.drop_eq_nil_of_le (by omega)]
    rfl
  | d + 1, k + 1, j, out, hj, hk, ho => by
    have hjl : j < f.length := by omega
    have e2 : wrap64 ((j : Int) + 1) = ((j + 1 : Nat) : Int) := by
      unfold wrap64
      omega
    rw [hypercuberef03_Lift.l0, if_pos (by rw [LC_len]; omega), if_pos (by omega), rdC f j hjl]
    show (hypercuberef02_Lift.f k (un f[j].1) (un f[j].2) a b).bind _ = _
    rw [(clG a b f[j] k b1 b2 (by omega)).2, Option.bind_some, List.drop_eq_getElem_cons hjl]
    by_cases h : (clP a b f[j]).2 = 0
    · rw [foldE_ok (show (liftStep (clP a b) out f[j]).2 = 0 from h), if_pos h, if_pos (by rw [LC_len]; omega), e2]
      have ha : LC out ++ [(⟨un (clP a b f[j]).1.1, un (clP a b f[j]).1.2⟩ : S60)] = LC (out ++ [(clP a b f[j]).1]) := by
        rw [LC_append]
        rfl
      rw [ha]
      exact rlift_l0 f a b b1 b2 hl d k (j + 1) _ (by omega) (by omega) (by rw [List.length_append, List.length_singleton]; omega)
    · rw [foldE_err_nil (show (liftStep (clP a b) out f[j]).2 ≠ 0 from h), if_neg h, if_neg (show ¬ (([] : List C), (liftStep (clP a b) out f[j]).2).2 = 0 from h)]
      rfl
theorem reflift3 (f : List C) (a b : Int) (k : Nat) (b1 : -9223372036854775808 ≤ a ∧ a < 9223372036854775808) (b2 : -9223372036854775808 ≤ b ∧ b < 9223372036854775808) (hl : f.length ≤ 1000) (hk : 2000 < k) : hypercuberef03_Lift.f k (LC f) a b = some (LC (fLift (clP a b) f).1, (fLift (clP a b) f).2) := by
  unfold hypercuberef03_Lift.f fLift
  rw [ref3right f _ (by omega) (by omega), Option.bind_some]
  by_cases hf : H.right f = true
  · have h := rlift_l0 f a b b1 b2 hl f.length k 0 [] (by omega) (by omega) (Nat.zero_le _)
    rw [List.drop_zero] at h
    rw [if_pos hf, if_pos hf]
    refine Eq.trans h ?_
    unfold liftF
    by_cases h2 : (foldE [] (liftStep (clP a b)) f []).2 = 0
    · rw [if_pos h2, if_pos h2]
    · rw [if_neg h2, if_neg h2]
      rfl
  · rw [if_neg hf, if_neg hf]
    rfl
theorem fLift_len (lf : C → C × Int) (f : List C) (hl : f.length ≤ 100) : (fLift lf f).1.length ≤ 100 := by
  have h := liftF_len lf f
  unfold fLift
  split
  · split
    · exact Nat.le_trans (Nat.le_trans (least_len' _) h) hl
    · simp
  · simp
theorem fPut_len (f r : List C) (i : Int) : (fPut f i r).1.length ≤ 64 := by
  by_cases h : (fPut f i r).2 = 0
  · exact len_of_right (fPut_told h).2.2.2.1
  · unfold fPut at h ⊢
    split at h
    · rename_i h1
      rw [if_pos h1]
      split at h
      · rename_i h2
        rw [if_pos h2]
        have := foldE_none [] (putStep i r) f [] h
        unfold putF
        rw [this]
        simp
      · rename_i h2
        rw [if_neg h2]
        simp
    · rename_i h1
      rw [if_neg h1]
      simp
theorem FormulaPuts (f : List C) (i : Int) (_wi : (Lit.int .i64 i).wf = true) (r : List C) (a : Int) (wa : (Lit.int .i64 a).wf = true) (b : Int) (wb : (Lit.int .i64 b).wf = true) : ∃ k, hypercubelaw03_FormulaPuts.f k (LC f) i (LC r) a b = some true := by
  obtain ⟨k, hk⟩ : ∃ k, k = 20000 := ⟨_, rfl⟩
  refine ⟨k, ?_⟩
  unfold hypercubelaw03_FormulaPuts.f
  have hw := works k (by omega)
  have hlf := LC_len f
  have hlr := LC_len r
  by_cases h24 : 24 < f.length ∨ 24 < r.length
  · rw [if_pos (by omega), hw]
  have b1 := wf_i64 wa
  have b2 := wf_i64 wb
  obtain ⟨y1, s1⟩ := same3 (fPut f i r).1 (fPut f i r).2 k (by have := fPut_len f r i; omega) (by omega)
  obtain ⟨y2, s2⟩ := same3 (fLift (clP a b) f).1 (fLift (clP a b) f).2 k (by have := fLift_len (clP a b) f (by omega); omega) (by omega)
  rw [if_neg (by omega), putL f i r (by omega) (by omega), Option.bind_some, refput f r i k (by omega) (by omega) (by omega), Option.bind_some, liftL f a b k b1 b2 (by omega) (by omega), Option.bind_some, reflift3 f a b k b1 b2 (by omega) (by omega), Option.bind_some,
    s1, Option.bind_some, s2, Option.bind_some, dimsL f k (by omega) (by omega), Option.bind_some, refdims f k (by omega) (by omega), Option.bind_some, if_pos ⟨rfl, rfl, rfl⟩, hw]
end Go.Proofs.YtfbcgjkagdbckaaDoor.Pure
