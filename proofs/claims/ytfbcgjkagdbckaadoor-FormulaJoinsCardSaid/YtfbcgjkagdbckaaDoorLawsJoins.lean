/-
PLAIN LAW: the statement FormulaJoins.
-/
import Derived.Laws.BitsAllLaws
import Derived.Test.YtfbcgjkagdbckaaDoorNat
import Derived.Test.YtfbcgjkagdbckaaDoorFw
import Derived.Test.YtfbcgjkagdbckaaDoorLJoins
namespace Go.Proofs.YtfbcgjkagdbckaaDoor.Pure
open Go.RowKit Go.Proofs.YtfbcgjkagdbckaaDoor.XFn Go.Proofs.YtfbcgjkagdbckaaDoorW.PrintWords Go.Proofs.YtfbcgjkagdbckaaDoorW.PrintLast Go.Proofs.YtfbcgjkagdbckaaDoorW.PrintMore H

theorem wrap64_small {n : Int} (h1 : -9223372036854775808 ≤ n) (h2 : n < 9223372036854775808) : wrap64 n = n := by
  unfold wrap64
  omega
theorem u64w (n : Nat) (h : n < 18446744073709551616) : IntKind.u64.wrap (n : Int) = (n : Int) := by
  rw [IntKind.wrap_u64]
  omega
def LC (l : List C) : List S60 := l.map ofC24
theorem LC_len (l : List C) : (LC l).length = l.length := List.length_map ..
theorem LC_append (a b : List C) : LC (a ++ b) = LC a ++ LC b := List.map_append ..
theorem rdC (l : List C) (i : Nat) (h : i < l.length) : rd_T60 (LC l) (i : Int) = ofC24 l[i] := by
  unfold rd_T60 LC
  rw [Int.toNat_natCast, List.getD_eq_getElem?_getD, List.getElem?_map, List.getElem?_eq_getElem h]
  rfl
theorem backLC (l : List C) : (LC l).map toC24 = l := by
  unfold LC
  rw [List.map_map]
  refine (List.map_congr_left (g := id) fun c _ => ?_).trans (List.map_id _)
  rw [Function.comp_apply, toC_ofC24]
  rfl
theorem okLC {l : List C} (h : l.length ≤ 1000000) : okL24 (LC l) := ⟨by unfold LC; rw [List.all_map, List.all_eq_true]; intro c _; rw [Function.comp_apply, inR_ofC24], by rw [LC_len]; exact h⟩
theorem wf_u32 {a : Int} (h : (Lit.int .u32 a).wf = true) : ∃ n : Nat, a = n ∧ n < 4294967296 := by
  have h' : 0 ≤ a ∧ a ≤ 4294967295 := by simpa [Lit.wf, IntKind.min, IntKind.max, IntKind.bits, IntKind.signed] using h
  exact ⟨a.toNat, by omega, by omega⟩
theorem wf_i64 {a : Int} (h : (Lit.int .i64 a).wf = true) : -9223372036854775808 ≤ a ∧ a < 9223372036854775808 := by
  have h' : -9223372036854775808 ≤ a ∧ a ≤ 9223372036854775807 := by simpa [Lit.wf, IntKind.min, IntKind.max, IntKind.bits, IntKind.signed] using h
  omega

def L (l : List Nat) : List Int := l.map fun i : Nat => (i : Int)
theorem L_len (l : List Nat) : (L l).length = l.length := List.length_map ..
theorem rd_mid (pre post : List Nat) (a : Nat) : rd (L (pre ++ a :: post)) (pre.length : Int) = (a : Int) := by
  unfold rd L
  simp
theorem set_mid (pre post : List Nat) (a b : Nat) : (L (pre ++ a :: post)).set ((pre.length : Int)).toNat (b : Int) = L (pre ++ b :: post) := by
  unfold L
  rw [Int.toNat_natCast, List.map_append, List.map_append, List.set_append]
  simp
theorem same_l0 (a b : List C) (hab : a.length = b.length) (hl : a.length < 4611686018427387904) : ∀ (d k i : Nat), i + d = a.length → d < k → a.take i = b.take i → hypercuberef02_Same.l0 k (LC a) (LC b) (i : Int) = some (decide (a = b))
  | d, 0, _, _, hk, _ => absurd hk (by omega)
  | 0, k + 1, i, hi, _, ht => by
    have e : a = b := by rw [← List.take_of_length_le (l := a) (i := i) (by omega), ht, List.take_of_length_le (by omega)]
    rw [hypercuberef02_Same.l0, if_neg (by rw [LC_len]; omega), decide_eq_true e]
  | d + 1, k + 1, i, hi, hk, ht => by
    have hia : i < a.length := by omega
    have hib : i < b.length := by omega
    have e2 : wrap64 ((i : Int) + 1) = ((i + 1 : Nat) : Int) := by
      unfold wrap64
      omega
    rw [hypercuberef02_Same.l0, if_pos (by rw [LC_len]; omega), if_pos (by omega), if_pos (by rw [LC_len]; omega), rdC a i hia, rdC b i hib]
    have hq : (!((ofC24 a[i]).f0 == (ofC24 b[i]).f0) || !((ofC24 a[i]).f1 == (ofC24 b[i]).f1)) = !decide (a[i] = b[i]) := by
      unfold ofC24
      rw [un_beq, un_beq, Bool.eq_iff_iff]
      simp [Prod.ext_iff]
    rw [hq, e2]
    by_cases hc : a[i] = b[i]
    · rw [if_neg (by simp [hc])]
      refine same_l0 a b hab hl d k (i + 1) (by omega) (by omega) ?_
      rw [List.take_succ_eq_append_getElem hia, List.take_succ_eq_append_getElem hib, ht, hc]
    · rw [if_pos (by simp [hc]), decide_eq_false (fun e => hc (by subst e; rfl))]
theorem sameL (a b : List C) (k : Nat) (hl : a.length < 4611686018427387904) (hk : a.length < k) : hypercuberef02_Same.f k (LC a) (LC b) = some (decide (a = b)) := by
  unfold hypercuberef02_Same.f
  rw [LC_len, LC_len]
  by_cases h : a.length = b.length
  · rw [if_pos (by omega)]
    exact same_l0 a b h hl a.length k 0 (by omega) hk rfl
  · rw [if_neg (by omega), decide_eq_false (fun e => h (by rw [e]))]
theorem same (l : List C) (k : Nat) (hl : l.length < 4611686018427387904) (hk : l.length < k) : hypercuberef02_Same.f k (LC l) (LC l) = some true := by
  rw [sameL l l k hl hk, decide_eq_true rfl]
theorem joinL (f g : List C) (hf : f.length ≤ 100) (hg : g.length ≤ 100) : formula_Join.f (LC f) (LC g) = some (LC (fJoin f g).1, (fJoin f g).2) := by
  unfold formula_Join.f
  rw [if_pos ⟨okLC (by omega), okLC (by omega), by rw [LC_len, LC_len]; omega⟩, backLC, backLC]
  rfl
theorem meetL (f g : List C) (hf : f.length ≤ 100) (hg : g.length ≤ 100) : formula_Meet.f (LC f) (LC g) = some (LC (fMeet f g).1, (fMeet f g).2) := by
  have h : f.length * g.length ≤ 100 * 100 := Nat.mul_le_mul hf hg
  unfold formula_Meet.f
  rw [if_pos ⟨okLC (by omega), okLC (by omega), by rw [LC_len, LC_len]; omega⟩, backLC, backLC]
  rfl
theorem notL (f : List C) (hf : f.length ≤ 100) : formula_Not.f (LC f) = some (LC (fNot f).1, (fNot f).2) := by
  unfold formula_Not.f
  rw [if_pos (okLC (by omega)), backLC]
  rfl
theorem putL (f : List C) (i : Int) (r : List C) (hf : f.length ≤ 100) (hr : r.length ≤ 100) : formula_Put.f (LC f) i (LC r) = some (LC (fPut f i r).1, (fPut f i r).2) := by
  unfold formula_Put.f
  rw [if_pos ⟨okLC (by omega), okLC (by omega)⟩, backLC, backLC]
  rfl
theorem works (k : Nat) (hk : 5 ≤ k) : hypercubelaw03_works.f k = some true := by
  have e1 := fdim24 0
  have e2 := notL [(3, 0)] (by decide)
  have e3 := meetL [(1, 0)] [(0, 1)] (by decide) (by decide)
  have e4 := putL [(0, 1), (1, 0)] 0 [] (by decide) (by decide)
  rw [w_dim] at e1
  rw [w_not] at e2
  rw [w_meet] at e3
  rw [w_put] at e4
  have s1 := same [(0, 1), (0, 2)] k (by decide) (by simp; omega)
  have s2 := same [(1, 1)] k (by decide) (by simp; omega)
  have s3 := same [(0, 0)] k (by decide) (by simp; omega)
  have f1 : LC [(1, 0)] = [⟨1, 0⟩] := rfl
  have f2 : LC [(3, 0)] = [⟨3, 0⟩] := rfl
  have f3 : LC [(0, 1)] = [⟨0, 1⟩] := rfl
  have f4 : LC [(0, 1), (1, 0)] = [⟨0, 1⟩, ⟨1, 0⟩] := rfl
  have f5 : LC [(0, 1), (0, 2)] = [⟨0, 1⟩, ⟨0, 2⟩] := rfl
  have f6 : LC [(1, 1)] = [⟨1, 1⟩] := rfl
  have f7 : LC [(0, 0)] = [⟨0, 0⟩] := rfl
  have f8 : LC [] = [] := rfl
  have f9 : ([((1 : UInt32), (0 : UInt32))] : List C).map ofC24 = [⟨1, 0⟩] := rfl
  rw [f2, f5] at e2
  rw [f1, f3, f6] at e3
  rw [f4, f7, f8] at e4
  rw [f5] at s1
  rw [f6] at s2
  rw [f7] at s3
  unfold hypercubelaw03_works.f
  rw [e1, Option.bind_some, e2, Option.bind_some, f9, e3, Option.bind_some, e4, Option.bind_some, if_pos rfl, if_pos rfl, if_pos rfl, if_pos rfl, s1, Option.bind_some, if_pos rfl, s2, Option.bind_some, if_pos rfl]
  unfold formula_One.f
  rw [Option.bind_some, s3, Option.bind_some, if_pos rfl]
  unfold formula_Zero.f
  rfl
theorem power_l0 (n : Nat) (hn : n ≤ 40) : ∀ (d k i : Nat), i + d = n → d < k → hypercuberef01_power.l0 k (n : Int) ((2 ^ i : Nat) : Int) (i : Int) = some ((2 ^ n : Nat) : Int)
  | d, 0, _, _, hk => absurd hk (by omega)
  | 0, k + 1, i, hi, _ => by
    unfold hypercuberef01_power.l0
    rw [if_neg (by omega), show i = n by omega]
  | d + 1, k + 1, i, hi, hk => by
    have hp : 2 ^ (i + 1) ≤ 2 ^ 40 := Nat.pow_le_pow_right (by omega) (by omega)
    have he : 2 ^ (i + 1) = 2 ^ i * 2 := Nat.pow_succ ..
    have e1 : wrap64 (((2 ^ i : Nat) : Int) * 2) = ((2 ^ (i + 1) : Nat) : Int) := by
      rw [wrap64_small (by omega) (by omega)]
      omega
    have e2 : wrap64 ((i : Int) + 1) = ((i + 1 : Nat) : Int) := by
      rw [wrap64_small (by omega) (by omega)]
      omega
    unfold hypercuberef01_power.l0
    rw [if_pos (by omega), e1, e2]
    exact power_l0 n hn d k (i + 1) (by omega) (by omega)
theorem power (n k : Nat) (hn : n ≤ 40) (hk : 41 ≤ k) : hypercuberef01_power.f k (n : Int) = some ((2 ^ n : Nat) : Int) := by
  unfold hypercuberef01_power.f
  exact power_l0 n hn n k 0 (by omega) (by omega)

theorem has (s k : Nat) (i : Int) (hs : s < 4294967296) (hk : 41 ≤ k) : hypercuberef01_Has.f k (s : Int) i = some (decide (0 ≤ i ∧ i < 24) && s.testBit i.toNat) := by
  unfold hypercuberef01_Has.f
  by_cases h0 : i ≥ 0
  · by_cases h1 : i < 24
    · obtain ⟨n, rfl⟩ := Int.eq_ofNat_of_zero_le h0
      have hp : 0 < 2 ^ n := Nat.two_pow_pos n
      have hd : s / 2 ^ n ≤ s := Nat.div_le_self ..
      rw [if_pos h0, if_pos h1, power n k (by omega) hk]
      simp only [Option.bind_some]
      rw [if_neg (by omega), wrap64_small (n := (s : Int)) (by omega) (by omega), ← Int.ofNat_tdiv, wrap64_small (Int.le_trans (by decide) (Int.natCast_nonneg _)) (Int.lt_of_le_of_lt (Int.ofNat_le.2 hd) (by omega))]
      rw [show (2 : Int) = ((2 : Nat) : Int) from rfl, ← Int.ofNat_tmod, Int.toNat_natCast, Nat.testBit_eq_decide_div_mod_eq]
      rw [Option.some.injEq, Bool.eq_iff_iff]
      simp only [beq_iff_eq, Bool.and_eq_true, decide_eq_true_eq]
      omega
    · rw [if_pos h0, if_neg h1]
      simp [h1]
  · rw [if_neg h0]
    have : ¬ 0 ≤ i := h0
    simp [this]
theorem list_l0 (s : Nat) (hs : s < 4294967296) : ∀ (d k i : Nat), i + d = 24 → d + 41 ≤ k →
    hypercuberef01_List.l0 k (s : Int) (L ((List.range i).filter fun j => s.testBit j)) (i : Int) = some (L (dimsN s))
  | d, 0, _, _, hk => absurd hk (by omega)
  | 0, k + 1, i, hi, _ => by
    obtain rfl : i = 24 := by omega
    unfold hypercuberef01_List.l0
    rw [if_neg (by omega)]
    rfl
  | d + 1, k + 1, i, hi, hk => by
    have e2 : wrap64 ((i : Int) + 1) = ((i + 1 : Nat) : Int) := by
      rw [wrap64_small (by omega) (by omega)]
      omega
    have hl : ((List.range i).filter fun j => s.testBit j).length ≤ i := by
      have := List.length_filter_le (fun j => s.testBit j) (List.range i)
      rwa [List.length_range] at this
    have ih := list_l0 s hs d k (i + 1) (by omega) (by omega)
    rw [List.range_succ, List.filter_append] at ih
    unfold hypercuberef01_List.l0
    rw [if_pos (by omega), has s k i hs (by omega)]
    simp only [Option.bind_some]
    rw [Int.toNat_natCast, show decide (0 ≤ (i : Int) ∧ (i : Int) < 24) = true from decide_eq_true (by omega), Bool.true_and, e2]
    by_cases hb : s.testBit i = true
    · rw [if_pos hb, if_pos (by rw [L_len]; omega)]
      rw [show L ((List.range i).filter fun j => s.testBit j) ++ [(i : Int)] = L (((List.range i).filter fun j => s.testBit j) ++ [i].filter fun j => s.testBit j) by simp [L, hb]]
      exact ih
    · rw [if_neg hb]
      rw [show L ((List.range i).filter fun j => s.testBit j) = L (((List.range i).filter fun j => s.testBit j) ++ [i].filter fun j => s.testBit j) by simp [hb]]
      exact ih
theorem list (s k : Nat) (hs : s < 4294967296) (hk : 65 ≤ k) : hypercuberef01_List.f k (s : Int) = some (L (dimsN s)) := by
  unfold hypercuberef01_List.f
  exact list_l0 s hs 24 k 0 (by omega) (by omega)

theorem set_l0 (l : List Nat) (hl : l.length ≤ 25) (hb : ∀ x ∈ l, x < 24) : ∀ (post pre : List Nat) (k : Nat), pre ++ post = l → post.length + 41 < k →
    hypercuberef01_Set.l0 k (L l) ((sumPow pre : Nat) : Int) (pre.length : Int) = some ((sumPow l : Nat) : Int)
  | _, _, 0, _, hk => absurd hk (by omega)
  | [], pre, k + 1, he, _ => by
    rw [List.append_nil] at he
    subst he
    have := sumPow_le (l := pre) 23 fun x hx => by have := hb x hx; omega
    have h2 : pre.length * 2 ^ 23 ≤ 25 * 2 ^ 23 := Nat.mul_le_mul_right _ hl
    unfold hypercuberef01_Set.l0
    rw [if_neg (by rw [L_len]; omega), Int.emod_eq_of_lt (by omega) (by omega)]
  | a :: post, pre, k + 1, he, hk => by
    subst he
    have ha : a < 24 := hb a (by simp)
    rw [List.length_append, List.length_cons] at hl
    rw [List.length_cons] at hk
    have h1 := sumPow_le (l := pre ++ [a]) 23 fun x hx => by
      have := hb x (by simp at hx ⊢; rcases hx with h | h; exact .inl h; exact .inr (.inl h))
      omega
    rw [List.length_append, List.length_singleton] at h1
    have h2 : (pre.length + 1) * 2 ^ 23 ≤ 25 * 2 ^ 23 := Nat.mul_le_mul_right _ (by omega)
    have h3 : sumPow (pre ++ [a]) = sumPow pre + 2 ^ a := by
      rw [sumPow_append]
      simp [sumPow]
    have e1 : wrap64 (((sumPow pre : Nat) : Int) + ((2 ^ a : Nat) : Int)) = ((sumPow (pre ++ [a]) : Nat) : Int) := by
      rw [wrap64_small (by omega) (by omega), h3]
      omega
    have e2 : wrap64 ((pre.length : Int) + 1) = (((pre ++ [a]).length : Nat) : Int) := by
      rw [wrap64_small (by omega) (by omega), List.length_append, List.length_singleton]
      omega
    unfold hypercuberef01_Set.l0
    rw [if_pos (by rw [L_len, List.length_append, List.length_cons]; omega), if_pos (by omega), rd_mid, power a k (by omega) (by omega)]
    simp only [Option.bind_some]
    rw [e1, e2]
    have e3 : pre ++ a :: post = (pre ++ [a]) ++ post := by simp
    exact set_l0 (pre ++ a :: post) (by rw [List.length_append, List.length_cons]; omega) hb post (pre ++ [a]) k e3.symm (by omega)
theorem set (l : List Nat) (k : Nat) (hl : l.length ≤ 25) (hb : ∀ x ∈ l, x < 24) (hk : 70 ≤ k) : hypercuberef01_Set.f k (L l) = some ((sumPow l : Nat) : Int) := by
  unfold hypercuberef01_Set.f
  exact set_l0 l hl hb l [] k rfl (by omega)
theorem without_l0 (i : Int) (l : List Nat) (hl : l.length ≤ 24) (hb : ∀ x ∈ l, x < 24) : ∀ (post pre : List Nat) (k : Nat), pre ++ post = l → post.length + 71 ≤ k →
    hypercuberef01_Without.l0 k i (L l) (L (pre.filter fun x : Nat => decide ((x : Int) ≠ i))) (pre.length : Int) = some ((sumPow (l.filter fun x : Nat => decide ((x : Int) ≠ i)) : Nat) : Int)
  | _, _, 0, _, hk => absurd hk (by omega)
  | [], pre, k + 1, he, hk => by
    rw [List.append_nil] at he
    subst he
    unfold hypercuberef01_Without.l0
    have hf := List.length_filter_le (fun x : Nat => decide ((x : Int) ≠ i)) pre
    rw [if_neg (by rw [L_len]; omega), set _ k (by omega) (fun x hx => hb x (List.mem_filter.1 hx).1) (by simp at hk; omega)]
    rfl
  | a :: post, pre, k + 1, he, hk => by
    subst he
    rw [List.length_cons] at hk
    have hl' := hl
    rw [List.length_append, List.length_cons] at hl'
    have e2 : wrap64 ((pre.length : Int) + 1) = (((pre ++ [a]).length : Nat) : Int) := by
      rw [wrap64_small (by omega) (by omega), List.length_append, List.length_singleton]
      omega
    have e3 : pre ++ a :: post = (pre ++ [a]) ++ post := by simp
    have ih := without_l0 i (pre ++ a :: post) hl hb post (pre ++ [a]) k e3.symm (by omega)
    have hf := List.length_filter_le (fun x : Nat => decide ((x : Int) ≠ i)) pre
    unfold hypercuberef01_Without.l0
    rw [if_pos (by rw [L_len, List.length_append, List.length_cons]; omega), if_pos (by omega), rd_mid, e2]
    by_cases h : (a : Int) = i
    · rw [if_pos h]
      rw [List.filter_append] at ih
      simp only [List.filter_cons, List.filter_nil, ne_eq, h, not_true, decide_false, Bool.false_eq_true, if_false, List.append_nil] at ih ⊢
      exact ih
    · rw [if_neg h, if_pos (by rw [L_len]; omega)]
      rw [show L (pre.filter fun x : Nat => decide ((x : Int) ≠ i)) ++ [(a : Int)] = L ((pre ++ [a]).filter fun x : Nat => decide ((x : Int) ≠ i)) by simp [L, List.filter_append, h]]
      exact ih
theorem without (s k : Nat) (i : Int) (hs : s < 4294967296) (hk : 95 ≤ k) : hypercuberef01_Without.f k (s : Int) i = some ((sumPow ((dimsN s).filter fun x : Nat => decide ((x : Int) ≠ i)) : Nat) : Int) := by
  unfold hypercuberef01_Without.f
  rw [list s k hs (by omega)]
  simp only [Option.bind_some]
  have := dimsN_len s
  exact without_l0 i (dimsN s) this (fun x hx => (mem_dimsN.1 hx).1) (dimsN s) [] k rfl (by omega)

theorem dimsN_sum_filter (s : Nat) (p : Nat → Bool) : dimsN (sumPow ((dimsN s).filter p)) = (dimsN s).filter p :=
  dimsN_sumPow ((dimsN_asc s).filter _) fun _ hx => (mem_dimsN.1 (List.mem_filter.1 hx).1).1
theorem sum_filter_lt (s : Nat) (p : Nat → Bool) : sumPow ((dimsN s).filter p) < 16777216 :=
  sumPow_lt (nodup_of_asc ((dimsN_asc s).filter _)) fun _ hx => (mem_dimsN.1 (List.mem_filter.1 hx).1).1
theorem refwith (s k : Nat) (i : Int) (hs : s < 4294967296) (hk : 100 ≤ k) : hypercuberef01_With.f k (s : Int) i = some (if 0 ≤ i ∧ i < 24 then ((s % 16777216 ||| 2 ^ i.toNat : Nat) : Int) else ((s % 16777216 : Nat) : Int)) := by
  obtain ⟨k', rfl⟩ : ∃ k', k = k' + 1 := ⟨k - 1, by omega⟩
  have hneg : sumPow ((dimsN s).filter fun x : Nat => decide ((x : Int) ≠ -1)) = s % 16777216 := by
    rw [List.filter_eq_self.2, sumPow_dimsN]
    intro x _
    simp
  unfold hypercuberef01_With.f
  by_cases h : 0 ≤ i ∧ i < 24
  · obtain ⟨n, rfl⟩ := Int.eq_ofNat_of_zero_le h.1
    have hlt := sum_filter_lt s fun x : Nat => decide ((x : Int) ≠ (n : Int))
    have hlen := List.length_filter_le (fun x : Nat => decide ((x : Int) ≠ (n : Int))) (dimsN s)
    have hlen2 := dimsN_len s
    rw [if_neg (by omega), show decide ((n : Int) ≥ 24) = false from decide_eq_false (by omega), hypercuberef01_With.j0, if_neg Bool.false_ne_true, without s k' n hs (by omega)]
    simp only [Option.bind_some]
    rw [list _ k' (by omega) (by omega), dimsN_sum_filter]
    simp only [Option.bind_some]
    rw [if_pos (by rw [L_len]; omega)]
    rw [show L ((dimsN s).filter fun x : Nat => decide ((x : Int) ≠ (n : Int))) ++ [(n : Int)] = L (((dimsN s).filter fun x : Nat => decide ((x : Int) ≠ (n : Int))) ++ [n]) by simp [L]]
    rw [set _ k' (by rw [List.length_append, List.length_singleton]; omega) (by
      intro x hx
      rcases List.mem_append.1 hx with h1 | h1
      · exact (mem_dimsN.1 (List.mem_filter.1 h1).1).1
      · rw [List.mem_singleton] at h1; omega) (by omega), if_pos h, Int.toNat_natCast]
    simp only [Option.bind_some]
    rw [Option.some.injEq, Int.ofNat_inj]
    apply Nat.eq_of_testBit_eq
    intro j
    have nd : (((dimsN s).filter fun x : Nat => decide ((x : Int) ≠ (n : Int))) ++ [n]).Nodup := by
      rw [List.nodup_append]
      refine ⟨nodup_of_asc ((dimsN_asc s).filter _), by simp, ?_⟩
      intro a ha b hb e
      rw [List.mem_singleton] at hb
      have := (List.mem_filter.1 ha).2
      simp at this
      omega
    rw [sumPow_testBit nd, Nat.testBit_or, testBit_low24, Nat.testBit_two_pow, Bool.eq_iff_iff]
    simp only [decide_eq_true_eq, Bool.or_eq_true, Bool.and_eq_true, List.mem_append, List.mem_singleton, List.mem_filter, mem_dimsN]
    constructor
    · rintro (⟨h1, _⟩ | h1)
      · exact .inl h1
      · exact .inr h1.symm
    · rintro (h1 | h1)
      · by_cases e : j = n
        · exact .inr e
        · exact .inl ⟨h1, by omega⟩
      · exact .inr h1.symm
  · rw [if_neg h]
    by_cases hn : i < 0
    · rw [if_pos hn, hypercuberef01_With.j0, if_pos rfl, without s k' (-1) hs (by omega), hneg]
      rfl
    · rw [if_neg hn, show decide (i ≥ 24) = true from decide_eq_true (by omega), hypercuberef01_With.j0, if_pos rfl, without s k' (-1) hs (by omega), hneg]
      rfl
theorem r1_lt (x : UInt32) : r1 x = decide (x.toNat < 16777216) := rfl
theorem union_l0 (a : Nat) (D : List Nat) (ha : a < 16777216) (hlen : D.length ≤ 24) (hD : D.Pairwise (· < ·)) (hb : ∀ x ∈ D, x < 24) : ∀ (post pre : List Nat) (k : Nat), pre ++ post = D → post.length + 101 ≤ k →
    hypercuberef02_union.l0 k ((a ||| sumPow pre : Nat) : Int) (L D) (pre.length : Int) = some ((a ||| sumPow D : Nat) : Int) := by
  intro post
  induction post with
  | nil =>
    intro pre k he hk
    obtain ⟨k, rfl⟩ : ∃ k', k = k' + 1 := ⟨k - 1, by omega⟩
    rw [List.append_nil] at he
    subst he
    rw [hypercuberef02_union.l0, if_neg (by rw [L_len]; omega)]
  | cons i post ih =>
    intro pre k he hk
    obtain ⟨k, rfl⟩ : ∃ k', k = k' + 1 := ⟨k - 1, by omega⟩
    rw [List.length_cons] at hk
    have e3 : pre ++ i :: post = (pre ++ [i]) ++ post := by simp
    have hl2 : D.length = pre.length + (post.length + 1) := by rw [← he, List.length_append, List.length_cons]
    have hi : i < 24 := hb i (by rw [← he]; simp)
    have hasc2 : (pre ++ [i]).Pairwise (· < ·) := by
      rw [← he, e3] at hD
      exact (List.pairwise_append.1 hD).1
    have hnd := nodup_of_asc hasc2
    have hpre : pre.Nodup := (List.nodup_append.1 hnd).1
    have hlt : sumPow pre < 16777216 := sumPow_lt hpre fun x hx => hb x (by rw [← he]; simp [hx])
    have hor : a ||| sumPow pre < 16777216 := Nat.or_lt_two_pow (n := 24) ha hlt
    have hstep : (a ||| sumPow pre) ||| 2 ^ i = a ||| sumPow (pre ++ [i]) := by
      apply Nat.eq_of_testBit_eq
      intro j
      rw [Nat.testBit_or, Nat.testBit_or, Nat.testBit_or, sumPow_testBit hpre, sumPow_testBit hnd, Nat.testBit_two_pow, Bool.eq_iff_iff]
      simp only [Bool.or_eq_true, decide_eq_true_eq, List.mem_append, List.mem_singleton]
      constructor
      · rintro ((h | h) | h)
        · exact .inl h
        · exact .inr (.inl h)
        · exact .inr (.inr h.symm)
      · rintro (h | h | h)
        · exact .inl (.inl h)
        · exact .inl (.inr h)
        · exact .inr h.symm
    have e2 : wrap64 ((pre.length : Int) + 1) = (((pre ++ [i]).length : Nat) : Int) := by
      rw [wrap64_small (by omega) (by omega), List.length_append, List.length_singleton]
      omega
    have hrd : rd (L D) (pre.length : Int) = (i : Int) := by rw [← he]; exact rd_mid pre post i
    have hw := refwith (a ||| sumPow pre) k (i : Int) (by omega) (by omega)
    rw [if_pos (by omega), Int.toNat_natCast, Nat.mod_eq_of_lt hor, hstep] at hw
    have hll := L_len D
    rw [hypercuberef02_union.l0, if_pos (by omega), if_pos (by omega), hrd, hw, Option.bind_some, e2]
    exact ih (pre ++ [i]) k (by rw [← e3]; exact he) (by omega)
theorem union (a b k : Nat) (ha : a < 16777216) (hb : b < 16777216) (hk : 200 ≤ k) : hypercuberef02_union.f k (a : Int) (b : Int) = some ((a ||| b : Nat) : Int) := by
  have hlen := dimsN_len b
  have h := union_l0 a (dimsN b) ha hlen (dimsN_asc b) (fun x hx => (mem_dimsN.1 hx).1) (dimsN b) [] k rfl (by omega)
  rw [sumPow_dimsN, Nat.mod_eq_of_lt hb] at h
  rw [show sumPow [] = 0 from rfl, Nat.or_zero] at h
  unfold hypercuberef02_union.f
  rw [list b k (by omega) (by omega), Option.bind_some]
  exact h
theorem unionU (a b : UInt32) (k : Nat) (ha : r1 a = true) (hb : r1 b = true) (hk : 200 ≤ k) : hypercuberef02_union.f k (un a) (un b) = some (un (a ||| b)) := by
  rw [r1_lt, decide_eq_true_eq] at ha hb
  unfold un
  rw [union a.toNat b.toNat k ha hb hk, UInt32.toNat_or]
theorem refmeet (a b : C) (k : Nat) (ha : ok a = true) (hb : ok b = true) (hk : 200 ≤ k) : hypercuberef02_Meet.f k (un a.1) (un a.2) (un b.1) (un b.2) = some (un (meet a b).1, un (meet a b).2) := by
  unfold ok at ha hb
  rw [Bool.and_eq_true] at ha hb
  unfold hypercuberef02_Meet.f
  rw [unionU a.1 b.1 k ha.1 hb.1 hk, Option.bind_some, unionU a.2 b.2 k ha.2 hb.2 hk, Option.bind_some]
  rfl
theorem refleastL (l : List C) (h : l.length ≤ 1000000) : hypercuberef02_Least.f (LC l) = some (LC (least l).1, (least l).2) := by
  unfold hypercuberef02_Least.f
  rw [if_pos (okLC h), backLC, leastR_eq]
  rfl
theorem least_le64 (l : List C) : (least l).1.length ≤ 64 := by
  rcases least_cases l with ⟨_, e⟩ | ⟨_, _, e⟩ | ⟨_, h2, e⟩
  · rw [e]; simp
  · rw [e]; simp
  · rw [e]
    show (sortC (keep l)).length ≤ 64
    rw [length_sortC]
    exact h2
theorem ref3right (l : List C) (k : Nat) (h : l.length ≤ 1000000) (hk : 64 < k) : hypercuberef03_Right.f k (LC l) = some (H.right l) := by
  have h64 := least_le64 l
  unfold hypercuberef03_Right.f H.right
  rw [refleastL l h, Option.bind_some]
  by_cases he : (least l).2 = 0
  · rw [if_pos he, sameL _ _ k (by omega) (by omega), Option.bind_some, decide_eq_true he, Bool.true_and]
  · rw [if_neg he, decide_eq_false he, Bool.false_and]
theorem unN (x : UInt32) : un x = ((x.toNat : Nat) : Int) := rfl
theorem hasU (x : UInt32) (i k : Nat) (hi : i < 24) (hk : 41 ≤ k) : hypercuberef01_Has.f k (un x) (i : Int) = some (tb x i) := by
  rw [unN, has x.toNat k i x.toNat_lt hk, decide_eq_true (by omega), Bool.true_and, Int.toNat_natCast]
  rfl
theorem setOne (i k : Nat) (hi : i < 24) (hk : 70 ≤ k) : hypercuberef01_Set.f k [(i : Int)] = some (un (H.one i)) := by
  have h := set [i] k (by simp) (by simpa using hi) hk
  have e : sumPow [i] = 2 ^ i := by simp [sumPow]
  rw [e] at h
  rw [show un (H.one i) = ((2 ^ i : Nat) : Int) by unfold un; rw [H.toNat_one (by omega)]]
  exact h
/-! ### Meeting -/
theorem meet3_l1 (f g : List C) (hf : f.all ok = true) (hg : g.all ok = true) (i : Nat) (hi : i < f.length) (k : Nat) (hk : 300 ≤ k) (hl : f.length ≤ 1000000) (hlg : g.length ≤ 1000000) : ∀ (d j : Nat) (A : List C), j + d = g.length → A.length + d ≤ 1000000 →
    hypercuberef03_Meet.l1 (k + d + 1) (LC f) (LC g) (LC A) (i : Int) (j : Int) = hypercuberef03_Meet.l0 k (LC f) (LC g) (LC (A ++ (g.drop j).map (H.meet f[i]))) ((i + 1 : Nat) : Int)
  | 0, j, A, hj, _ => by
    have e2 : wrap64 ((i : Int) + 1) = ((i + 1 : Nat) : Int) := by
      unfold wrap64
      omega
    rw [hypercuberef03_Meet.l1, if_neg (by rw [LC_len]; omega), e2, List.drop_eq_nil_of_le (by omega), List.map_nil, List.append_nil]
  | d + 1, j, A, hj, hA => by
    have hjl : j < g.length := by omega
    have e2 : wrap64 ((j : Int) + 1) = ((j + 1 : Nat) : Int) := by
      unfold wrap64
      omega
    have hm : hypercuberef02_Meet.f (k + (d + 1)) (ofC24 f[i]).f0 (ofC24 f[i]).f1 (ofC24 g[j]).f0 (ofC24 g[j]).f1 = some (un (H.meet f[i] g[j]).1, un (H.meet f[i] g[j]).2) := refmeet f[i] g[j] _ (List.all_eq_true.1 hf _ (List.getElem_mem _)) (List.all_eq_true.1 hg _ (List.getElem_mem _)) (by omega)
    have e3 : LC A ++ [(⟨un (H.meet f[i] g[j]).1, un (H.meet f[i] g[j]).2⟩ : S60)] = LC (A ++ [H.meet f[i] g[j]]) := by rw [LC_append]; rfl
    rw [hypercuberef03_Meet.l1, if_pos (by rw [LC_len]; omega), if_pos (by omega), if_pos (by rw [LC_len]; omega), if_pos (by omega), rdC f i hi, rdC g j hjl, hm, Option.bind_some, if_pos (by rw [LC_len]; omega), e2, e3,
      show k + (d + 1) = k + d + 1 by omega, meet3_l1 f g hf hg i hi k hk hl hlg d (j + 1) _ (by omega) (by rw [List.length_append, List.length_singleton]; omega), List.drop_eq_getElem_cons hjl, List.map_cons, List.append_assoc]
    rfl
theorem meet3_l0 (f g : List C) (hf : f.all ok = true) (hg : g.all ok = true) (hl : f.length ≤ 1000000) (hlg : g.length ≤ 1000000) : ∀ (d k i : Nat) (A : List C), i + d = f.length → d * (g.length + 2) + 301 ≤ k → A.length + d * g.length ≤ 1000000 →
    hypercuberef03_Meet.l0 k (LC f) (LC g) (LC A) (i : Int) = some (LC (least (A ++ meets (f.drop i) g)).1, (least (A ++ meets (f.drop i) g)).2)
  | d, 0, _, _, _, hk, _ => absurd hk (by omega)
  | 0, k + 1, i, A, hi, _, hA => by
    rw [hypercuberef03_Meet.l0, if_neg (by rw [LC_len]; omega), refleastL A (by omega), Option.bind_some, List.drop_eq_nil_of_le (by omega)]
    simp [meets]
  | d + 1, k + 1, i, A, hi, hk, hA => by
    have hil : i < f.length := by omega
    rw [Nat.add_mul, Nat.one_mul] at hk hA
    obtain ⟨k', rfl⟩ : ∃ k', k = k' + g.length + 1 := ⟨k - g.length - 1, by omega⟩
    have h1 : hypercuberef03_Meet.l1 (k' + g.length + 1) (LC f) (LC g) (LC A) (i : Int) 0 = _ := meet3_l1 f g hf hg i hil k' (by omega) hl hlg g.length 0 A (by omega) (by omega)
    rw [hypercuberef03_Meet.l0, if_pos (by rw [LC_len]; omega), h1, List.drop_zero,
      meet3_l0 f g hf hg hl hlg d k' (i + 1) _ (by omega) (by omega) (by rw [List.length_append, List.length_map]; omega), List.drop_eq_getElem_cons hil, List.append_assoc]
    rfl
theorem ref3meet (f g : List C) (k : Nat) (hl : f.length ≤ 100) (hlg : g.length ≤ 100) (hk : 12000 ≤ k) : hypercuberef03_Meet.f k (LC f) (LC g) = some (LC (fMeet f g).1, (fMeet f g).2) := by
  obtain ⟨k, rfl⟩ : ∃ m, k = m + 1 := ⟨k - 1, by omega⟩
  have hb : f.length * g.length ≤ 100 * 100 := Nat.mul_le_mul hl hlg
  have hb2 : f.length * (g.length + 2) ≤ 100 * 102 := Nat.mul_le_mul hl (by omega)
  unfold hypercuberef03_Meet.f fMeet
  rw [ref3right f _ (by omega) (by omega), Option.bind_some]
  cases h1 : H.right f
  · rw [if_neg (by simp), hypercuberef03_Meet.j0, if_pos rfl, if_neg (by simp)]
    rfl
  · rw [if_pos rfl, ref3right g _ (by omega) (by omega), Option.bind_some]
    cases h2 : H.right g
    · rw [hypercuberef03_Meet.j0, if_pos (by rfl), if_neg (by simp)]
      rfl
    · have h := meet3_l0 f g (ok_of_right h1) (ok_of_right h2) (by omega) (by omega) f.length k 0 [] (by omega) (by omega) (by simp; omega)
      rw [hypercuberef03_Meet.j0, if_neg (by simp), if_pos ⟨rfl, rfl⟩]
      exact h
theorem refjoin (f g : List C) (k : Nat) (hl : f.length ≤ 100) (hlg : g.length ≤ 100) (hk : 100 ≤ k) : hypercuberef03_Join.f k (LC f) (LC g) = some (LC (fJoin f g).1, (fJoin f g).2) := by
  unfold hypercuberef03_Join.f fJoin
  rw [ref3right f _ (by omega) (by omega), Option.bind_some]
  cases h1 : H.right f
  · rw [if_neg (by simp), if_neg (by simp)]
    rfl
  · rw [if_pos rfl, ref3right g _ (by omega) (by omega), Option.bind_some]
    cases h2 : H.right g
    · rw [if_neg (by simp), if_neg (by simp)]
      rfl
    · rw [if_pos rfl, if_pos ⟨rfl, rfl⟩, Option.bind_some, if_pos (by rw [LC_len]; simp; omega), List.nil_append, Option.bind_some, if_pos (by rw [LC_len, LC_len]; omega), ← LC_append, refleastL _ (by rw [List.length_append]; omega), Option.bind_some]
      rfl
theorem refdim (i : Int) (k : Nat) (hk : 70 ≤ k) : hypercuberef03_Dim.f k i = some (LC (fDim i).1, (fDim i).2) := by
  unfold hypercuberef03_Dim.f fDim
  by_cases h1 : i < 0
  · rw [if_pos h1, if_neg (by unfold dimI; simp; omega)]
    rfl
  · rw [if_neg h1]
    by_cases h2 : i ≥ 24
    · rw [if_pos h2, if_neg (by unfold dimI; simp; omega)]
      rfl
    · have hs := setOne i.toNat k (by omega) hk
      rw [show ((i.toNat : Nat) : Int) = i by omega] at hs
      rw [if_neg h2, hs, Option.bind_some, if_pos (show dimI i = true from decide_eq_true (by omega))]
      rfl
theorem same3_l0 (b : Bool) (n : Nat) (hn : n ≤ 1000000) : ∀ (d k i : Nat) (x : List S60), x.length = n → i + d = n → d < k → ∃ y, hypercubelaw03_same.l0 k x b (n : Int) (i : Int) = some (b, y)
  | d, 0, _, _, _, _, hk => absurd hk (by omega)
  | 0, k + 1, i, x, hx, hi, _ => ⟨x, by rw [hypercubelaw03_same.l0, if_neg (by omega)]⟩
  | d + 1, k + 1, i, x, hx, hi, hk => by
    have e2 : wrap64 ((i : Int) + 1) = ((i + 1 : Nat) : Int) := by
      unfold wrap64
      omega
    rw [hypercubelaw03_same.l0, if_pos (by omega), if_pos (by omega), if_pos (by omega), e2]
    exact same3_l0 b n hn d k (i + 1) _ (by rw [List.length_set]; exact hx) (by omega) (by omega)
theorem same3 (a : List C) (e : Int) (k : Nat) (hl : a.length ≤ 1000) (hk : 2000 ≤ k) : ∃ y, hypercubelaw03_same.f k (LC a) e (LC a) e = some (true, y) := by
  obtain ⟨k, rfl⟩ : ∃ m, k = m + 1 := ⟨k - 1, by omega⟩
  obtain ⟨y, hy⟩ := same3_l0 true a.length (by omega) a.length k 0 (LC a) (LC_len a) (by omega) (by omega)
  refine ⟨y, ?_⟩
  unfold hypercubelaw03_same.f
  rw [same a _ (by omega) (by omega), Option.bind_some, if_pos rfl, beq_self_eq_true, hypercubelaw03_same.j0, LC_len]
  exact hy
theorem FormulaJoins (f g : List C) (i : Int) (_wi : (Lit.int .i64 i).wf = true) : ∃ k, hypercubelaw03_FormulaJoins.f k (LC f) (LC g) i = some true := by
  obtain ⟨k, hk⟩ : ∃ k, k = 20000 := ⟨_, rfl⟩
  refine ⟨k, ?_⟩
  unfold hypercubelaw03_FormulaJoins.f
  have hw := works k (by omega)
  have hlf := LC_len f
  have hlg := LC_len g
  by_cases h24 : 24 < f.length ∨ 24 < g.length
  · rw [if_pos (by omega), hw]
  obtain ⟨y1, s1⟩ := same3 (fJoin f g).1 (fJoin f g).2 k (by have := fJoin_len f g; omega) (by omega)
  obtain ⟨y2, s2⟩ := same3 (fMeet f g).1 (fMeet f g).2 k (by have := fMeet_len f g; omega) (by omega)
  obtain ⟨y3, s3⟩ := same3 (fDim i).1 (fDim i).2 k (by unfold fDim; split <;> simp) (by omega)
  have hd : formula_Dim.f i = some (LC (fDim i).1, (fDim i).2) := fdim24 i
  have hr : formula_Right.f k (LC f) = some (H.right f) := fright24 f k (by omega) (by omega)
  rw [if_neg (by omega), joinL f g (by omega) (by omega), Option.bind_some, refjoin f g k (by omega) (by omega) (by omega), Option.bind_some, meetL f g (by omega) (by omega), Option.bind_some, ref3meet f g k (by omega) (by omega) (by omega), Option.bind_some, hd, Option.bind_some, refdim i k (by omega), Option.bind_some,
    s1, Option.bind_some, s2, Option.bind_some, s3, Option.bind_some, hr, Option.bind_some, ref3right f k (by omega) (by omega), Option.bind_some, same f k (by omega) (by omega), Option.bind_some, same g k (by omega) (by omega), Option.bind_some, if_pos ⟨rfl, rfl, rfl, rfl, rfl, rfl⟩, hw]
end Go.Proofs.YtfbcgjkagdbckaaDoor.Pure
