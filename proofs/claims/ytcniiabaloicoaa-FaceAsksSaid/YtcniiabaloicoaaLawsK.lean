/-
PLAIN LAW: the statement FaceAsks.
-/
import Derived.Laws.BitsAllLaws
import Derived.Test.YtcniiabaloicoaaNat
import Derived.Test.YtcniiabaloicoaaFh
import Derived.Test.YtcniiabaloicoaaFe
import Derived.Test.YtcniiabaloicoaaXFkx
namespace Go.Proofs.Ytcniiabaloicoaa.Pure
open Go.RowKit Go.Proofs.Ytcniiabaloicoaa.XFk Go.Proofs.YtcniiabaloicoaaW.PrintWords Go.Proofs.YtcniiabaloicoaaW.PrintLast Go.Proofs.YtcniiabaloicoaaW.PrintMore H

theorem wrap64_small {n : Int} (h1 : -9223372036854775808 ≤ n) (h2 : n < 9223372036854775808) : wrap64 n = n := by
  unfold wrap64
  omega
theorem u64w (n : Nat) (h : n < 18446744073709551616) : IntKind.u64.wrap (n : Int) = (n : Int) := by
  rw [IntKind.wrap_u64]
  omega
def LC (l : List C) : List S32 := l.map ofC24
theorem LC_len (l : List C) : (LC l).length = l.length := List.length_map ..
theorem LC_append (a b : List C) : LC (a ++ b) = LC a ++ LC b := List.map_append ..
theorem rdC (l : List C) (i : Nat) (h : i < l.length) : rd_T32 (LC l) (i : Int) = ofC24 l[i] := by
  unfold rd_T32 LC
  rw [Int.toNat_natCast, List.getD_eq_getElem?_getD, List.getElem?_map, List.getElem?_eq_getElem h]
  rfl
theorem backLC (l : List C) : (LC l).map toC24 = l := by
  unfold LC
  rw [List.map_map]
  refine (List.map_congr_left (g := id) fun c _ => ?_).trans (List.map_id _)
  rw [Function.comp_apply, toC_ofC24]
  rfl
theorem okLC {l : List C} (h : l.length ≤ 1000000) : okL24 (LC l) := ⟨by unfold LC; rw [List.all_map, List.all_eq_true]; intro c _; rw [Function.comp_apply, inR_ofC24], by rw [LC_len]; exact h⟩
theorem wf_u32 {a : Int} (h : (Lit.int .u32 a).wf = true) : ∃ n : Nat, a = n ∧ n < 4294967296 := by
  have h' : 0 ≤ a ∧ a ≤ 4294967295 := by simpa [Lit.wf, IntKind.min, IntKind.max, IntKind.bits, IntKind.signed] using h
  exact ⟨a.toNat, by omega, by omega⟩
theorem wf_i64 {a : Int} (h : (Lit.int .i64 a).wf = true) : -9223372036854775808 ≤ a ∧ a < 9223372036854775808 := by
  have h' : -9223372036854775808 ≤ a ∧ a ≤ 9223372036854775807 := by simpa [Lit.wf, IntKind.min, IntKind.max, IntKind.bits, IntKind.signed] using h
  omega

def L (l : List Nat) : List Int := l.map fun i : Nat => (i : Int)
theorem L_len (l : List Nat) : (L l).length = l.length := List.length_map ..
theorem rd_mid (pre post : List Nat) (a : Nat) : rd (L (pre ++ a :: post)) (pre.length : Int) = (a : Int) := by
  unfold rd L
  simp
theorem set_mid (pre post : List Nat) (a b : Nat) : (L (pre ++ a :: post)).set ((pre.length : Int)).toNat (b : Int) = L (pre ++ b :: post) := by
  unfold L
  rw [Int.toNat_natCast, List.map_append, List.map_append, List.set_append]
  simp
theorem rightL (l : List C) (h : l.length ≤ 1000000) : face_Right.f (LC l) = some (faceR l) := by
  unfold face_Right.f
  rw [if_pos (okLC h), backLC]
theorem ofL (l : List C) (h : l.length ≤ 1000000) : face_Of.f (LC l) = some (LC (ofF l).1, (ofF l).2) := by
  unfold face_Of.f
  rw [if_pos (okLC h), backLC]
  rfl
theorem allL (l : List C) (i : Int) (h : l.length ≤ 1000000) : face_All.f (LC l) i = some (LC (allF l i).1, (allF l i).2) := by
  unfold face_All.f
  rw [if_pos (okLC h), backLC]
  rfl
theorem restrL (l : List C) (c : C) (h : l.length ≤ 1000000) : face_Restrict.f (LC l) (un c.1) (un c.2) = some (LC (restrF l c).1, (restrF l c).2) := by
  have h2 : toC24 ⟨un c.1, un c.2⟩ = c := toC_ofC24 c
  unfold face_Restrict.f
  rw [if_pos ⟨okLC h, inR_ofC24 c⟩, backLC, h2]
  rfl
theorem same_l0 (a b : List C) (hab : a.length = b.length) (hl : a.length < 4611686018427387904) : ∀ (d k i : Nat), i + d = a.length → d < k → a.take i = b.take i → hypercuberef02_Same.l0 k (LC a) (LC b) (i : Int) = some (decide (a = b))
  | d, 0, _, _, hk, _ => absurd hk (by omega)
  | 0, k + 1, i, hi, _, ht => by
    have e : a = b := by rw [← List.take_of_length_le (l := a) (i := i) (by omega), ht, List.take_of_length_le (by omega)]
    rw [hypercuberef02_Same.l0, if_neg (by rw [LC_len]; omega), decide_eq_true e]
  | d + 1, k + 1, i, hi, hk, ht => by
    have hia : i < a.length := by omega
    have hib : i < b.length := by omega
    have e2 : wrap64 ((i : Int) + 1) = ((i + 1 : Nat) : Int) := by
      unfold wrap64
      omega
    rw [hypercuberef02_Same.l0, if_pos (by rw [LC_len]; omega), if_pos (by omega), if_pos (by rw [LC_len]; omega), rdC a i hia, rdC b i hib]
    have hq : (!((ofC24 a[i]).f0 == (ofC24 b[i]).f0) || !((ofC24 a[i]).f1 == (ofC24 b[i]).f1)) = !decide (a[i] = b[i]) := by
      unfold ofC24
      rw [un_beq, un_beq, Bool.eq_iff_iff]
      simp [Prod.ext_iff]
    rw [hq, e2]
    by_cases hc : a[i] = b[i]
    · rw [if_neg (by simp [hc])]
      refine same_l0 a b hab hl d k (i + 1) (by omega) (by omega) ?_
      rw [List.take_succ_eq_append_getElem hia, List.take_succ_eq_append_getElem hib, ht, hc]
    · rw [if_pos (by simp [hc]), decide_eq_false (fun e => hc (by subst e; rfl))]
theorem sameL (a b : List C) (k : Nat) (hl : a.length < 4611686018427387904) (hk : a.length < k) : hypercuberef02_Same.f k (LC a) (LC b) = some (decide (a = b)) := by
  unfold hypercuberef02_Same.f
  rw [LC_len, LC_len]
  by_cases h : a.length = b.length
  · rw [if_pos (by omega)]
    exact same_l0 a b h hl a.length k 0 (by omega) hk rfl
  · rw [if_neg (by omega), decide_eq_false (fun e => h (by rw [e]))]
theorem same (l : List C) (k : Nat) (hl : l.length < 4611686018427387904) (hk : l.length < k) : hypercuberef02_Same.f k (LC l) (LC l) = some true := by
  rw [sameL l l k hl hk, decide_eq_true rfl]
theorem works (k : Nat) (hk : 5 ≤ k) : hypercubelaw05_works.f k = some true := by
  obtain ⟨k, rfl⟩ : ∃ j, k = j + 5 := ⟨k - 5, by omega⟩
  have e1 := ofL [(0, 2), (1, 0)] (by decide)
  have e2 := ofL [(1, 1)] (by decide)
  have e3 := restrL [(1, 2), (4, 0)] (1, 0) (by decide)
  have e4 := allL [(0, 1), (1, 0), (2, 0)] 0 (by decide)
  rw [ex1] at e1
  rw [ex2] at e2
  rw [ex3] at e3
  rw [ex4] at e4
  have s1 := same [(0, 2), (4, 0)] (k + 5) (by decide) (by simp)
  have s2 := same [(2, 0)] (k + 5) (by decide) (by simp)
  have f1 : LC [(0, 2), (1, 0)] = [⟨0, 2⟩, ⟨1, 0⟩] := rfl
  have f2 : LC [(1, 1)] = [⟨1, 1⟩] := rfl
  have f3 : LC [(1, 2), (4, 0)] = [⟨1, 2⟩, ⟨4, 0⟩] := rfl
  have f4 : LC [(0, 1), (1, 0), (2, 0)] = [⟨0, 1⟩, ⟨1, 0⟩, ⟨2, 0⟩] := rfl
  have f5 : LC [(0, 2), (4, 0)] = [⟨0, 2⟩, ⟨4, 0⟩] := rfl
  have f6 : LC [(2, 0)] = [⟨2, 0⟩] := rfl
  have u1 : un (1, 0).1 = 1 := rfl
  have u2 : un ((1, 0) : C).2 = 0 := rfl
  have u3 : un ((1, 0) : C).1 = 1 := rfl
  rw [f1] at e1
  rw [f2] at e2
  rw [f3, f5, u2, u3] at e3
  rw [f4, f6] at e4
  rw [f5] at s1
  rw [f6] at s2
  unfold hypercubelaw05_works.f
  rw [e1, Option.bind_some, e2, Option.bind_some, e3, Option.bind_some, e4, Option.bind_some, if_pos rfl, if_pos rfl, if_pos rfl, if_pos rfl]
  refine (if_pos ?_).trans ?_
  · rfl
  refine (if_pos ?_).trans ?_
  · rfl
  rw [s1, Option.bind_some, if_pos rfl, s2, Option.bind_some]
theorem holdsL (l : List C) (c : C) (h : l.length ≤ 1000000) : face_Holds.f (LC l) (un c.1) (un c.2) = some (holdF l c) := by
  have h2 : toC24 ⟨un c.1, un c.2⟩ = c := toC_ofC24 c
  unfold face_Holds.f
  rw [if_pos ⟨okLC h, inR_ofC24 c⟩, backLC, h2]
theorem entL (f g : List C) (hf : f.length ≤ 1000000) (hg : g.length ≤ 1000000) : face_Entails.f (LC f) (LC g) = some (entF f g) := by
  unfold face_Entails.f
  rw [if_pos ⟨okLC hf, okLC hg⟩, backLC, backLC]
theorem entF_eq {f g : List C} (hf : faceR f = true) (hg : faceR g = true) : entF f g = (f.all (fun c => E g c), 0) := by
  unfold entF
  rw [if_pos ⟨hf, hg⟩]
  have e : (fun c => !(g.any fun d => H.below c d)) = fun c => !(E g c) := rfl
  rw [e, List.not_any_eq_all_not]
  simp only [Bool.not_not]
theorem ent_iff {f g : List C} : (f.all fun c => E g c) = true ↔ ∀ c ∈ f, ∃ d ∈ g, below c d = true := by
  rw [List.all_eq_true]
  exact ⟨fun h c hc => E_iff.1 (h c hc), fun h c hc => E_iff.2 (h c hc)⟩
theorem power_l0 (n : Nat) (hn : n ≤ 40) : ∀ (d k i : Nat), i + d = n → d < k → hypercuberef01_power.l0 k (n : Int) ((2 ^ i : Nat) : Int) (i : Int) = some ((2 ^ n : Nat) : Int)
  | d, 0, _, _, hk => absurd hk (by omega)
  | 0, k + 1, i, hi, _ => by
    unfold hypercuberef01_power.l0
    rw [if_neg (by omega), show i = n by omega]
  | d + 1, k + 1, i, hi, hk => by
    have hp : 2 ^ (i + 1) ≤ 2 ^ 40 := Nat.pow_le_pow_right (by omega) (by omega)
    have he : 2 ^ (i + 1) = 2 ^ i * 2 := Nat.pow_succ ..
    have e1 : wrap64 (((2 ^ i : Nat) : Int) * 2) = ((2 ^ (i + 1) : Nat) : Int) := by
      rw [wrap64_small (by omega) (by omega)]
      omega
    have e2 : wrap64 ((i : Int) + 1) = ((i + 1 : Nat) : Int) := by
      rw [wrap64_small (by omega) (by omega)]
      omega
    unfold hypercuberef01_power.l0
    rw [if_pos (by omega), e1, e2]
    exact power_l0 n hn d k (i + 1) (by omega) (by omega)
theorem power (n k : Nat) (hn : n ≤ 40) (hk : 41 ≤ k) : hypercuberef01_power.f k (n : Int) = some ((2 ^ n : Nat) : Int) := by
  unfold hypercuberef01_power.f
  exact power_l0 n hn n k 0 (by omega) (by omega)

theorem has (s k : Nat) (i : Int) (hs : s < 4294967296) (hk : 41 ≤ k) : hypercuberef01_Has.f k (s : Int) i = some (decide (0 ≤ i ∧ i < 24) && s.testBit i.toNat) := by
  unfold hypercuberef01_Has.f
  by_cases h0 : i ≥ 0
  · by_cases h1 : i < 24
    · obtain ⟨n, rfl⟩ := Int.eq_ofNat_of_zero_le h0
      have hp : 0 < 2 ^ n := Nat.two_pow_pos n
      have hd : s / 2 ^ n ≤ s := Nat.div_le_self ..
      rw [if_pos h0, if_pos h1, power n k (by omega) hk]
      simp only [Option.bind_some]
      rw [if_neg (by omega), wrap64_small (n := (s : Int)) (by omega) (by omega), ← Int.ofNat_tdiv, wrap64_small (Int.le_trans (by decide) (Int.natCast_nonneg _)) (Int.lt_of_le_of_lt (Int.ofNat_le.2 hd) (by omega))]
      rw [show (2 : Int) = ((2 : Nat) : Int) from rfl, ← Int.ofNat_tmod, Int.toNat_natCast, Nat.testBit_eq_decide_div_mod_eq]
      rw [Option.some.injEq, Bool.eq_iff_iff]
      simp only [beq_iff_eq, Bool.and_eq_true, decide_eq_true_eq]
      omega
    · rw [if_pos h0, if_neg h1]
      simp [h1]
  · rw [if_neg h0]
    have : ¬ 0 ≤ i := h0
    simp [this]
theorem r1_lt (x : UInt32) : r1 x = decide (x.toNat < 16777216) := rfl
theorem clash_l0 (p n : Nat) (hp : p < 16777216) (hn : n < 16777216) : ∀ (d k i : Nat), i + d = 24 → d + 50 ≤ k → (∀ j, j < i → (p &&& n).testBit j = false) →
    hypercuberef02_Clash.l0 k (i : Int) (p : Int) (n : Int) = some (decide (p &&& n ≠ 0))
  | d, 0, _, _, hk, _ => absurd hk (by omega)
  | 0, k + 1, i, hi, _, hb => by
    obtain rfl : i = 24 := by omega
    have h0 : p &&& n = 0 := by
      apply Nat.eq_of_testBit_eq
      intro j
      rw [Nat.zero_testBit]
      rcases Nat.lt_or_ge j 24 with h | h
      · exact hb j h
      · rw [Nat.testBit_and, testBit_high hp h]; rfl
    rw [hypercuberef02_Clash.l0, if_neg (by omega), h0]
    rfl
  | d + 1, k + 1, i, hi, hk, hb => by
    have e2 : wrap64 ((i : Int) + 1) = ((i + 1 : Nat) : Int) := by
      rw [wrap64_small (by omega) (by omega)]
      omega
    have h1 := has p k (i : Int) (by omega) (by omega)
    have h2 := has n k (i : Int) (by omega) (by omega)
    rw [Int.toNat_natCast, decide_eq_true (by omega), Bool.true_and] at h1 h2
    have ih : (p &&& n).testBit i = false → hypercuberef02_Clash.l0 k ((i + 1 : Nat) : Int) (p : Int) (n : Int) = some (decide (p &&& n ≠ 0)) := fun hf =>
      clash_l0 p n hp hn d k (i + 1) (by omega) (by omega) fun j hj => by
        rcases Nat.lt_or_ge j i with h | h
        · exact hb j h
        · rw [show j = i by omega]; exact hf
    rw [Nat.testBit_and] at ih
    rw [hypercuberef02_Clash.l0, if_pos (by omega), h1, Option.bind_some, e2]
    cases hpb : p.testBit i
    · rw [hpb] at ih
      rw [if_neg Bool.false_ne_true]
      exact ih rfl
    · rw [hpb] at ih
      rw [if_pos rfl, h2, Option.bind_some]
      cases hnb : n.testBit i
      · rw [hnb] at ih
        rw [if_neg Bool.false_ne_true]
        exact ih rfl
      · rw [if_pos rfl]
        have : p &&& n ≠ 0 := fun e => by
          have h3 := Nat.testBit_and p n i
          rw [e, hpb, hnb, Nat.zero_testBit] at h3
          cases h3
        rw [decide_eq_true this]
theorem refclash (c : C) (k : Nat) (hc : ok c = true) (hk : 100 ≤ k) : hypercuberef02_Clash.f k (un c.1) (un c.2) = some (decide (c.1 &&& c.2 ≠ 0)) := by
  unfold ok at hc
  rw [Bool.and_eq_true, r1_lt, r1_lt, decide_eq_true_eq, decide_eq_true_eq] at hc
  unfold hypercuberef02_Clash.f un
  have h := clash_l0 c.1.toNat c.2.toNat hc.1 hc.2 24 k 0 (by omega) (by omega) (fun j hj => absurd hj (by omega))
  rw [show ((0 : Nat) : Int) = 0 from rfl] at h
  rw [h, Option.some.injEq, decide_eq_decide, ne_eq, ne_eq, ← UInt32.toNat_inj, UInt32.toNat_and]
  rfl
theorem refleastL (l : List C) (h : l.length ≤ 1000000) : hypercuberef02_Least.f (LC l) = some (LC (least l).1, (least l).2) := by
  unfold hypercuberef02_Least.f
  rw [if_pos (okLC h), backLC, leastR_eq]
  rfl
theorem least_le64 (l : List C) : (least l).1.length ≤ 64 := by
  rcases least_cases l with ⟨_, e⟩ | ⟨_, _, e⟩ | ⟨_, h2, e⟩
  · rw [e]; simp
  · rw [e]; simp
  · rw [e]
    show (sortC (keep l)).length ≤ 64
    rw [length_sortC]
    exact h2
theorem ref3right (l : List C) (k : Nat) (h : l.length ≤ 1000000) (hk : 64 < k) : hypercuberef03_Right.f k (LC l) = some (H.right l) := by
  have h64 := least_le64 l
  unfold hypercuberef03_Right.f H.right
  rw [refleastL l h, Option.bind_some]
  by_cases he : (least l).2 = 0
  · rw [if_pos he, sameL _ _ k (by omega) (by omega), Option.bind_some, decide_eq_true he, Bool.true_and]
  · rw [if_neg he, decide_eq_false he, Bool.false_and]
theorem ref5right_l0 (l : List C) (hok : l.all ok = true) (hl : l.length ≤ 1000000) : ∀ (d k i : Nat), i + d = l.length → d + 110 < k → (∀ x ∈ l.take i, H.clash x = false) → hypercuberef05_Right.l0 k (LC l) (i : Int) = some (!l.any H.clash)
  | d, 0, _, _, hk, _ => absurd hk (by omega)
  | 0, k + 1, i, hi, _, ht => by
    rw [hypercuberef05_Right.l0, if_neg (by rw [LC_len]; omega), List.any_eq_false.2]
    · rfl
    · intro x hx
      rw [ht x (by rw [List.take_of_length_le (by omega)]; exact hx)]
      exact Bool.false_ne_true
  | d + 1, k + 1, i, hi, hk, ht => by
    have hil : i < l.length := by omega
    have e2 : wrap64 ((i : Int) + 1) = ((i + 1 : Nat) : Int) := by
      unfold wrap64
      omega
    have hc : hypercuberef02_Clash.f k (ofC24 l[i]).f0 (ofC24 l[i]).f1 = some (H.clash l[i]) := refclash l[i] k (List.all_eq_true.1 hok _ (List.getElem_mem _)) (by omega)
    rw [hypercuberef05_Right.l0, if_pos (by rw [LC_len]; omega), if_pos (by omega), rdC l i hil, hc, Option.bind_some, e2]
    cases h1 : H.clash l[i]
    · rw [if_neg (by simp)]
      refine ref5right_l0 l hok hl d k (i + 1) (by omega) (by omega) fun x hx => ?_
      rw [List.take_succ_eq_append_getElem hil] at hx
      rcases List.mem_append.1 hx with h | h
      · exact ht x h
      · rw [List.mem_singleton.1 h]
        exact h1
    · rw [if_pos rfl, List.any_eq_true.2 ⟨l[i], List.getElem_mem _, h1⟩]
      rfl
theorem ref5right (l : List C) (k : Nat) (h : l.length ≤ 1000000) (hk : l.length + 200 < k) : hypercuberef05_Right.f k (LC l) = some (faceR l) := by
  unfold hypercuberef05_Right.f faceR
  rw [ref3right l k h (by omega), Option.bind_some]
  cases hr : H.right l
  · rfl
  · rw [if_pos rfl, Bool.true_and]
    exact ref5right_l0 l (right_all hr) h l.length k 0 (by omega) (by omega) (by simp)
theorem under_l0 (l : List C) (c : C) (hl : l.length ≤ 1000000) : ∀ (d k i : Nat), i + d = l.length → d < k → (∀ x ∈ l.take i, H.below c x = false) → hypercuberef05_Under.l0 k (LC l) (i : Int) (un c.1) (un c.2) = some (l.any fun x => H.below c x)
  | d, 0, _, _, hk, _ => absurd hk (by omega)
  | 0, k + 1, i, hi, _, ht => by
    rw [hypercuberef05_Under.l0, if_neg (by rw [LC_len]; omega), List.any_eq_false.2]
    intro x hx
    rw [ht x (by rw [List.take_of_length_le (by omega)]; exact hx)]
    exact Bool.false_ne_true
  | d + 1, k + 1, i, hi, hk, ht => by
    have hil : i < l.length := by omega
    have e2 : wrap64 ((i : Int) + 1) = ((i + 1 : Nat) : Int) := by
      unfold wrap64
      omega
    have hc : hypercuberef02_Below.f (un c.1) (un c.2) (ofC24 l[i]).f0 (ofC24 l[i]).f1 = some (H.below c l[i]) := refbelow24 c l[i]
    rw [hypercuberef05_Under.l0, if_pos (by rw [LC_len]; omega), if_pos (by omega), rdC l i hil, hc, Option.bind_some, e2]
    cases h1 : H.below c l[i]
    · rw [if_neg (by simp)]
      refine under_l0 l c hl d k (i + 1) (by omega) (by omega) fun x hx => ?_
      rw [List.take_succ_eq_append_getElem hil] at hx
      rcases List.mem_append.1 hx with h | h
      · exact ht x h
      · rw [List.mem_singleton.1 h]
        exact h1
    · rw [if_pos rfl, List.any_eq_true.2 ⟨l[i], List.getElem_mem _, h1⟩]
theorem under (l : List C) (c : C) (k : Nat) (hl : l.length ≤ 1000000) (hk : l.length < k) : hypercuberef05_Under.f k (un c.1) (un c.2) (LC l) = some (l.any fun x => H.below c x) :=
  under_l0 l c hl l.length k 0 (by omega) hk (by simp)
theorem refright (c : C) (k : Nat) (hk : 30 ≤ k) : hypercuberef02_Right.f k (un c.1) (un c.2) = some (H.ok c) :=
  at_rounds (g := fun k => hypercuberef02_Right.f k (un c.1) (un c.2)) (fun k => hypercuberef02_Right.mono _ _ k) hk (refright24 c)
theorem single (c : C) (k : Nat) (hk : 110 ≤ k) : hypercuberef05_Single.f k (un c.1) (un c.2) = some (H.ok c && !H.clash c) := by
  unfold hypercuberef05_Single.f
  rw [refright c k (by omega), Option.bind_some]
  cases h : H.ok c
  · rfl
  · rw [if_pos rfl, refclash c k h (by omega), Option.bind_some]
    rfl
theorem ent_l0 (f g : List C) (hf : f.length ≤ 1000000) (hg : g.length ≤ 1000000) : ∀ (d k i : Nat), i + d = f.length → d + g.length < k → (∀ x ∈ f.take i, (g.any fun y => H.below x y) = true) → hypercuberef05_Entails.l0 k (LC f) (LC g) (i : Int) = some (!(f.any fun c => !(g.any fun y => H.below c y)), 0)
  | d, 0, _, _, hk, _ => absurd hk (by omega)
  | 0, k + 1, i, hi, _, ht => by
    rw [hypercuberef05_Entails.l0, if_neg (by rw [LC_len]; omega), List.any_eq_false.2]
    · rfl
    · intro x hx
      rw [ht x (by rw [List.take_of_length_le (by omega)]; exact hx)]
      exact Bool.false_ne_true
  | d + 1, k + 1, i, hi, hk, ht => by
    have hil : i < f.length := by omega
    have e2 : wrap64 ((i : Int) + 1) = ((i + 1 : Nat) : Int) := by
      unfold wrap64
      omega
    have hc : hypercuberef05_Under.f k (ofC24 f[i]).f0 (ofC24 f[i]).f1 (LC g) = some (g.any fun x => H.below f[i] x) := under g f[i] k hg (by omega)
    rw [hypercuberef05_Entails.l0, if_pos (by rw [LC_len]; omega), if_pos (by omega), rdC f i hil, hc, Option.bind_some, e2]
    cases h1 : (g.any fun x => H.below f[i] x)
    · rw [if_neg (by simp), List.any_eq_true.2 ⟨f[i], List.getElem_mem _, by rw [h1]; rfl⟩]
      rfl
    · rw [if_pos rfl]
      refine ent_l0 f g hf hg d k (i + 1) (by omega) (by omega) fun x hx => ?_
      rw [List.take_succ_eq_append_getElem hil] at hx
      rcases List.mem_append.1 hx with h | h
      · exact ht x h
      · rw [List.mem_singleton.1 h]
        exact h1
theorem refent (f g : List C) (k : Nat) (hf : f.length ≤ 1000000) (hg : g.length ≤ 1000000) (hk : f.length + g.length + 300 < k) : hypercuberef05_Entails.f k (LC f) (LC g) = some (entF f g) := by
  obtain ⟨k, rfl⟩ : ∃ m, k = m + 1 := ⟨k - 1, by omega⟩
  unfold hypercuberef05_Entails.f entF
  rw [ref5right f _ hf (by omega), Option.bind_some]
  cases h1 : faceR f
  · rw [if_neg (by simp), hypercuberef05_Entails.j0, if_pos rfl, if_neg (by simp)]
  · rw [if_pos rfl, ref5right g _ hg (by omega), Option.bind_some]
    cases h2 : faceR g
    · rw [hypercuberef05_Entails.j0, if_pos (by rfl), if_neg (by simp)]
    · rw [hypercuberef05_Entails.j0, if_neg (by simp), if_pos ⟨rfl, rfl⟩]
      exact ent_l0 f g hf hg f.length k 0 (by omega) (by omega) (by simp)
theorem refholds (f : List C) (c : C) (k : Nat) (hf : f.length ≤ 1000000) (hk : f.length + 300 < k) : hypercuberef05_Holds.f k (LC f) (un c.1) (un c.2) = some (holdF f c) := by
  unfold hypercuberef05_Holds.f holdF
  rw [ref5right f _ hf (by omega), Option.bind_some]
  cases h1 : faceR f
  · rw [if_neg (by simp), if_neg (by simp)]
  · rw [if_pos rfl, single c k (by omega), Option.bind_some]
    cases h2 : (H.ok c && !H.clash c)
    · rw [if_neg (by simp), if_neg (by simp)]
    · rw [if_pos rfl, under f c k hf (by omega), Option.bind_some, if_pos ⟨rfl, rfl⟩]
theorem FaceAsks (f g : List C) (c : C) : ∃ k, hypercubelaw05_FaceAsks.f k (LC f) (LC g) (un c.1) (un c.2) = some true := by
  obtain ⟨k, hk⟩ : ∃ k, k = 1000 := ⟨_, rfl⟩
  refine ⟨k + 1, ?_⟩
  have j0t : hypercubelaw05_FaceAsks.j0 (k + 1) (LC f) (LC g) true (un c.1) (un c.2) = some true := by
    rw [hypercubelaw05_FaceAsks.j0, if_pos rfl, works _ (by omega), Option.bind_some]
  unfold hypercubelaw05_FaceAsks.f
  by_cases h1 : f.length > 80
  · rw [if_pos (by rw [LC_len]; omega)]
    exact j0t
  rw [if_neg (by rw [LC_len]; omega)]
  by_cases h2 : g.length > 80
  · rw [decide_eq_true (by rw [LC_len]; omega)]
    exact j0t
  rw [decide_eq_false (by rw [LC_len]; omega), hypercubelaw05_FaceAsks.j0, if_neg (by simp), entL f g (by omega) (by omega), Option.bind_some, refent f g _ (by omega) (by omega) (by omega), Option.bind_some,
    holdsL f c (by omega), Option.bind_some, refholds f c _ (by omega) (by omega), Option.bind_some, rightL f (by omega), Option.bind_some, ref5right f _ (by omega) (by omega), Option.bind_some,
    if_pos (by simp), if_pos (by simp), if_pos rfl, if_pos (by simp), if_pos rfl, works _ (by omega), Option.bind_some]
end Go.Proofs.Ytcniiabaloicoaa.Pure
