/-
PLAIN LAW: the statement FaceTruth.
-/
import Derived.Test.YtfbcgjkagdbckaaDoorFh
import Derived.Test.YtfbcgjkagdbckaaDoorFe
import Derived.Test.YtfbcgjkagdbckaaDoorLawsN0
namespace Go.Proofs.YtfbcgjkagdbckaaDoor.Pure
open Go.RowKit Go.Proofs.YtfbcgjkagdbckaaDoor.XTf Go.Proofs.YtfbcgjkagdbckaaDoorW.PrintWords Go.Proofs.YtfbcgjkagdbckaaDoorW.PrintLast Go.Proofs.YtfbcgjkagdbckaaDoorW.PrintMore H

theorem ofL (l : List C) (h : l.length ≤ 1000000) : face_Of.f (LC l) = some (LC (ofF l).1, (ofF l).2) := by
  unfold face_Of.f
  rw [if_pos (okLC h), backLC]
  rfl
theorem allL (l : List C) (i : Int) (h : l.length ≤ 1000000) : face_All.f (LC l) i = some (LC (allF l i).1, (allF l i).2) := by
  unfold face_All.f
  rw [if_pos (okLC h), backLC]
  rfl
theorem restrL (l : List C) (c : C) (h : l.length ≤ 1000000) : face_Restrict.f (LC l) (un c.1) (un c.2) = some (LC (restrF l c).1, (restrF l c).2) := by
  have h2 : toC24 ⟨un c.1, un c.2⟩ = c := toC_ofC24 c
  unfold face_Restrict.f
  rw [if_pos ⟨okLC h, inR_ofC24 c⟩, backLC, h2]
  rfl
theorem holdsL (l : List C) (c : C) (h : l.length ≤ 1000000) : face_Holds.f (LC l) (un c.1) (un c.2) = some (holdF l c) := by
  have h2 : toC24 ⟨un c.1, un c.2⟩ = c := toC_ofC24 c
  unfold face_Holds.f
  rw [if_pos ⟨okLC h, inR_ofC24 c⟩, backLC, h2]
theorem same_l0 (a b : List C) (hab : a.length = b.length) (hl : a.length < 4611686018427387904) : ∀ (d k i : Nat), i + d = a.length → d < k → a.take i = b.take i → hypercuberef02_Same.l0 k (LC a) (LC b) (i : Int) = some (decide (a = b))
  | d, 0, _, _, hk, _ => absurd hk (by omega)
  | 0, k + 1, i, hi, _, ht => by
    have e : a = b := by rw [← List.take_of_length_le (l := a) (i := i) (by omega), ht, List.take_of_length_le (by omega)]
    rw [hypercuberef02_Same.l0, if_neg (by rw [LC_len]; omega), decide_eq_true e]
  | d + 1, k + 1, i, hi, hk, ht => by
    have hia : i < a.length := by omega
    have hib : i < b.length := by omega
    have e2 : wrap64 ((i : Int) + 1) = ((i + 1 : Nat) : Int) := by
      unfold wrap64
      omega
    rw [hypercuberef02_Same.l0, if_pos (by rw [LC_len]; omega), if_pos (by omega), if_pos (by rw [LC_len]; omega), rdC a i hia, rdC b i hib]
    have hq : (!((ofC24 a[i]).f0 == (ofC24 b[i]).f0) || !((ofC24 a[i]).f1 == (ofC24 b[i]).f1)) = !decide (a[i] = b[i]) := by
      unfold ofC24
      rw [un_beq, un_beq, Bool.eq_iff_iff]
      simp [Prod.ext_iff]
    rw [hq, e2]
    by_cases hc : a[i] = b[i]
    · rw [if_neg (by simp [hc])]
      refine same_l0 a b hab hl d k (i + 1) (by omega) (by omega) ?_
      rw [List.take_succ_eq_append_getElem hia, List.take_succ_eq_append_getElem hib, ht, hc]
    · rw [if_pos (by simp [hc]), decide_eq_false (fun e => hc (by subst e; rfl))]
theorem sameL (a b : List C) (k : Nat) (hl : a.length < 4611686018427387904) (hk : a.length < k) : hypercuberef02_Same.f k (LC a) (LC b) = some (decide (a = b)) := by
  unfold hypercuberef02_Same.f
  rw [LC_len, LC_len]
  by_cases h : a.length = b.length
  · rw [if_pos (by omega)]
    exact same_l0 a b h hl a.length k 0 (by omega) hk rfl
  · rw [if_neg (by omega), decide_eq_false (fun e => h (by rw [e]))]
theorem same (l : List C) (k : Nat) (hl : l.length < 4611686018427387904) (hk : l.length < k) : hypercuberef02_Same.f k (LC l) (LC l) = some true := by
  rw [sameL l l k hl hk, decide_eq_true rfl]
theorem works (k : Nat) (hk : 5 ≤ k) : hypercubelaw05_works.f k = some true := by
  obtain ⟨k, rfl⟩ : ∃ j, k = j + 5 := ⟨k - 5, by omega⟩
  have e1 := ofL [(0, 2), (1, 0)] (by decide)
  have e2 := ofL [(1, 1)] (by decide)
  have e3 := restrL [(1, 2), (4, 0)] (1, 0) (by decide)
  have e4 := allL [(0, 1), (1, 0), (2, 0)] 0 (by decide)
  rw [ex1] at e1
  rw [ex2] at e2
  rw [ex3] at e3
  rw [ex4] at e4
  have s1 := same [(0, 2), (4, 0)] (k + 5) (by decide) (by simp)
  have s2 := same [(2, 0)] (k + 5) (by decide) (by simp)
  have f1 : LC [(0, 2), (1, 0)] = [⟨0, 2⟩, ⟨1, 0⟩] := rfl
  have f2 : LC [(1, 1)] = [⟨1, 1⟩] := rfl
  have f3 : LC [(1, 2), (4, 0)] = [⟨1, 2⟩, ⟨4, 0⟩] := rfl
  have f4 : LC [(0, 1), (1, 0), (2, 0)] = [⟨0, 1⟩, ⟨1, 0⟩, ⟨2, 0⟩] := rfl
  have f5 : LC [(0, 2), (4, 0)] = [⟨0, 2⟩, ⟨4, 0⟩] := rfl
  have f6 : LC [(2, 0)] = [⟨2, 0⟩] := rfl
  have u1 : un (1, 0).1 = 1 := rfl
  have u2 : un ((1, 0) : C).2 = 0 := rfl
  have u3 : un ((1, 0) : C).1 = 1 := rfl
  rw [f1] at e1
  rw [f2] at e2
  rw [f3, f5, u2, u3] at e3
  rw [f4, f6] at e4
  rw [f5] at s1
  rw [f6] at s2
  unfold hypercubelaw05_works.f
  rw [e1, Option.bind_some, e2, Option.bind_some, e3, Option.bind_some, e4, Option.bind_some, if_pos rfl, if_pos rfl, if_pos rfl, if_pos rfl]
  refine (if_pos ?_).trans ?_
  · rfl
  refine (if_pos ?_).trans ?_
  · rfl
  rw [s1, Option.bind_some, if_pos rfl, s2, Option.bind_some]
theorem notT (f : List C) (hf : f.length ≤ 100) : formula_Not.f (LC f) = some (LC (fNot f).1, (fNot f).2) := by
  unfold formula_Not.f
  rw [if_pos (okLC (by omega)), backLC]
  rfl
theorem of_facts {f : List C} (hf : H.right f = true) : (ofF f).2 = 0 ∧ faceR (ofF f).1 = true ∧ (ofF f).1.length ≤ 64 ∧ ∀ c, H.clash c = false → E (ofF f).1 c = E f c := by
  have hok : (keepC calmP f).all ok = true := List.all_eq_true.2 fun x hx => by
    obtain ⟨y, hy, _, rfl⟩ := mem_keepC.1 hx
    exact List.all_eq_true.1 (right_ok hf) y hy
  have hlen : (keepC calmP f).length ≤ 64 := by
    unfold keepC
    rw [List.length_map]
    exact Nat.le_trans (List.length_filter_le ..) (len_of_right hf)
  have h0 := least_told hok hlen
  have e : ofF f = least (keepC calmP f) := by
    unfold ofF
    rw [if_pos hf]
  rw [e]
  refine ⟨h0, faceR_iff.2 ⟨right_least h0, fun x hx => ?_⟩, least_l64 _, fun c hc => ?_⟩
  · obtain ⟨y, _, hy, rfl⟩ := mem_keepC.1 (least_sub h0 hx)
    unfold calmP at hy ⊢
    simpa using hy
  · rw [E_least h0, Bool.eq_iff_iff, E_iff, E_iff]
    constructor
    · rintro ⟨d, hd, hb⟩
      obtain ⟨y, hy, _, rfl⟩ := mem_keepC.1 hd
      exact ⟨y, hy, hb⟩
    · rintro ⟨d, hd, hb⟩
      refine ⟨d, mem_keepC.2 ⟨d, hd, ?_, rfl⟩, hb⟩
      unfold calmP
      rw [clash_below hb hc]
      rfl
theorem hold_facts {f : List C} {c : C} (hf : faceR f = true) (hc : H.ok c = true) (hn : H.clash c = false) : holdF f c = (E f c, 0) := by
  unfold holdF
  rw [if_pos ⟨hf, by rw [hc, hn]; rfl⟩]
  rfl
def aval (c : C) (i : Nat) : Int := if tb c.2 i = true then 0 else if tb c.1 i = true then 1 else 2
theorem bit_test (x : UInt32) (i : Nat) (hi : i < 24) : (Go.bits .and .u32 (shr .u32 (un x) (IntKind.u64.wrap (i : Int))) 1 = 1) ↔ tb x i = true := by
  have hlt : x.toNat / 2 ^ i < 4294967296 := Nat.lt_of_le_of_lt (Nat.div_le_self ..) x.toNat_lt
  have e : shr .u32 (un x) ((i : Nat) : Int) = ((x.toNat / 2 ^ i : Nat) : Int) := by
    unfold shr un
    rw [Int.toNat_natCast, show IntKind.u32.bits = 32 from rfl, Nat.min_eq_left (by omega), show ((2 : Int) ^ i) = ((2 ^ i : Nat) : Int) by rw [Int.natCast_pow]; rfl, ← Int.natCast_ediv]
  have h := u32_and_nat (x.toNat / 2 ^ i) 1 hlt (by omega)
  rw [u64w i (by omega), e, show (1 : Int) = ((1 : Nat) : Int) from rfl, h, nat_mask1]
  unfold tb
  rw [Nat.testBit_eq_decide_div_mod_eq, decide_eq_true_iff]
  omega
theorem ft_l0 (f : List C) (c : C) (K0 : Nat) (h : ∀ k', K0 ≤ k' → hypercubelaw05_FaceTruth.l0 (k' + 1) (LC f) ((List.range 24).map (aval c)) 24 (un c.1) (un c.2) = some true) : ∀ (d k i : Nat), i + d = 24 → K0 + d < k → hypercubelaw05_FaceTruth.l0 k (LC f) ((List.range i).map (aval c)) (i : Int) (un c.1) (un c.2) = some true
  | d, 0, _, _, hk => absurd hk (by omega)
  | 0, k + 1, i, hi, hk => by
    obtain rfl : i = 24 := by omega
    exact h k (by omega)
  | d + 1, k + 1, i, hi, hk => by
    have e2 : wrap64 ((i : Int) + 1) = ((i + 1 : Nat) : Int) := by
      unfold wrap64
      omega
    have hl : ((List.range i).map (aval c)).length = i := by rw [List.length_map, List.length_range]
    have ih := ft_l0 f c K0 h d k (i + 1) (by omega) (by omega)
    rw [List.range_succ, List.map_append, List.map_singleton] at ih
    rw [hypercubelaw05_FaceTruth.l0, if_pos (by omega), if_pos (by rw [u64w i (by omega)]; omega), e2]
    unfold aval at ih ⊢
    by_cases h1 : tb c.1 i = true
    · rw [if_pos ((bit_test c.1 i (by omega)).2 h1)]
      by_cases h2 : tb c.2 i = true
      · rw [if_pos ((bit_test c.2 i (by omega)).2 h2), if_pos (by rw [List.length_map, List.length_range]; omega)]
        rw [if_pos h2] at ih
        exact ih
      · rw [if_neg (fun e => h2 ((bit_test c.2 i (by omega)).1 e)), if_pos (by rw [List.length_map, List.length_range]; omega)]
        rw [if_neg h2, if_pos h1] at ih
        exact ih
    · rw [if_neg (fun e => h1 ((bit_test c.1 i (by omega)).1 e))]
      by_cases h2 : tb c.2 i = true
      · rw [if_pos ((bit_test c.2 i (by omega)).2 h2), if_pos (by rw [List.length_map, List.length_range]; omega)]
        rw [if_pos h2] at ih
        exact ih
      · rw [if_neg (fun e => h2 ((bit_test c.2 i (by omega)).1 e)), if_pos (by rw [List.length_map, List.length_range]; omega)]
        rw [if_neg h2, if_neg h1] at ih
        exact ih
theorem atv_aval (c : C) (i : Nat) (hi : i < 24) : atv ((List.range 24).map (aval c)) i = if tb c.2 i = true then (false, false) else if tb c.1 i = true then (true, true) else (true, false) := by
  unfold atv
  rw [List.getD_eq_getElem?_getD, List.getElem?_map, List.getElem?_range hi]
  show val (aval c i) = _
  unfold aval
  by_cases h2 : tb c.2 i = true
  · rw [if_pos h2, if_pos h2]
    rfl
  · rw [if_neg h2, if_neg h2]
    by_cases h1 : tb c.1 i = true
    · rw [if_pos h1, if_pos h1]
      rfl
    · rw [if_neg h1, if_neg h1]
      rfl
theorem clause_aval (c : C) (hn : H.clash c = false) : clauseOf (atv ((List.range 24).map (aval c))) = dual c := by
  refine Prod.ext (tb_ext fun j => ?_) (tb_ext fun j => ?_)
  · rw [tbc1, tb_dual1]
    by_cases hj : j < 24
    · rw [decide_eq_true hj, Bool.true_and, Bool.true_and, atv_aval c j hj]
      cases h2 : tb c.2 j <;> cases h1 : tb c.1 j <;> rfl
    · rw [decide_eq_false hj, Bool.false_and, Bool.false_and]
  · rw [tbc2, tb_dual2]
    by_cases hj : j < 24
    · rw [decide_eq_true hj, Bool.true_and, Bool.true_and, atv_aval c j hj]
      cases h2 : tb c.2 j <;> cases h1 : tb c.1 j
      · rfl
      · rfl
      · rfl
      · exact (clash_iff.1 hn j h1 h2).elim
    · rw [decide_eq_false hj, Bool.false_and, Bool.false_and]
theorem val_aval (f : List C) (c : C) (hc : ok c = true) (hn : H.clash c = false) : valOf f (atv ((List.range 24).map (aval c))) = (E f (dual c), E f c) := by
  unfold valOf
  rw [clause_aval c hn, dual_dual hc]
theorem code_one (p : Bool × Bool) : (code p == 1) = (p.1 && p.2) := by
  rcases p with ⟨a, b⟩
  cases a <;> cases b <;> rfl
theorem code_zero (p : Bool × Bool) : (code p == 0) = (!p.1 && !p.2) := by
  rcases p with ⟨a, b⟩
  cases a <;> cases b <;> rfl
theorem ft_end (f : List C) (c : C) (hl : f.length ≤ 24) (hc : ok c = true) (hn : H.clash c = false) (k : Nat) (hk : 5000 < k) : hypercubelaw05_FaceTruth.l0 (k + 1) (LC f) ((List.range 24).map (aval c)) 24 (un c.1) (un c.2) = some true := by
  rw [hypercubelaw05_FaceTruth.l0, if_neg (by decide), EvalL _ f k (by omega) (by omega), Option.bind_some, val_aval f c hc hn]
  by_cases hf : H.right f = true
  · obtain ⟨o1, o2, o3, o4⟩ := of_facts hf
    have hup : E f c = true → E f (dual c) = true := fun h => E_mono (below_dual hc hn) h
    obtain ⟨k, rfl⟩ : ∃ m, k = m + 1 := ⟨k - 1, by omega⟩
    rw [if_pos hf, if_pos rfl, ofL f (by omega), Option.bind_some, holdsL _ c (by omega), Option.bind_some, hold_facts o2 hc hn, if_pos o1, if_pos rfl, o4 c hn]
    dsimp only
    rw [code_one]
    have e1 : (E f c != (E f (dual c) && E f c)) = false := by
      cases h1 : E f c
      · simp
      · rw [hup h1]
        rfl
    rw [show (E f c != ((E f (dual c), E f c).1 && (E f (dual c), E f c).2)) = false from e1, hypercubelaw05_FaceTruth.j2, if_neg Bool.false_ne_true]
    unfold face_OfZero.f
    rw [notT f (by omega), Option.bind_some]
    by_cases h : (fNot f).2 = 0
    · obtain ⟨_, h2, h3⟩ := fNot_told h
      obtain ⟨z1, z2, z3, z4⟩ := of_facts h2
      have h64 := len_of_right h2
      rw [if_pos h, ofL _ (by omega), Option.bind_some, Option.bind_some, if_pos z1, holdsL _ c (by omega), Option.bind_some, hold_facts z2 hc hn, if_pos rfl, z4 c hn, h3]
      dsimp only
      rw [code_zero]
      show some ((!E f (dual c)) == (!E f (dual c) && !E f c)) = some true
      cases h1 : E f c
      · simp
      · rw [hup h1]
        rfl
    · rw [if_neg h, Option.bind_some, if_neg h]
      have e3 : (fNot f).2 = 3 := by
        unfold fNot at h ⊢
        rw [if_pos hf] at h ⊢
        exact notF_err h
      rw [e3]
      rfl
  · rw [if_neg hf, if_neg (show ¬ (2 : Int) = 0 by decide)]
theorem FaceTruth (f : List C) (c : C) : ∃ k, hypercubelaw05_FaceTruth.f k (LC f) (un c.1) (un c.2) = some true := by
  obtain ⟨k, hk⟩ : ∃ k, k = 6000 := ⟨_, rfl⟩
  refine ⟨k + 1, ?_⟩
  have j0t : hypercubelaw05_FaceTruth.j0 (k + 1) (LC f) true (un c.1) (un c.2) = some true := by rw [hypercubelaw05_FaceTruth.j0, if_pos rfl]
  have hg : hypercubelaw05_great.f (LC f) [] = some (decide ((f.length : Int) > 24)) := by
    unfold hypercubelaw05_great.f
    rw [LC_len]
    by_cases h : (f.length : Int) > 24
    · rw [if_pos h, decide_eq_true h]
    · rw [if_neg h, decide_eq_false h]
      rfl
  unfold hypercubelaw05_FaceTruth.f
  rw [works _ (by omega), Option.bind_some, if_pos rfl, hg, Option.bind_some]
  by_cases h24 : (f.length : Int) > 24
  · rw [decide_eq_true h24, if_pos rfl]
    exact j0t
  rw [decide_eq_false h24, if_neg Bool.false_ne_true, right24, Option.bind_some]
  by_cases hc : H.ok c = true
  · rw [if_pos hc, clash24, Option.bind_some]
    by_cases hn : H.clash c = true
    · rw [hn]
      exact j0t
    · have hn' : H.clash c = false := by simpa using hn
      rw [hn', hypercubelaw05_FaceTruth.j0, if_neg Bool.false_ne_true]
      exact ft_l0 f c 5001 (fun k' hk' => ft_end f c (by omega) hc hn' k' (by omega)) 24 k 0 (by omega) (by omega)
  · rw [if_neg hc]
    exact j0t
end Go.Proofs.YtfbcgjkagdbckaaDoor.Pure
