/-
PLAIN LAW: what the functions on clauses compute; the chapter's example.
-/
import Derived.Test.YtcniiabaloicoaaXLex
namespace Go.Proofs.Ytcniiabaloicoaa.Pure
open Go.RowKit Go.Proofs.Ytcniiabaloicoaa.XLe Go.Proofs.YtcniiabaloicoaaW.PrintWords Go.Proofs.YtcniiabaloicoaaW.PrintLast Go.Proofs.YtcniiabaloicoaaW.PrintMore H

theorem wrap64_small {n : Int} (h1 : -9223372036854775808 ≤ n) (h2 : n < 9223372036854775808) : wrap64 n = n := by
  unfold wrap64
  omega
theorem u64w (n : Nat) (h : n < 18446744073709551616) : IntKind.u64.wrap (n : Int) = (n : Int) := by
  rw [IntKind.wrap_u64]
  omega
def LC (l : List C) : List S32 := l.map ofC24
theorem LC_len (l : List C) : (LC l).length = l.length := List.length_map ..
theorem LC_append (a b : List C) : LC (a ++ b) = LC a ++ LC b := List.map_append ..
theorem rdC (l : List C) (i : Nat) (h : i < l.length) : rd_T32 (LC l) (i : Int) = ofC24 l[i] := by
  unfold rd_T32 LC
  rw [Int.toNat_natCast, List.getD_eq_getElem?_getD, List.getElem?_map, List.getElem?_eq_getElem h]
  rfl
set_option maxRecDepth 100000 in
theorem least24 (l : List C) (h : l.length ≤ 1000000) : clause_Least.f (LC l) = some (LC (least l).1, (least l).2) := by
  unfold clause_Least.f
  have h1 : (LC l).all inR24 = true := by
    unfold LC
    rw [List.all_map, List.all_eq_true]
    intro c _
    rw [Function.comp_apply, inR_ofC24]
  have h2 : (LC l).map toC24 = l := by
    unfold LC
    rw [List.map_map]
    refine (List.map_congr_left (g := id) fun c _ => ?_).trans (List.map_id _)
    rw [Function.comp_apply, toC_ofC24]
    rfl
  have hc : (LC l).all inR24 = true ∧ (LC l).length ≤ 1000000 := ⟨h1, by rw [LC_len]; exact h⟩
  rw [if_pos hc, h2]
  rfl
theorem meet24 (a b : C) : clause_Meet.f (un a.1) (un a.2) (un b.1) (un b.2) = some (un (meet a b).1, un (meet a b).2) := by
  unfold clause_Meet.f
  rw [un_or, un_or]
  rfl
theorem same_l0 (l : List C) (hl : l.length < 4611686018427387904) : ∀ (d k i : Nat), i + d = l.length → d < k → hypercuberef02_Same.l0 k (LC l) (LC l) (i : Int) = some true
  | d, 0, _, _, hk => absurd hk (by omega)
  | 0, k + 1, i, hi, _ => by
    rw [hypercuberef02_Same.l0, if_neg (by rw [LC_len]; omega)]
  | d + 1, k + 1, i, hi, hk => by
    have e2 : wrap64 ((i : Int) + 1) = ((i + 1 : Nat) : Int) := by
      rw [wrap64_small (by omega) (by omega)]
      omega
    rw [hypercuberef02_Same.l0, if_pos (by rw [LC_len]; omega), if_pos (by omega), if_pos (by rw [LC_len]; omega), if_neg (by simp), e2]
    exact same_l0 l hl d k (i + 1) (by omega) (by omega)
theorem same (l : List C) (k : Nat) (hl : l.length < 4611686018427387904) (hk : l.length < k) : hypercuberef02_Same.f k (LC l) (LC l) = some true := by
  unfold hypercuberef02_Same.f
  rw [if_pos rfl]
  exact same_l0 l hl l.length k 0 (by omega) hk

theorem least_of_isLeast {l o : List C} (h1 : l.all ok = true) (h2 : o.length ≤ 64) (h : IsLeast l o) : least l = (o, 0) := by
  have e : sortC (keep l) = o := (isLeast_keep l).unique h
  have e2 : (keep l).length = o.length := by rw [← length_sortC, e]
  unfold least
  rw [h1, if_pos rfl, if_pos (by omega), e]
theorem least_w1 : least [(3, 0), (1, 0), (2, 4), (1, 0)] = ([(1, 0), (2, 4)], 0) := by
  refine (least_of_isLeast (o := [(1, 0), (2, 4)]) (by decide) (by decide) ⟨by unfold Sorted; decide, fun c => ?_⟩)
  constructor
  · intro h
    simp only [List.mem_cons, List.not_mem_nil, or_false] at h
    rcases h with rfl | rfl <;> decide
  · rintro ⟨h1, h2⟩
    simp only [List.mem_cons, List.not_mem_nil, or_false] at h1
    rcases h1 with rfl | rfl | rfl | rfl
    · have := h2 (1, 0) (by decide) (by decide)
      exact absurd this (by decide)
    · decide
    · decide
    · decide
theorem least_w2 : least [(0, 0), (1, 0)] = ([(0, 0)], 0) := by
  refine (least_of_isLeast (o := [(0, 0)]) (by decide) (by decide) ⟨by unfold Sorted; decide, fun c => ?_⟩)
  constructor
  · intro h
    simp only [List.mem_cons, List.not_mem_nil, or_false] at h
    subst h
    decide
  · rintro ⟨h1, h2⟩
    simp only [List.mem_cons, List.not_mem_nil, or_false] at h1
    rcases h1 with rfl | rfl
    · decide
    · have := h2 (0, 0) (by decide) (by decide)
      exact absurd this (by decide)
theorem works (k : Nat) (hk : 5 ≤ k) : hypercubelaw02_works.f k = some true := by
  have e1 := least24 [(3, 0), (1, 0), (2, 4), (1, 0)] (by decide)
  have e2 := least24 [(0, 0), (1, 0)] (by decide)
  rw [least_w1] at e1
  rw [least_w2] at e2
  have s1 := same [(1, 0), (2, 4)] k (by decide) (by simp; omega)
  have s2 := same [(0, 0)] k (by decide) (by simp; omega)
  have c1 : clause_Clash.f 1 3 = some true := by decide +kernel
  have f1 : LC [(3, 0), (1, 0), (2, 4), (1, 0)] = [⟨3, 0⟩, ⟨1, 0⟩, ⟨2, 4⟩, ⟨1, 0⟩] := rfl
  have f2 : LC [(0, 0), (1, 0)] = [⟨0, 0⟩, ⟨1, 0⟩] := rfl
  have f3 : LC [(1, 0), (2, 4)] = [⟨1, 0⟩, ⟨2, 4⟩] := rfl
  have f4 : LC [(0, 0)] = [⟨0, 0⟩] := rfl
  rw [f1, f3] at e1
  rw [f2, f4] at e2
  rw [f3] at s1
  rw [f4] at s2
  unfold hypercubelaw02_works.f
  rw [e1, Option.bind_some, e2, Option.bind_some, if_pos rfl, s1, Option.bind_some, if_pos rfl, if_pos rfl, s2, Option.bind_some, if_pos rfl, c1, Option.bind_some]
end Go.Proofs.Ytcniiabaloicoaa.Pure
