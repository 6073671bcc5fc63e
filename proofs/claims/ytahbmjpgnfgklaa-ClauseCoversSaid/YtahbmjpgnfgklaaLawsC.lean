/-
PLAIN LAW: the statements ClauseCovers and ClauseTurns.
-/
import Derived.Test.YtahbmjpgnfgklaaClP
namespace Go.Proofs.Ytahbmjpgnfgklaa.Pure
open Go.RowKit Go.Proofs.Ytahbmjpgnfgklaa.XCm Go.Proofs.YtahbmjpgnfgklaaW.PrintWords Go.Proofs.YtahbmjpgnfgklaaW.PrintLast Go.Proofs.YtahbmjpgnfgklaaW.PrintMore H

/-! ### ClauseTurns -/
theorem least_more {l : List C} {x y : C} (hx : x ∈ l) (hy : below y x = true) (hok : ok y = true) : least (l ++ [x, y]) = least l := by
  have hk : sortC (keep (l ++ [x, y])) = sortC (keep l) := by
    refine (isLeast_keep (l ++ [x, y])).unique ⟨(isLeast_keep l).1, fun c => ?_⟩
    rw [(isLeast_keep l).2 c]
    constructor
    · rintro ⟨h1, h2⟩
      refine ⟨List.mem_append_left _ h1, fun d hd hb => ?_⟩
      rcases List.mem_append.1 hd with h3 | h3
      · exact h2 d h3 hb
      · simp only [List.mem_cons, List.not_mem_nil, or_false] at h3
        rcases h3 with rfl | rfl
        · exact h2 _ hx hb
        · have h4 := h2 x hx (below_trans hb hy)
          subst h4
          exact (below_antisymm hb hy).symm
    · rintro ⟨h1, h2⟩
      have hxx := h2 x (List.mem_append_left _ hx)
      refine ⟨?_, fun d hd hb => h2 d (List.mem_append_left _ hd) hb⟩
      rcases List.mem_append.1 h1 with h3 | h3
      · exact h3
      · simp only [List.mem_cons, List.not_mem_nil, or_false] at h3
        rcases h3 with rfl | rfl
        · exact hx
        · rw [← hxx hy]; exact hx
  have hl : (keep (l ++ [x, y])).length = (keep l).length := by rw [← length_sortC, hk, length_sortC]
  have ha : (l ++ [x, y]).all ok = l.all ok := by
    rw [List.all_append]
    cases h : l.all ok
    · simp
    · have : ok x = true := List.all_eq_true.1 h x hx
      simp [this, hok]
  unfold least
  rw [ha, hl, hk]
theorem least_turn {l : List C} {x y : C} (hx : x ∈ l) (hy : below y x = true) (hok : ok y = true) : least (l.reverse ++ [x, y]) = least l := by
  rw [least_more (by simpa using hx) hy hok]
  exact least_congr fun c => by simp
/-- Where the opposite is not right: both tell 2. -/
theorem least_bad {l : List C} (h : l.all ok = false) (m : List C) (hm : ∀ c, c ∈ l → c ∈ m) : least m = ([], 2) := by
  have : m.all ok = false := by
    rw [Bool.eq_false_iff]
    intro h2
    rw [Bool.eq_false_iff] at h
    exact h (List.all_eq_true.2 fun c hc => List.all_eq_true.1 h2 c (hm c hc))
  unfold least
  rw [this]
  rfl
theorem turn_eq {l : List C} {x m : C} (hx : x ∈ l) (hm : ok m = true) : least (l.reverse ++ [x, meet x m]) = least l := by
  cases h : l.all ok
  · rw [least_bad h l fun _ h => h, least_bad h _ fun c hc => by simp [hc]]
  · have h1 : ok x = true := List.all_eq_true.1 h x hx
    exact least_turn hx (below_meet.1 (below_refl _)).1 (by rw [ok_meet, h1, hm]; rfl)
theorem least_length (l : List C) : (least l).1.length ≤ 64 := by
  rcases least_cases l with ⟨_, e⟩ | ⟨_, _, e⟩ | ⟨_, h, e⟩
  · rw [e]; simp
  · rw [e]; simp
  · rw [e]
    show (sortC (keep l)).length ≤ 64
    rw [length_sortC]
    exact h
theorem turns_end (l : List C) (x1 : Int) (m : C) (k : Nat) (hm : ok m = true) (h0 : 0 < l.length) (hl : l.length ≤ 150) (hk : 200 ≤ k) :
    hypercubelaw02_ClauseTurns.l0 (k + 1) (LC l) x1 (LC l.reverse) (l.length : Int) (l.length : Int) (un m.1) (un m.2) = some true := by
  obtain ⟨q, hq, hqr⟩ : ∃ q : Nat, IntKind.u64.wrap x1 = (q : Int) ∧ q < 18446744073709551616 := by
    rw [IntKind.wrap_u64]
    exact ⟨(x1 % 18446744073709551616).toNat, by omega, by omega⟩
  have hn := u64w l.length (by omega)
  have hr : q % l.length < l.length := Nat.mod_lt _ h0
  have ht : wrap64 (Int.tmod (q : Int) (l.length : Int)) = ((q % l.length : Nat) : Int) := by
    rw [← Int.ofNat_tmod, wrap64_small (by omega) (by omega)]
  generalize hi : q % l.length = i at hr ht
  have hrd := rdC l i hr
  have hmt := meet24 l[i] m
  have hL1 := least24 l (by omega)
  have hL2 := least24 (l.reverse ++ [l[i], meet l[i] m]) (by simp; omega)
  rw [turn_eq (List.getElem_mem hr) hm] at hL2
  have hsame := same (least l).1 k (by have := least_length l; omega) (by have := least_length l; omega)
  have e1 : LC (l.reverse ++ [l[i], meet l[i] m]) = LC l.reverse ++ [⟨un l[i].1, un l[i].2⟩, ⟨un (meet l[i] m).1, un (meet l[i] m).2⟩] := by rw [LC_append]; rfl
  rw [e1] at hL2
  have hlr : (LC l.reverse).length = l.length := by rw [LC_len, List.length_reverse]
  have hll : (LC l).length = l.length := LC_len l
  rw [hypercubelaw02_ClauseTurns.l0, if_neg (by omega), hll, hn, if_neg (by omega), hq, ht, if_pos (by omega), if_pos (by omega), hrd]
  rw [show (ofC24 l[i]).f0 = un l[i].1 from rfl, show (ofC24 l[i]).f1 = un l[i].2 from rfl, hmt, Option.bind_some, Option.bind_some]
  rw [if_pos (by rw [hlr]; simp; omega), hL1, Option.bind_some, hL2, Option.bind_some, if_pos rfl, hsame, Option.bind_some]
theorem turns_l0 (l : List C) (x1 : Int) (m : C) (hm : ok m = true) (h0 : 0 < l.length) (hl : l.length ≤ 150) : ∀ (d k i : Nat), i + d = l.length → d + 201 ≤ k →
    hypercubelaw02_ClauseTurns.l0 k (LC l) x1 (LC (l.reverse.take i)) (l.length : Int) (i : Int) (un m.1) (un m.2) = some true
  | d, 0, _, _, hk => absurd hk (by omega)
  | 0, k + 1, i, hi, hk => by
    obtain rfl : i = l.length := by omega
    have e : l.reverse.take l.length = l.reverse := List.take_of_length_le (by simp)
    rw [e]
    exact turns_end l x1 m k hm h0 hl (by omega)
  | d + 1, k + 1, i, hi, hk => by
    have hi2 : i < l.reverse.length := by simp; omega
    have e2 : wrap64 ((i : Int) + 1) = ((i + 1 : Nat) : Int) := by
      rw [wrap64_small (by omega) (by omega)]
      omega
    have e3 : wrap64 (wrap64 ((l.length : Int) - 1) - (i : Int)) = ((l.length - 1 - i : Nat) : Int) := by
      rw [wrap64_small (n := (l.length : Int) - 1) (by omega) (by omega), wrap64_small (by omega) (by omega)]
      omega
    have hrd := rdC l (l.length - 1 - i) (by omega)
    have e4 : LC (l.reverse.take i) ++ [(⟨(ofC24 l[l.length - 1 - i]).f0, (ofC24 l[l.length - 1 - i]).f1⟩ : S24)] = LC (l.reverse.take (i + 1)) := by
      rw [List.take_succ_eq_append_getElem hi2, LC_append, List.getElem_reverse]
      rfl
    have hll : (LC l).length = l.length := LC_len l
    have hlt : (LC (l.reverse.take i)).length ≤ 150 := by rw [LC_len, List.length_take]; simp; omega
    have ih := turns_l0 l x1 m hm h0 hl d k (i + 1) (by omega) (by omega)
    rw [hypercubelaw02_ClauseTurns.l0, if_pos (by omega), hll, e3, if_pos (by omega), if_pos (by omega), if_pos (by omega), hrd, e4, e2]
    exact ih
theorem ClauseTurns (l : List C) (a1 : Int) (_ : (Lit.int .i64 a1).wf = true) (m : C) : ∃ k, hypercubelaw02_ClauseTurns.f k (LC l) a1 (un m.1) (un m.2) = some true := by
  refine ⟨1001, ?_⟩
  have hk : 1000 ≤ 1000 := Nat.le_refl _
  generalize hK : 1000 = K at hk
  have hll : (LC l).length = l.length := LC_len l
  have htrue : hypercubelaw02_ClauseTurns.j0 (K + 1) (LC l) a1 true (un m.1) (un m.2) = some true := by rw [hypercubelaw02_ClauseTurns.j0, if_pos rfl]
  rw [show 1001 = 1000 + 1 from rfl, hK]
  unfold hypercubelaw02_ClauseTurns.f
  rw [works (K + 1) (by omega), Option.bind_some, if_pos rfl, hll]
  by_cases h1 : (l.length : Int) > 150
  · rw [if_pos h1]; exact htrue
  rw [if_neg h1]
  by_cases h2 : (l.length : Int) = 0
  · rw [if_pos h2]; exact htrue
  rw [if_neg h2, right24, Option.bind_some]
  cases hm : ok m
  · exact htrue
  · rw [Bool.not_true, hypercubelaw02_ClauseTurns.j0, if_neg Bool.false_ne_true, hll]
    exact turns_l0 l a1 m hm (by omega) (by omega) l.length K 0 (by omega) (by omega)
end Go.Proofs.Ytahbmjpgnfgklaa.Pure
