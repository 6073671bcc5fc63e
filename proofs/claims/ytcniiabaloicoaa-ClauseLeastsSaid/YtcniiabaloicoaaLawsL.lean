/-
PLAIN LAW: the statement ClauseLeasts.
-/
import Derived.Test.YtcniiabaloicoaaClP
namespace Go.Proofs.Ytcniiabaloicoaa.Pure
open Go.RowKit Go.Proofs.Ytcniiabaloicoaa.XLe Go.Proofs.YtcniiabaloicoaaW.PrintWords Go.Proofs.YtcniiabaloicoaaW.PrintLast Go.Proofs.YtcniiabaloicoaaW.PrintMore H

theorem backLC (l : List C) : (LC l).map toC24 = l := by
  unfold LC
  rw [List.map_map]
  refine (List.map_congr_left (g := id) fun c _ => ?_).trans (List.map_id _)
  rw [Function.comp_apply, toC_ofC24]
  rfl
theorem okLC {l : List C} (h : l.length ≤ 1000000) : okL24 (LC l) := ⟨by unfold LC; rw [List.all_map, List.all_eq_true]; intro c _; rw [Function.comp_apply, inR_ofC24], by rw [LC_len]; exact h⟩
theorem refleast24 (l : List C) (h : l.length ≤ 1000000) : hypercuberef02_Least.f (LC l) = some (LC (least l).1, (least l).2) := by
  unfold hypercuberef02_Least.f
  rw [if_pos (okLC h), backLC, leastR_eq]
  rfl
theorem l0 (l : List C) (hl : l.length ≤ 300) (n : Nat) (hn : n ≤ 1000) : ∀ (d k i : Nat) (x : List S32), x.length = n → i + d = n → d + 400 < k → hypercubelaw02_ClauseLeasts.l0 k (LC l) (LC l) x (n : Int) (i : Int) = some true
  | d, 0, _, _, _, _, hk => absurd hk (by omega)
  | 0, k + 1, i, x, hx, hi, hk => by
    rw [hypercubelaw02_ClauseLeasts.l0, if_neg (by omega), same l k (by omega) (by omega), Option.bind_some, if_pos rfl, works k (by omega), Option.bind_some]
  | d + 1, k + 1, i, x, hx, hi, hk => by
    have e2 : wrap64 ((i : Int) + 1) = ((i + 1 : Nat) : Int) := by
      unfold wrap64
      omega
    rw [hypercubelaw02_ClauseLeasts.l0, if_pos (by omega), if_pos (by omega), if_pos (by omega), e2]
    exact l0 l hl n hn d k (i + 1) _ (by rw [List.length_set]; exact hx) (by omega) (by omega)
theorem ClauseLeasts (l : List C) : ∃ k, hypercubelaw02_ClauseLeasts.f k (LC l) = some true := by
  obtain ⟨k, hk⟩ : ∃ k, k = 2000 := ⟨_, rfl⟩
  refine ⟨k + 1, ?_⟩
  unfold hypercubelaw02_ClauseLeasts.f
  by_cases h : l.length > 300
  · rw [if_pos (by rw [LC_len]; omega), works _ (by omega), Option.bind_some]
  rw [if_neg (by rw [LC_len]; omega), Option.bind_some, if_pos (by rw [LC_len]; simp; omega), List.nil_append, Option.bind_some, least24 l (by omega), Option.bind_some, refleast24 l (by omega), Option.bind_some]
  have h64 : (least l).1.length ≤ 64 := by
    rcases least_cases l with ⟨_, e⟩ | ⟨_, _, e⟩ | ⟨_, h2, e⟩
    · rw [e]; simp
    · rw [e]; simp
    · rw [e]
      show (sortC (keep l)).length ≤ 64
      rw [length_sortC]
      exact h2
  rw [same _ _ (by omega) (by omega), Option.bind_some, if_pos rfl, hypercubelaw02_ClauseLeasts.j0, if_neg (by simp), LC_len]
  exact l0 l (by omega) (least l).1.length (by omega) (least l).1.length k 0 _ (LC_len _) (by omega) (by omega)
end Go.Proofs.Ytcniiabaloicoaa.Pure
