/-
PLAIN LAW: the statement FaceAdjoint.
-/
import Derived.Test.YtcniiabaloicoaaLawsU
namespace Go.Proofs.Ytcniiabaloicoaa.Pure
open Go.RowKit Go.Proofs.Ytcniiabaloicoaa.XFq Go.Proofs.YtcniiabaloicoaaW.PrintWords Go.Proofs.YtcniiabaloicoaaW.PrintLast Go.Proofs.YtcniiabaloicoaaW.PrintMore H

theorem entL (f g : List C) (hf : f.length ≤ 1000000) (hg : g.length ≤ 1000000) : face_Entails.f (LC f) (LC g) = some (entF f g) := by
  unfold face_Entails.f
  rw [if_pos ⟨okLC hf, okLC hg⟩, backLC, backLC]
theorem entF_eq {f g : List C} (hf : faceR f = true) (hg : faceR g = true) : entF f g = (f.all (fun c => E g c), 0) := by
  unfold entF
  rw [if_pos ⟨hf, hg⟩]
  have e : (fun c => !(g.any fun d => H.below c d)) = fun c => !(E g c) := rfl
  rw [e, List.not_any_eq_all_not]
  simp only [Bool.not_not]
theorem ent_iff {f g : List C} : (f.all fun c => E g c) = true ↔ ∀ c ∈ f, ∃ d ∈ g, below c d = true := by
  rw [List.all_eq_true]
  exact ⟨fun h c hc => E_iff.1 (h c hc), fun h c hc => E_iff.2 (h c hc)⟩
theorem all_mem {f : List C} {i : Int} {x : C} : x ∈ keepC (allP i) f ↔ x ∈ f ∧ hasI (x.1 ||| x.2) i = false := by
  rw [mem_keepC]
  constructor
  · rintro ⟨y, hy, h, rfl⟩
    exact ⟨hy, by simpa [allP] using h⟩
  · rintro ⟨h1, h2⟩
    exact ⟨x, h1, by simp [allP, h2], rfl⟩
theorem hasI_below {c d : C} {i : Int} (hb : below c d = true) (h : hasI (c.1 ||| c.2) i = false) : hasI (d.1 ||| d.2) i = false := by
  rw [below_bits] at hb
  unfold hasI at *
  cases hd : dimI i
  · rfl
  · rw [hd, Bool.true_and] at h
    rw [Bool.true_and]
    have h1 := tb_or c.1 c.2 i.toNat
    have h2 := tb_or d.1 d.2 i.toNat
    unfold tb at h1 h2 hb
    rw [h1] at h
    rw [h2]
    cases a1 : d.1.toNat.testBit i.toNat
    · cases a2 : d.2.toNat.testBit i.toNat
      · rfl
      · rw [hb.2 _ a2] at h; simp at h
    · rw [hb.1 _ a1] at h; simp at h
/-- What All tells of a face. -/
theorem all_facts {f : List C} {i : Int} (hf : faceR f = true) (hd : dimI i = true) (hl : f.length ≤ 64) : (allF f i).2 = 0 ∧ faceR (allF f i).1 = true ∧ ∀ x, x ∈ (allF f i).1 ↔ x ∈ f ∧ hasI (x.1 ||| x.2) i = false := by
  have e : allF f i = least (keepC (allP i) f) := by
    unfold allF
    rw [if_pos ⟨hf, hd⟩]
  have hr := (faceR_iff.1 hf)
  have hlen := keepC_length (allP i) f
  have ht : (least (keepC (allP i) f)).2 = 0 := least_told (List.all_eq_true.2 fun x hx => List.all_eq_true.1 (right_all hr.1) x (all_mem.1 hx).1) (by omega)
  rw [e]
  refine ⟨ht, faceR_iff.2 ⟨right_least ht, fun x hx => hr.2 x (all_mem.1 (least_sub ht hx)).1⟩, fun x => ⟨fun hx => all_mem.1 (least_sub ht hx), fun hx => ?_⟩⟩
  rw [least_ok ht]
  refine ((isLeast_keep _).2 x).2 ⟨all_mem.2 hx, fun d hd' hb => ?_⟩
  exact (((right_iff.1 hr.1).2.2.2 x).1 hx.1).2 d (all_mem.1 hd').1 hb
theorem FaceAdjoint (f g : List C) (i : Int) (_wi : (Lit.int .i64 i).wf = true) : ∃ k, hypercubelaw05_FaceAdjoint.f k (LC f) (LC g) i = some true := by
  obtain ⟨k, hk⟩ : ∃ k, k = 100 := ⟨_, rfl⟩
  refine ⟨k + 2, ?_⟩
  have j0t : hypercubelaw05_FaceAdjoint.j0 (k + 2) (LC f) (LC g) i true = some true := by
    rw [hypercubelaw05_FaceAdjoint.j0, if_pos rfl]
  unfold hypercubelaw05_FaceAdjoint.f
  rw [works _ (by omega), Option.bind_some, if_pos rfl]
  unfold hypercubelaw05_great.f
  by_cases h24 : f.length > 24
  · rw [if_pos (by rw [LC_len]; omega), Option.bind_some, if_pos rfl]
    exact j0t
  rw [if_neg (by rw [LC_len]; omega), Option.bind_some]
  by_cases h25 : g.length > 24
  · rw [if_pos (by rw [LC_len]; simp; omega)]
    exact j0t
  rw [if_neg (by rw [LC_len]; simp; omega), rightL f (by omega), Option.bind_some]
  cases hf : faceR f
  · rw [if_neg (by simp)]; exact j0t
  rw [if_pos rfl, rightL g (by omega), Option.bind_some]
  cases hg : faceR g
  · exact j0t
  rw [hypercubelaw05_FaceAdjoint.j0, if_neg (by simp), allL f i (by omega), Option.bind_some]
  cases hd : dimI i
  · have e : allF f i = ([], 2) := by
      unfold allF
      rw [if_neg (by rw [hd]; simp)]
    rw [e, if_neg (by decide), if_pos (by rfl)]
    have h' := of_decide_eq_false hd
    by_cases h0 : i < 0
    · rw [if_pos h0]
    · rw [if_neg h0, decide_eq_true (by omega)]
  · obtain ⟨a1, a2, a3⟩ := all_facts hf hd (by omega)
    obtain ⟨b1, b2, b3⟩ := all_facts hg hd (by omega)
    have la := (right_iff.1 (faceR_iff.1 a2).1).2.1
    have lb := (right_iff.1 (faceR_iff.1 b2).1).2.1
    generalize allF f i = A at *
    rw [if_pos a1, allL g i (by omega), Option.bind_some]
    generalize allF g i = B at *
    rw [entL _ _ (by omega) (by omega), Option.bind_some, entL _ _ (by omega) (by omega), Option.bind_some, entL _ _ (by omega) (by omega), Option.bind_some, entF_eq a2 hf, entF_eq b2 hf, entF_eq b2 a2]
    have h1 : (A.1.all fun c => E f c) = true := ent_iff.2 fun c hc => ⟨c, ((a3 c).1 hc).1, below_refl c⟩
    have h2 : (B.1.all fun c => E f c) = (B.1.all fun c => E A.1 c) := by
      rw [Bool.eq_iff_iff, ent_iff, ent_iff]
      constructor
      · intro h c hc
        obtain ⟨d, hd, hb⟩ := h c hc
        exact ⟨d, (a3 d).2 ⟨hd, hasI_below hb ((b3 c).1 hc).2⟩, hb⟩
      · intro h c hc
        obtain ⟨d, hd, hb⟩ := h c hc
        exact ⟨d, ((a3 d).1 hd).1, hb⟩
    rw [if_pos h1, if_pos rfl, if_pos rfl, h2, beq_self_eq_true]
end Go.Proofs.Ytcniiabaloicoaa.Pure
