/-
PLAIN LAW: the statement FaceOrder.
-/
import Derived.Test.YtcniiabaloicoaaLawsU
namespace Go.Proofs.Ytcniiabaloicoaa.Pure
open Go.RowKit Go.Proofs.Ytcniiabaloicoaa.XFq Go.Proofs.YtcniiabaloicoaaW.PrintWords Go.Proofs.YtcniiabaloicoaaW.PrintLast Go.Proofs.YtcniiabaloicoaaW.PrintMore H

theorem entL (f g : List C) (hf : f.length ≤ 1000000) (hg : g.length ≤ 1000000) : face_Entails.f (LC f) (LC g) = some (entF f g) := by
  unfold face_Entails.f
  rw [if_pos ⟨okLC hf, okLC hg⟩, backLC, backLC]
theorem entF_eq {f g : List C} (hf : faceR f = true) (hg : faceR g = true) : entF f g = (f.all (fun c => E g c), 0) := by
  unfold entF
  rw [if_pos ⟨hf, hg⟩]
  have e : (fun c => !(g.any fun d => H.below c d)) = fun c => !(E g c) := rfl
  rw [e, List.not_any_eq_all_not]
  simp only [Bool.not_not]
theorem ent_iff {f g : List C} : (f.all fun c => E g c) = true ↔ ∀ c ∈ f, ∃ d ∈ g, below c d = true := by
  rw [List.all_eq_true]
  exact ⟨fun h c hc => E_iff.1 (h c hc), fun h c hc => E_iff.2 (h c hc)⟩
theorem joinL (f g : List C) (hf : f.length ≤ 400000) (hg : g.length ≤ 400000) : face_Join.f (LC f) (LC g) = some (LC (fjoinF f g).1, (fjoinF f g).2) := by
  unfold face_Join.f
  rw [if_pos ⟨okLC (by omega), okLC (by omega), by rw [LC_len, LC_len]; omega⟩, backLC, backLC]
  rfl
theorem meetL (f g : List C) (hf : f.length ≤ 24) (hg : g.length ≤ 24) : face_Meet.f (LC f) (LC g) = some (LC (fmeetF f g).1, (fmeetF f g).2) := by
  have h : f.length * g.length ≤ 24 * 24 := Nat.mul_le_mul hf hg
  unfold face_Meet.f
  rw [if_pos ⟨okLC (by omega), okLC (by omega), by rw [LC_len, LC_len]; omega⟩, backLC, backLC]
  rfl
def ent (f g : List C) : Bool := f.all fun c => E g c
theorem ent_iff' {f g : List C} : ent f g = true ↔ ∀ c ∈ f, ∃ d ∈ g, below c d = true := ent_iff
theorem ent_E {f g : List C} : ent f g = true ↔ ∀ c, E f c = true → E g c = true := by
  rw [ent_iff']
  constructor
  · intro h c hc
    obtain ⟨d, hd, hb⟩ := E_iff.1 hc
    obtain ⟨e, he, hb2⟩ := h d hd
    exact E_iff.2 ⟨e, he, below_trans hb hb2⟩
  · intro h c hc
    exact E_iff.1 (h c (E_self hc))
theorem ent_refl (f : List C) : ent f f = true := ent_E.2 fun _ h => h
theorem ent_trans {f g h : List C} (h1 : ent f g = true) (h2 : ent g h = true) : ent f h = true := ent_E.2 fun c hc => ent_E.1 h2 c (ent_E.1 h1 c hc)
theorem ent_eq {f g : List C} (hf : faceR f = true) (hg : faceR g = true) (h1 : ent f g = true) : ent g f = decide (f = g) := by
  rw [Bool.eq_iff_iff, decide_eq_true_eq]
  constructor
  · intro h2
    refine right_ext (faceR_iff.1 hf).1 (faceR_iff.1 hg).1 fun c _ => ?_
    rw [Bool.eq_iff_iff]
    exact ⟨ent_E.1 h1 c, ent_E.1 h2 c⟩
  · rintro rfl
    exact ent_refl f
theorem join_facts {f g : List C} (hf : faceR f = true) (hg : faceR g = true) (ht : (fjoinF f g).2 = 0) : faceR (fjoinF f g).1 = true ∧ ∀ c, E (fjoinF f g).1 c = (E f c || E g c) := by
  have e : fjoinF f g = least (f ++ g) := by
    unfold fjoinF
    rw [if_pos ⟨hf, hg⟩]
  rw [e] at ht ⊢
  refine ⟨faceR_iff.2 ⟨right_least ht, fun x hx => ?_⟩, fun c => by rw [E_least ht, E_append]⟩
  rcases List.mem_append.1 (least_sub ht hx) with h | h
  · exact (faceR_iff.1 hf).2 x h
  · exact (faceR_iff.1 hg).2 x h
theorem mem_meetsC {f g : List C} {x : C} : x ∈ meetsC f g ↔ (∃ a ∈ f, ∃ b ∈ g, meet a b = x) ∧ H.clash x = false := by
  unfold meetsC
  rw [List.mem_flatMap]
  constructor
  · rintro ⟨a, ha, hx⟩
    obtain ⟨b, hb, h1, rfl⟩ := mem_keepC.1 hx
    exact ⟨⟨a, ha, b, hb, rfl⟩, by simpa [meetP] using h1⟩
  · rintro ⟨⟨a, ha, b, hb, rfl⟩, hc⟩
    exact ⟨a, ha, mem_keepC.2 ⟨b, hb, by simp [meetP, hc], rfl⟩⟩
theorem meet_facts {f g : List C} (hf : faceR f = true) (hg : faceR g = true) (ht : (fmeetF f g).2 = 0) : faceR (fmeetF f g).1 = true ∧ (∀ c, E (fmeetF f g).1 c = true → E f c = true ∧ E g c = true) ∧ ∀ c, H.clash c = false → E f c = true → E g c = true → E (fmeetF f g).1 c = true := by
  have e : fmeetF f g = least (meetsC f g) := by
    unfold fmeetF
    rw [if_pos ⟨hf, hg⟩]
  rw [e] at ht ⊢
  refine ⟨faceR_iff.2 ⟨right_least ht, fun x hx => (mem_meetsC.1 (least_sub ht hx)).2⟩, fun c hc => ?_, fun c hc h1 h2 => ?_⟩
  · rw [E_least ht] at hc
    obtain ⟨d, hd, hb⟩ := E_iff.1 hc
    obtain ⟨⟨a, ha, b, hb', rfl⟩, _⟩ := mem_meetsC.1 hd
    obtain ⟨h3, h4⟩ := below_meet.1 hb
    exact ⟨E_iff.2 ⟨a, ha, h3⟩, E_iff.2 ⟨b, hb', h4⟩⟩
  · rw [E_least ht]
    obtain ⟨a, ha, h3⟩ := E_iff.1 h1
    obtain ⟨b, hb, h4⟩ := E_iff.1 h2
    have hb' := below_meet.2 ⟨h3, h4⟩
    exact E_iff.2 ⟨meet a b, mem_meetsC.2 ⟨⟨a, ha, b, hb, rfl⟩, clash_below hb' hc⟩, hb'⟩
theorem FaceOrder (f g h : List C) : ∃ k, hypercubelaw05_FaceOrder.f k (LC f) (LC g) (LC h) = some true := by
  obtain ⟨k, hk⟩ : ∃ k, k = 100 := ⟨_, rfl⟩
  refine ⟨k + 4, ?_⟩
  have j0t : hypercubelaw05_FaceOrder.j0 (k + 4) (LC f) (LC g) (LC h) true = some true := by
    rw [hypercubelaw05_FaceOrder.j0, if_pos rfl]
  unfold hypercubelaw05_FaceOrder.f
  rw [works _ (by omega), Option.bind_some, if_pos rfl]
  unfold hypercubelaw05_great.f
  by_cases h24 : f.length > 24
  · rw [if_pos (by rw [LC_len]; omega), Option.bind_some, if_pos rfl]
    exact j0t
  rw [if_neg (by rw [LC_len]; omega), Option.bind_some]
  by_cases h25 : g.length > 24
  · rw [if_pos (by rw [LC_len]; simp; omega)]
    exact j0t
  rw [if_neg (by rw [LC_len]; simp; omega)]
  by_cases h26 : h.length > 24
  · rw [if_pos (by rw [LC_len]; omega)]
    exact j0t
  rw [if_neg (by rw [LC_len]; omega), rightL f (by omega), Option.bind_some]
  cases hf : faceR f
  · rw [if_neg (by simp)]; exact j0t
  rw [if_pos rfl, rightL g (by omega), Option.bind_some]
  cases hg : faceR g
  · rw [if_neg (by simp)]; exact j0t
  rw [if_pos rfl, rightL h (by omega), Option.bind_some]
  cases hh : faceR h
  · exact j0t
  have hj2 : hypercubelaw05_FaceOrder.j2 (k + 2) (LC f) (LC g) (LC h) (ent h f) (ent h g) = some true := by
    rw [hypercubelaw05_FaceOrder.j2, meetL f g (by omega) (by omega), Option.bind_some]
    by_cases ht : (fmeetF f g).2 = 0
    · obtain ⟨m1, m2, m3⟩ := meet_facts hf hg ht
      have lm := (right_iff.1 (faceR_iff.1 m1).1).2.1
      generalize fmeetF f g = M at *
      have e1 : entF M.1 f = (true, 0) := by rw [entF_eq m1 hf]; exact congrArg (·, (0 : Int)) (ent_E.2 fun c hc => (m2 c hc).1)
      have e2 : entF M.1 g = (true, 0) := by rw [entF_eq m1 hg]; exact congrArg (·, (0 : Int)) (ent_E.2 fun c hc => (m2 c hc).2)
      have e3 : entF h M.1 = (ent h f && ent h g, 0) := by
        rw [entF_eq hh m1]
        refine congrArg (·, (0 : Int)) ?_
        show ent h M.1 = _
        rw [Bool.eq_iff_iff, Bool.and_eq_true]
        constructor
        · intro h1
          exact ⟨ent_E.2 fun c hc => (m2 c (ent_E.1 h1 c hc)).1, ent_E.2 fun c hc => (m2 c (ent_E.1 h1 c hc)).2⟩
        · rintro ⟨h1, h2⟩
          refine ent_iff'.2 fun c hc => E_iff.1 (m3 c ((faceR_iff.1 hh).2 c hc) (ent_E.1 h1 c (E_self hc)) (ent_E.1 h2 c (E_self hc)))
      rw [if_pos ht, entL _ _ (by omega) (by omega), Option.bind_some, entL _ _ (by omega) (by omega), Option.bind_some, entL _ _ (by omega) (by omega), Option.bind_some, e1, e2, e3, if_pos rfl, if_pos rfl]
      cases ent h f <;> cases ent h g <;> rfl
    · rw [if_neg ht]
  have hj1 : hypercubelaw05_FaceOrder.j1 (k + 3) (LC f) (LC g) (LC h) (ent g h) (ent f h) (ent h f) (ent h g) false = some true := by
    rw [hypercubelaw05_FaceOrder.j1, if_neg (by simp), joinL f g (by omega) (by omega), Option.bind_some]
    by_cases ht : (fjoinF f g).2 = 0
    · obtain ⟨m1, m2⟩ := join_facts hf hg ht
      have lm := (right_iff.1 (faceR_iff.1 m1).1).2.1
      generalize fjoinF f g = M at *
      have e1 : entF f M.1 = (true, 0) := by rw [entF_eq hf m1]; exact congrArg (·, (0 : Int)) (ent_E.2 fun c hc => by rw [m2, hc]; rfl)
      have e2 : entF g M.1 = (true, 0) := by rw [entF_eq hg m1]; exact congrArg (·, (0 : Int)) (ent_E.2 fun c hc => by rw [m2, hc, Bool.or_true])
      have e3 : entF M.1 h = (ent f h && ent g h, 0) := by
        rw [entF_eq m1 hh]
        refine congrArg (·, (0 : Int)) ?_
        show ent M.1 h = _
        rw [Bool.eq_iff_iff, Bool.and_eq_true]
        constructor
        · intro h1
          exact ⟨ent_E.2 fun c hc => ent_E.1 h1 c (by rw [m2, hc]; rfl), ent_E.2 fun c hc => ent_E.1 h1 c (by rw [m2, hc, Bool.or_true])⟩
        · rintro ⟨h1, h2⟩
          refine ent_E.2 fun c hc => ?_
          rw [m2, Bool.or_eq_true] at hc
          exact hc.elim (ent_E.1 h1 c) (ent_E.1 h2 c)
      rw [if_pos ht, entL _ _ (by omega) (by omega), Option.bind_some, entL _ _ (by omega) (by omega), Option.bind_some, entL _ _ (by omega) (by omega), Option.bind_some, e1, e2, e3, if_pos rfl, if_pos rfl]
      cases ent f h <;> cases ent g h <;> exact hj2
    · rw [if_neg ht]
      exact hj2
  have E0 : ∀ {x y : List C}, faceR x = true → faceR y = true → entF x y = (ent x y, 0) := fun h1 h2 => entF_eq h1 h2
  rw [hypercubelaw05_FaceOrder.j0, if_neg (by simp), entL _ _ (by omega) (by omega), Option.bind_some, entL _ _ (by omega) (by omega), Option.bind_some, entL _ _ (by omega) (by omega), Option.bind_some, entL _ _ (by omega) (by omega), Option.bind_some,
    entL _ _ (by omega) (by omega), Option.bind_some, entL _ _ (by omega) (by omega), Option.bind_some, entL _ _ (by omega) (by omega), Option.bind_some, E0 hf hf, E0 hf hg, E0 hg hf, E0 hg hh, E0 hf hh, E0 hh hf, E0 hh hg, ent_refl f, if_pos rfl]
  show (if ent f g = true then _ else _) = _
  cases hfg : ent f g
  · rw [if_neg (by simp)]
    exact hj1
  · rw [if_pos rfl, sameL f g _ (by omega) (by omega), Option.bind_some, ent_eq hf hg hfg]
    rw [if_neg (by simp)]
    show (if ent g h = true then _ else _) = _
    cases hgh : ent g h
    · rw [if_neg (by simp)]
      rw [hgh] at hj1
      exact hj1
    · have hfh := ent_trans hfg hgh
      rw [if_pos rfl]
      rw [hgh, hfh] at hj1
      show hypercubelaw05_FaceOrder.j1 (k + 3) (LC f) (LC g) (LC h) true (ent f h) (ent h f) (ent h g) (!ent f h) = _
      rw [hfh]
      exact hj1
end Go.Proofs.Ytcniiabaloicoaa.Pure
