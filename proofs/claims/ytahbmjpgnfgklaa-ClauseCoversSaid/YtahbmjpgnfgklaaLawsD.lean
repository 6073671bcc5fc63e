/-
PLAIN LAW: the statement ClauseCovers.
-/
import Derived.Test.YtahbmjpgnfgklaaLawsC
namespace Go.Proofs.Ytahbmjpgnfgklaa.Pure
open Go.RowKit Go.Proofs.Ytahbmjpgnfgklaa.XCm Go.Proofs.YtahbmjpgnfgklaaW.PrintWords Go.Proofs.YtahbmjpgnfgklaaW.PrintLast Go.Proofs.YtahbmjpgnfgklaaW.PrintMore H

theorem succ64 (i n : Nat) (h : i < n) (hn : n ≤ 1000000) : wrap64 ((i : Int) + 1) = ((i + 1 : Nat) : Int) := by
  rw [wrap64_small (by omega) (by omega)]
  omega
theorem eqS (a b : C) : ((ofC24 a).f0 == (ofC24 b).f0 && ((ofC24 a).f1 == (ofC24 b).f1)) = decide (a = b) := by
  unfold ofC24
  rw [un_beq, un_beq, Bool.eq_iff_iff]
  simp [Prod.ext_iff]
theorem belowS (a b : C) : clause_Below.f (ofC24 a).f0 (ofC24 a).f1 (ofC24 b).f0 (ofC24 b).f1 = some (below a b) := below24 a b

section
variable (l o : List C) (hl : l.length ≤ 300) (ho : o.length ≤ 64)
include hl ho
/-- The last loop: one of the row lies below one that is needed. -/
theorem cov_l4 (P : Nat → Prop) (c : C) (i : Nat) (hi : i < l.length) (hc : l[i] = c) (hnext : ∃ k, hypercubelaw02_ClauseCovers.l3 k (LC l) (LC o) (l.length : Int) ((i + 1 : Nat) : Int) = some true)
    (hex : ∃ m ∈ o, below c m = true) : ∀ (d j : Nat) (b : Bool), j + d = o.length → (b = true ↔ ∃ m ∈ o.take j, below c m = true) →
    ∃ k, hypercubelaw02_ClauseCovers.l4 k (LC l) (LC o) (i : Int) b (l.length : Int) (i : Int) (o.length : Int) (j : Int) = some true
  | 0, j, b, hj, hb => by
    obtain rfl : j = o.length := by omega
    obtain ⟨k, hk⟩ := hnext
    have hbt : b = true := hb.2 (by rw [List.take_length]; exact hex)
    refine ⟨k + 1, ?_⟩
    rw [hypercubelaw02_ClauseCovers.l4, if_neg (by omega), if_pos hbt, succ64 i l.length hi (by omega)]
    exact hk
  | d + 1, j, b, hj, hb => by
    have hjl : j < o.length := by omega
    have step : ∀ b', (b' = true ↔ ∃ m ∈ o.take (j + 1), below c m = true) → ∃ k, hypercubelaw02_ClauseCovers.l4 k (LC l) (LC o) (i : Int) b' (l.length : Int) (i : Int) (o.length : Int) ((j + 1 : Nat) : Int) = some true :=
      fun b' h => cov_l4 P c i hi hc hnext hex d (j + 1) b' (by omega) h
    have htake : ∀ m, m ∈ o.take (j + 1) ↔ m ∈ o.take j ∨ m = o[j] := fun m => by
      rw [List.take_succ_eq_append_getElem hjl, List.mem_append, List.mem_singleton]
    by_cases hbt : b = true
    · obtain ⟨k, hk⟩ := step true (by
        refine ⟨fun _ => ?_, fun _ => rfl⟩
        obtain ⟨m, h1, h2⟩ := hb.1 hbt
        exact ⟨m, (htake m).2 (.inl h1), h2⟩)
      refine ⟨k + 1, ?_⟩
      rw [hypercubelaw02_ClauseCovers.l4, if_pos (by omega), if_pos hbt, succ64 j o.length hjl (by omega)]
      exact hk
    · obtain ⟨k, hk⟩ := step (below c o[j]) (by
        constructor
        · intro h; exact ⟨o[j], (htake _).2 (.inr rfl), h⟩
        · rintro ⟨m, h1, h2⟩
          rcases (htake m).1 h1 with h3 | h3
          · exact absurd (hb.2 ⟨m, h3, h2⟩) hbt
          · rw [← h3]; exact h2)
      refine ⟨k + 1, ?_⟩
      have r1 := rdC l i hi
      have r2 := rdC o j hjl
      have h1 := LC_len l
      have h2 := LC_len o
      rw [hypercubelaw02_ClauseCovers.l4, if_pos (by omega), if_neg hbt, if_pos (by omega), if_pos (by omega), if_pos (by omega), if_pos (by omega), r1, r2, belowS, Option.bind_some, hc, succ64 j o.length hjl (by omega)]
      exact hk
theorem cov_l3 (hcov : ∀ c ∈ l, ∃ m ∈ o, below c m = true) : ∀ (d i : Nat), i + d = l.length → ∃ k, hypercubelaw02_ClauseCovers.l3 k (LC l) (LC o) (l.length : Int) (i : Int) = some true
  | 0, i, hi => ⟨1, by rw [hypercubelaw02_ClauseCovers.l3, if_neg (by omega)]⟩
  | d + 1, i, hi => by
    have hil : i < l.length := by omega
    obtain ⟨k, hk⟩ := cov_l4 l o hl ho (fun _ => True) l[i] i hil rfl (cov_l3 hcov d (i + 1) (by omega)) (hcov _ (List.getElem_mem hil)) o.length 0 false (by omega) (by simp)
    refine ⟨k + 1, ?_⟩
    have h2 := LC_len o
    rw [hypercubelaw02_ClauseCovers.l3, if_pos (by omega), h2]
    exact hk
omit hl in
/-- No needed one is below another one. -/
theorem cov_l2 (i : Nat) (hi : i < o.length) (hnext : ∃ k, hypercubelaw02_ClauseCovers.l0 k (LC l) (LC o) (o.length : Int) ((i + 1 : Nat) : Int) = some true)
    (hno : ∀ j (h : j < o.length), i ≠ j → below o[i] o[j] = false) : ∀ (d j : Nat), j + d = o.length →
    ∃ k, hypercubelaw02_ClauseCovers.l2 k (LC l) (LC o) (i : Int) (o.length : Int) (i : Int) (o.length : Int) (j : Int) = some true
  | 0, j, hj => by
    obtain ⟨k, hk⟩ := hnext
    refine ⟨k + 1, ?_⟩
    rw [hypercubelaw02_ClauseCovers.l2, if_neg (by omega), succ64 i o.length hi (by omega)]
    exact hk
  | d + 1, j, hj => by
    have hjl : j < o.length := by omega
    obtain ⟨k, hk⟩ := cov_l2 i hi hnext hno d (j + 1) (by omega)
    refine ⟨k + 1, ?_⟩
    have h2 := LC_len o
    by_cases e : i = j
    · rw [hypercubelaw02_ClauseCovers.l2, if_pos (by omega), if_pos (by omega), succ64 j o.length hjl (by omega)]
      exact hk
    · have r1 := rdC o i hi
      have r2 := rdC o j hjl
      rw [hypercubelaw02_ClauseCovers.l2, if_pos (by omega), if_neg (by omega), if_pos (by omega), if_pos (by omega), if_pos (by omega), if_pos (by omega), r1, r2, belowS, Option.bind_some, hno j hjl e, if_neg Bool.false_ne_true, succ64 j o.length hjl (by omega)]
      exact hk
omit ho in
/-- Each needed one is of the row. -/
theorem cov_l1 (i : Nat) (hi : i < o.length) (hmem : o[i] ∈ l) (hnext : ∃ k, hypercubelaw02_ClauseCovers.l2 k (LC l) (LC o) (i : Int) (o.length : Int) (i : Int) (o.length : Int) 0 = some true) :
    ∀ (d j : Nat) (b : Bool), j + d = l.length → (b = true ↔ o[i] ∈ l.take j) →
    ∃ k, hypercubelaw02_ClauseCovers.l1 k (LC l) (LC o) (i : Int) b (o.length : Int) (i : Int) (l.length : Int) (j : Int) = some true
  | 0, j, b, hj, hb => by
    obtain rfl : j = l.length := by omega
    obtain ⟨k, hk⟩ := hnext
    have hbt : b = true := hb.2 (by rw [List.take_length]; exact hmem)
    have h2 := LC_len o
    refine ⟨k + 1, ?_⟩
    rw [hypercubelaw02_ClauseCovers.l1, if_neg (by omega), if_pos hbt, h2]
    exact hk
  | d + 1, j, b, hj, hb => by
    have hjl : j < l.length := by omega
    have htake : o[i] ∈ l.take (j + 1) ↔ o[i] ∈ l.take j ∨ o[i] = l[j] := by
      rw [List.take_succ_eq_append_getElem hjl, List.mem_append, List.mem_singleton]
    by_cases hbt : b = true
    · obtain ⟨k, hk⟩ := cov_l1 i hi hmem hnext d (j + 1) true (by omega) ⟨fun _ => htake.2 (.inl (hb.1 hbt)), fun _ => rfl⟩
      refine ⟨k + 1, ?_⟩
      rw [hypercubelaw02_ClauseCovers.l1, if_pos (by omega), if_pos hbt, succ64 j l.length hjl (by omega)]
      exact hk
    · obtain ⟨k, hk⟩ := cov_l1 i hi hmem hnext d (j + 1) (decide (l[j] = o[i])) (by omega) (by
        rw [decide_eq_true_eq, htake]
        constructor
        · intro h; exact .inr h.symm
        · rintro (h | h)
          · exact absurd (hb.2 h) hbt
          · exact h.symm)
      refine ⟨k + 1, ?_⟩
      have r1 := rdC l j hjl
      have r2 := rdC o i hi
      have h1 := LC_len l
      have h2 := LC_len o
      rw [hypercubelaw02_ClauseCovers.l1, if_pos (by omega), if_neg hbt, if_pos (by omega), if_pos (by omega), if_pos (by omega), if_pos (by omega), r1, r2, eqS, succ64 j l.length hjl (by omega)]
      exact hk
theorem cov_l0 (hcov : ∀ c ∈ l, ∃ m ∈ o, below c m = true) (hmem : ∀ c ∈ o, c ∈ l) (hno : ∀ i j (h : i < o.length) (h2 : j < o.length), i ≠ j → below o[i] o[j] = false) : ∀ (d i : Nat), i + d = o.length →
    ∃ k, hypercubelaw02_ClauseCovers.l0 k (LC l) (LC o) (o.length : Int) (i : Int) = some true
  | 0, i, hi => by
    obtain ⟨k, hk⟩ := cov_l3 l o hl ho hcov l.length 0 (by omega)
    refine ⟨k + 1, ?_⟩
    have h1 := LC_len l
    rw [hypercubelaw02_ClauseCovers.l0, if_neg (by omega), h1]
    exact hk
  | d + 1, i, hi => by
    have hil : i < o.length := by omega
    obtain ⟨k, hk⟩ := cov_l1 l o hl i hil (hmem _ (List.getElem_mem hil)) (cov_l2 l o ho i hil (cov_l0 hcov hmem hno d (i + 1) (by omega)) (fun j h hne => hno i j hil h hne) o.length 0 (by omega)) l.length 0 false (by omega) (by simp)
    refine ⟨k + 1, ?_⟩
    have h1 := LC_len l
    rw [hypercubelaw02_ClauseCovers.l0, if_pos (by omega), h1]
    exact hk
end
theorem covers_l0_more (j k : Nat) (a b : List S24) (c d : Int) (h : hypercubelaw02_ClauseCovers.l0 k a b c d = some true) : hypercubelaw02_ClauseCovers.l0 (k + j) a b c d = some true :=
  more_rounds (g := fun k => hypercubelaw02_ClauseCovers.l0 k a b c d) (fun k => (hypercubelaw02_ClauseCovers.mono_l k).1 a b c d) k j true h
theorem ClauseCovers (l : List C) : ∃ k, hypercubelaw02_ClauseCovers.f k (LC l) = some true := by
  have hll := LC_len l
  by_cases h1 : (l.length : Int) > 300
  · refine ⟨5, ?_⟩
    unfold hypercubelaw02_ClauseCovers.f
    rw [works 5 (by omega), Option.bind_some, if_pos rfl, hll, if_pos h1]
  have hL := least24 l (by omega)
  rcases least_cases l with ⟨_, e⟩ | ⟨_, _, e⟩ | ⟨hok, hlen, e⟩
  · rw [e] at hL
    refine ⟨5, ?_⟩
    unfold hypercubelaw02_ClauseCovers.f
    rw [works 5 (by omega), Option.bind_some, if_pos rfl, hll, if_neg h1, hL, Option.bind_some, if_neg (by decide)]
    rfl
  · rw [e] at hL
    refine ⟨5, ?_⟩
    unfold hypercubelaw02_ClauseCovers.f
    rw [works 5 (by omega), Option.bind_some, if_pos rfl, hll, if_neg h1, hL, Option.bind_some, if_neg (by decide)]
    rfl
  · rw [e] at hL
    have hle := isLeast_keep l
    have hol : (sortC (keep l)).length ≤ 64 := by rw [length_sortC]; exact hlen
    generalize sortC (keep l) = o at hL hle hol
    have hnd := hle.1.nodup
    obtain ⟨k, hk⟩ := cov_l0 l o (by omega) hol (fun c hc => by
        obtain ⟨m, h2, h3, h4⟩ := exists_top l _ c (Nat.le_refl _) hc
        exact ⟨m, (hle.2 m).2 ⟨h2, h4⟩, h3⟩)
      (fun c hc => ((hle.2 c).1 hc).1) (fun i j hi hj hne => by
        rw [Bool.eq_false_iff]
        intro hb
        have h5 := ((hle.2 _).1 (List.getElem_mem hi)).2 _ ((hle.2 _).1 (List.getElem_mem hj)).1 hb
        exact hne ((List.getElem_inj hnd).1 h5.symm))
      o.length 0 (by omega)
    refine ⟨k + 5, ?_⟩
    have hlo := LC_len o
    unfold hypercubelaw02_ClauseCovers.f
    rw [works (k + 5) (by omega), Option.bind_some, if_pos rfl, hll, if_neg h1, hL, Option.bind_some, if_pos rfl, hlo]
    exact covers_l0_more 5 k _ _ _ _ hk
end Go.Proofs.Ytahbmjpgnfgklaa.Pure
