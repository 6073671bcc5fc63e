/-
PLAIN LAW: the statements TruthMakes, TruthPuts.
-/
import Derived.Test.YtfbcgjkagdbckaaDoorLawsM2
namespace Go.Proofs.YtfbcgjkagdbckaaDoor.Pure
open Go.RowKit Go.Proofs.YtfbcgjkagdbckaaDoor.XTm Go.Proofs.YtfbcgjkagdbckaaDoorW.PrintWords Go.Proofs.YtfbcgjkagdbckaaDoorW.PrintLast Go.Proofs.YtfbcgjkagdbckaaDoorW.PrintMore H

theorem joinL (f g : List C) (hf : f.length ≤ 100) (hg : g.length ≤ 100) : formula_Join.f (LC f) (LC g) = some (LC (fJoin f g).1, (fJoin f g).2) := by
  unfold formula_Join.f
  rw [if_pos ⟨okLC (by omega), okLC (by omega), by rw [LC_len, LC_len]; omega⟩, backLC, backLC]
  rfl
theorem meetL (f g : List C) (hf : f.length ≤ 100) (hg : g.length ≤ 100) : formula_Meet.f (LC f) (LC g) = some (LC (fMeet f g).1, (fMeet f g).2) := by
  have h : f.length * g.length ≤ 100 * 100 := Nat.mul_le_mul hf hg
  unfold formula_Meet.f
  rw [if_pos ⟨okLC (by omega), okLC (by omega), by rw [LC_len, LC_len]; omega⟩, backLC, backLC]
  rfl
theorem notL (f : List C) (hf : f.length ≤ 100) : formula_Not.f (LC f) = some (LC (fNot f).1, (fNot f).2) := by
  unfold formula_Not.f
  rw [if_pos (okLC (by omega)), backLC]
  rfl
theorem putL (f : List C) (i : Int) (r : List C) (hf : f.length ≤ 100) (hr : r.length ≤ 100) : formula_Put.f (LC f) i (LC r) = some (LC (fPut f i r).1, (fPut f i r).2) := by
  unfold formula_Put.f
  rw [if_pos ⟨okLC (by omega), okLC (by omega)⟩, backLC, backLC]
  rfl
theorem ints_l0 (l : List Int) (hl : l.length < 4611686018427387904) : ∀ (d k i : Nat), i + d = l.length → d < k → hypercuberef01_Ints.l0 k l l (i : Int) = some true
  | d, 0, _, _, hk => absurd hk (by omega)
  | 0, k + 1, i, hi, _ => by rw [hypercuberef01_Ints.l0, if_neg (by omega)]
  | d + 1, k + 1, i, hi, hk => by
    have e2 : wrap64 ((i : Int) + 1) = ((i + 1 : Nat) : Int) := by
      unfold wrap64
      omega
    rw [hypercuberef01_Ints.l0, if_pos (by omega), if_pos (by omega), if_pos (by omega), if_pos rfl, e2]
    exact ints_l0 l hl d k (i + 1) (by omega) (by omega)
theorem ints (l : List Int) (k : Nat) (hl : l.length < 4611686018427387904) (hk : l.length < k) : hypercuberef01_Ints.f k l l = some true := by
  unfold hypercuberef01_Ints.f
  rw [if_pos rfl]
  exact ints_l0 l hl l.length k 0 (by omega) hk
theorem works (k : Nat) (hk : 20000 ≤ k) : hypercubelaw04_works.f k = some true := by
  have e1 := EvalL [2] [(1, 1)] k (by decide) (by simp; omega)
  have e2 := TellL [(1, 0)] [(2, 0)] k (by decide) (by decide) (by simp; omega)
  have e3 := TellL [(0, 1), (1, 0)] [(0, 0)] k (by decide) (by decide) (by simp; omega)
  rw [show (if H.right [(1, 1)] = true then (code (valOf [(1, 1)] (atv [2])), 0) else (0, 2)) = ((2, 0) : Int × Int) by decide +kernel] at e1
  rw [show tellP [(1, 0)] [(2, 0)] = ([1, 0], 0) by decide +kernel] at e2
  rw [show tellP [(0, 1), (1, 0)] [(0, 0)] = ([2], 0) by unfold tellP; rw [if_pos ⟨rightIs' m7, rightIs' m6⟩]; decide +kernel] at e3
  have f1 : LC [(1, 1)] = [⟨1, 1⟩] := rfl
  have f2 : LC [(1, 0)] = [⟨1, 0⟩] := rfl
  have f3 : LC [(2, 0)] = [⟨2, 0⟩] := rfl
  have f4 : LC [(0, 1), (1, 0)] = [⟨0, 1⟩, ⟨1, 0⟩] := rfl
  have f5 : LC [(0, 0)] = [⟨0, 0⟩] := rfl
  have s1 := ints [1, 0] k (by decide) (by simp; omega)
  have s2 := ints [2] k (by decide) (by simp; omega)
  rw [f1] at e1
  rw [f2, f3] at e2
  rw [f4, f5] at e3
  unfold hypercubelaw04_works.f
  rw [e1, Option.bind_some, e2, Option.bind_some]
  unfold formula_One.f
  rw [Option.bind_some, e3, Option.bind_some, show truth_Meet.f 2 3 = some 0 from rfl, Option.bind_some, if_pos rfl, show truth_Join.f 2 3 = some 1 from rfl, Option.bind_some, if_pos rfl, show truth_Not.f 2 = some 2 from rfl, Option.bind_some, if_pos rfl, if_pos rfl, if_pos rfl, if_pos rfl, s1, Option.bind_some, if_pos rfl, if_pos rfl, s2]
  rfl
theorem fpv_two {k : Nat} {f : List C} {u : List Int} (hl : f.length ≤ 10000) (hk : f.length * 60 + 70 < k) (hr : H.right f = true) : truth_Eval.f k (LC f) u = some (code (valOf f (atv u)), 0) := by
  rw [EvalL u f k hl hk, if_pos hr]
theorem makes_j3 (k : Nat) (hk : 9000 < k) (f : List C) (u : List Int) (hl : f.length ≤ 24) (_hf : H.right f = true) : hypercubelaw04_TruthMakes.j3 k (LC f) u (code (valOf f (atv u))) = some true := by
  obtain ⟨k, rfl⟩ : ∃ m, k = m + 1 := ⟨k - 1, by omega⟩
  rw [hypercubelaw04_TruthMakes.j3, notL f (by omega), Option.bind_some]
  by_cases h : (fNot f).2 = 0
  · obtain ⟨_, h2, h3⟩ := fNot_told h
    have h64 := len_of_right h2
    rw [if_pos h, fpv_two (by omega) (by omega) h2, Option.bind_some, if_pos rfl, tnot, Option.bind_some, val_code, if_pos (by rw [val_not h3])]
  · rw [if_neg h]
theorem makes_j2 (k : Nat) (hk : 9001 < k) (f g : List C) (u : List Int) (hl : f.length ≤ 24) (hlg : g.length ≤ 24) (hf : H.right f = true) : hypercubelaw04_TruthMakes.j2 k (LC f) (LC g) u (code (valOf f (atv u))) (code (valOf g (atv u))) = some true := by
  obtain ⟨k, rfl⟩ : ∃ m, k = m + 1 := ⟨k - 1, by omega⟩
  rw [hypercubelaw04_TruthMakes.j2, meetL f g (by omega) (by omega), Option.bind_some]
  by_cases h : (fMeet f g).2 = 0
  · obtain ⟨_, _, h2, h3⟩ := fMeet_told h
    have h64 := len_of_right h2
    rw [if_pos h, fpv_two (by omega) (by omega) h2, Option.bind_some, if_pos rfl, tmeet, Option.bind_some, val_code, val_code, if_pos (by rw [val_meet h3])]
    exact makes_j3 k (by omega) f u hl hf
  · rw [if_neg h]
    exact makes_j3 k (by omega) f u hl hf
theorem TruthMakes (f g : List C) (u : List Int) : ∃ k, hypercubelaw04_TruthMakes.f k (LC f) (LC g) u = some true := by
  obtain ⟨k, hk⟩ : ∃ k, k = 30000 := ⟨_, rfl⟩
  refine ⟨k + 2, ?_⟩
  unfold hypercubelaw04_TruthMakes.f
  rw [works _ (by omega), Option.bind_some, if_pos rfl, LC_len, LC_len]
  by_cases h1 : (f.length : Int) > 24
  · rw [if_pos h1, hypercubelaw04_TruthMakes.j0, if_pos rfl]
  rw [if_neg h1]
  by_cases h2 : (g.length : Int) > 24
  · rw [decide_eq_true h2, hypercubelaw04_TruthMakes.j0, if_pos rfl]
  rw [decide_eq_false h2, hypercubelaw04_TruthMakes.j0, if_neg Bool.false_ne_true, EvalL u f _ (by omega) (by omega), Option.bind_some, EvalL u g _ (by omega) (by omega), Option.bind_some]
  by_cases hf : H.right f = true
  · rw [if_pos hf, if_pos rfl]
    by_cases hg : H.right g = true
    · rw [if_pos hg]
      show hypercubelaw04_TruthMakes.j1 (k + 1) (LC f) (LC g) u (code (valOf f (atv u))) (code (valOf g (atv u))) false = some true
      rw [hypercubelaw04_TruthMakes.j1, if_neg Bool.false_ne_true, joinL f g (by omega) (by omega), Option.bind_some]
      by_cases h : (fJoin f g).2 = 0
      · obtain ⟨_, _, h2, h3⟩ := fJoin_told h
        have h64 := len_of_right h2
        rw [if_pos h, fpv_two (by omega) (by omega) h2, Option.bind_some, if_pos rfl, tjoin, Option.bind_some, val_code, val_code, if_pos (by rw [val_join h3])]
        exact makes_j2 k (by omega) f g u (by omega) (by omega) hf
      · rw [if_neg h]
        exact makes_j2 k (by omega) f g u (by omega) (by omega) hf
    · rw [if_neg hg]
      rfl
  · rw [if_neg hf, if_neg (show ¬ (2 : Int) = 0 by decide), hypercubelaw04_TruthMakes.j1, if_pos rfl]
theorem foldE_all {α β : Type} {z : β} {f : β → α → β × Int} : ∀ (l : List α) (b : β), (foldE z f l b).2 = 0 → ∀ c ∈ l, ∃ b', (f b' c).2 = 0
  | [], _, _, c, hc => by simp at hc
  | a :: l, b, h, c, hc => by
    unfold foldE at h
    by_cases h1 : (f b a).2 = 0
    · rw [if_pos h1] at h
      rcases List.mem_cons.1 hc with rfl | h2
      · exact ⟨b, h1⟩
      · exact foldE_all l _ h c h2
    · rw [if_neg h1] at h
      exact absurd h h1
theorem put_not {f r : List C} {i : Int} (h : (putF f i r).2 = 0) (hn : (f.any fun c => hasI c.2 i) = true) : (H.notF r).2 = 0 := by
  obtain ⟨c, hc, hb⟩ := List.any_eq_true.1 hn
  obtain ⟨b, h1⟩ := foldE_all f [] h c hc
  unfold putStep at h1
  by_cases h2 : (putB i r c).2 = 0
  · unfold putB at h2
    by_cases h3 : (putA i r c).2 = 0
    · rw [if_pos h3, if_pos hb] at h2
      by_cases h4 : (H.notF r).2 = 0
      · exact h4
      · rw [if_neg h4] at h2
        exact absurd h2 h4
    · rw [if_neg h3] at h2
      exact absurd h2 h3
  · rw [if_neg h2] at h1
    exact absurd h1 h2
theorem atv_set (u : List Int) (n : Nat) (i : Nat) (v : Int) (hi : i < (u ++ List.replicate n 0).length) (j : Nat) : atv ((u ++ List.replicate n 0).set i v) j = if j = i then val v else atv u j := by
  unfold atv
  rw [List.getD_eq_getElem?_getD, List.getElem?_set]
  by_cases h : j = i
  · subst h
    rw [if_pos rfl, if_pos hi, if_pos rfl]
    rfl
  · rw [if_neg (fun e => h e.symm), if_neg h, List.getD_eq_getElem?_getD]
    by_cases hj : j < u.length
    · rw [List.getElem?_append_left hj]
    · rw [List.getElem?_append_right (by omega), List.getElem?_eq_none (l := u) (by omega)]
      by_cases h2 : j - u.length < n
      · rw [List.getElem?_replicate, if_pos h2]
        rfl
      · rw [List.getElem?_eq_none (by rw [List.length_replicate]; omega)]
theorem puts_l0 (f p : List C) (i : Nat) (hi : i < 24) (u : List Int) (hu : u.length ≤ 100) (hlf : f.length ≤ 24) (hf : H.right f = true) (hp : H.right p = true) (v : Bool × Bool) (hv : valOf p (atv u) = valOf f (fun j => if j = i then v else atv u j)) : ∀ (d k n : Nat), n + d = 25 → 9000 + d < k → n = 0 ∨ u.length + n ≤ i + 1 →
    hypercubelaw04_TruthPuts.l0 k (LC f) (i : Int) u (LC p) (code v) (u ++ List.replicate n 0) = some true
  | d, 0, _, _, hk, _ => absurd hk (by omega)
  | d, k + 1, n, hd, hk, hn => by
    have h64 := len_of_right hp
    have hlen : (u ++ List.replicate n (0 : Int)).length = u.length + n := by rw [List.length_append, List.length_replicate]
    by_cases h : u.length + n ≤ i
    · obtain ⟨d, rfl⟩ : ∃ m, d = m + 1 := ⟨d - 1, by omega⟩
      rw [hypercubelaw04_TruthPuts.l0, if_pos (by rw [hlen]; omega), if_pos (by rw [hlen]; omega), List.append_assoc, ← List.replicate_succ']
      exact puts_l0 f p i hi u hu hlf hf hp v hv d k (n + 1) (by omega) (by omega) (by omega)
    · rw [hypercubelaw04_TruthPuts.l0, if_neg (by rw [hlen]; omega), if_pos (by omega), if_pos (by rw [hlen]; omega), fpv_two (by omega) (by omega) hp, Option.bind_some, fpv_two (by omega) (by omega) hf, Option.bind_some, if_pos rfl, if_pos rfl, hv, Int.toNat_natCast]
      have e : atv ((u ++ List.replicate n 0).set i (code v)) = fun j => if j = i then v else atv u j := by
        funext j
        rw [atv_set u n i (code v) (by rw [hlen]; omega), val_code]
      rw [e]
      show some (code _ == code _) = some true
      rw [beq_self_eq_true]
theorem TruthPuts (f : List C) (i : Int) (_wi : (Lit.int .i64 i).wf = true) (r : List C) (u : List Int) : ∃ k, hypercubelaw04_TruthPuts.f k (LC f) i (LC r) u = some true := by
  obtain ⟨k, hk⟩ : ∃ k, k = 30000 := ⟨_, rfl⟩
  refine ⟨k + 2, ?_⟩
  unfold hypercubelaw04_TruthPuts.f
  rw [works _ (by omega), Option.bind_some, if_pos rfl, LC_len, LC_len]
  by_cases h1 : (f.length : Int) > 24
  · rw [if_pos h1, hypercubelaw04_TruthPuts.j0, if_pos rfl]
  rw [if_neg h1]
  by_cases h2 : (r.length : Int) > 24
  · rw [if_pos h2, hypercubelaw04_TruthPuts.j0, if_pos rfl]
  rw [if_neg h2]
  by_cases h3 : (u.length : Int) > 100
  · rw [decide_eq_true h3, hypercubelaw04_TruthPuts.j0, if_pos rfl]
  rw [decide_eq_false h3, hypercubelaw04_TruthPuts.j0, if_neg Bool.false_ne_true, putL f i r (by omega) (by omega), Option.bind_some, EvalL u r _ (by omega) (by omega), Option.bind_some]
  by_cases h : (fPut f i r).2 = 0
  · obtain ⟨hf, hr, hd, hp, hE⟩ := fPut_told h
    have hd24 := of_decide_eq_true hd
    have hF : (putF f i r).2 = 0 := by
      unfold fPut at h
      rw [if_pos ⟨hf, hr⟩, if_pos hd] at h
      exact h
    rw [if_pos h, if_pos hr]
    show hypercubelaw04_TruthPuts.j1 (k + 1) (LC f) i u (LC (fPut f i r).1) (code (valOf r (atv u))) false = some true
    rw [hypercubelaw04_TruthPuts.j1, if_neg Bool.false_ne_true, Option.bind_some, if_pos (by simp; omega), List.nil_append]
    have hv := val_put hd (right_ok hf) (right_ok hr) (put_not hF) hE (atv u)
    have hz := puts_l0 f (fPut f i r).1 i.toNat (by omega) u (by omega) (by omega) hf hp _ hv 25 k 0 (by omega) (by omega) (.inl rfl)
    rw [List.replicate_zero, List.append_nil, show ((i.toNat : Nat) : Int) = i by omega] at hz
    exact hz
  · rw [if_neg h, hypercubelaw04_TruthPuts.j1, if_pos rfl]
end Go.Proofs.YtfbcgjkagdbckaaDoor.Pure
