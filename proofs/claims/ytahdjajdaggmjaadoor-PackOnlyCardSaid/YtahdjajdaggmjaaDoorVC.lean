/-
Plain law of layer 36: the statement PackOnly.
-/
import Derived.Test.YtahdjajdaggmjaaDoorVB
import Derived.Test.YtahdjajdaggmjaaDoorYde2
set_option linter.unusedVariables false
set_option linter.unusedSimpArgs false
set_option linter.unusedSectionVars false
namespace Go.Proofs.YtahdjajdaggmjaaDoor.XPo
open Go.RowKit Go.Proofs.YtahdjajdaggmjaaDoorW.PrintWords Go.Proofs.YtahdjajdaggmjaaDoorW.PrintLast Go.Proofs.YtahdjajdaggmjaaDoorW.PrintMore

theorem nbVal (s : ByteArray) : nbP s = (decide (s.size ≤ 65536) && nmB s) := Ev.val (fun k => pack_named.mono _ k) (namedA s)
theorem nb_pos {s : ByteArray} (h : nbP s = true) : 1 ≤ s.size := by
  rw [nbVal] at h
  have := (nmL_len (Bool.and_eq_true_iff.1 h).2).2
  rw [← Lib.size_eq] at this
  exact this
theorem pt_of {t : Tm} {n : Nat} (h : TmOk t n) (hn : n ≤ 900000000) : PTp t := (right_evS t h.1 (by have := h.2.2; omega)).has
/-- An entry that was taken. -/
def EnOk (N : Nat) (x : En) : Prop := x.f0.size ≤ N ∧ rtP x.f1 = 0 ∧ rtP x.f2 = 0 ∧ TmOk x.f1 N ∧ TmOk x.f2 N
section
variable {bs : List Int} (hby : By bs) (hlen : bs.length ≤ 1000000)
include hby hlen
theorem whole_ok {s : Nat} (hs : s ≤ bs.length) : (∀ t s1, wholeS nbP frP faP rtP bs s = .ok (t, s1) → At bs s s1 (encT t) ∧ TmOk t bs.length ∧ rtP t = 0) ∧ ∀ e, wholeS nbP frP faP rtP bs s = .error e → Er bs e := by
  obtain ⟨h1, h2⟩ := term_ok hby hlen nbP frP faP 200 s hs
  cases hq : termS nbP frP faP bs 200 s with
  | error y =>
    refine ⟨fun t s1 h => ?_, fun e h => ?_⟩
    · rw [wholeS, hq] at h
      cases h
    · rw [wholeS, hq] at h
      cases h
      exact h2 _ hq
  | ok y =>
    obtain ⟨u, su⟩ := y
    obtain ⟨ha, o1, o2, o3⟩ := h1 _ _ hq
    have hle := ha.le
    by_cases hr : rtP u = 0
    · refine ⟨fun t s1 h => ?_, fun e h => ?_⟩
      · rw [wholeS, hq] at h
        dsimp only at h
        rw [if_pos hr] at h
        cases h
        exact ⟨ha, ⟨o1, o2, by omega⟩, hr⟩
      · rw [wholeS, hq] at h
        dsimp only at h
        rw [if_pos hr] at h
        cases h
    · refine ⟨fun t s1 h => ?_, fun e h => ?_⟩
      · rw [wholeS, hq] at h
        dsimp only at h
        rw [if_neg hr] at h
        cases h
      · rw [wholeS, hq] at h
        dsimp only at h
        rw [if_neg hr] at h
        cases h
        exact er61 hs
theorem ent_ok {seen : List ByteArray} {s : Nat} (hs : s ≤ bs.length) : (∀ x s1, entS nbP frP faP rtP bs seen s = .ok (x, s1) → At bs s s1 (encE x) ∧ nbP x.f0 = true ∧ memB x.f0 seen = false ∧ EnOk bs.length x) ∧ ∀ e, entS nbP frP faP rtP bs seen s = .error e → Er bs e := by
  cases hq : textS nbP bs s with
  | error y =>
    refine ⟨fun t s1 h => ?_, fun e h => ?_⟩
    · rw [entS, hq] at h
      cases h
    · rw [entS, hq] at h
      cases h
      exact text_er hby hs hq
  | ok y =>
    obtain ⟨x, sx⟩ := y
    obtain ⟨ha, hn, hz⟩ := text_ok hby hq
    cases hm : memB x seen with
    | true =>
      refine ⟨fun t s1 h => ?_, fun e h => ?_⟩
      · rw [entS, hq] at h
        dsimp only at h
        rw [hm, if_pos rfl] at h
        cases h
      · rw [entS, hq] at h
        dsimp only at h
        rw [hm, if_pos rfl] at h
        cases h
        exact er61 hs
    | false =>
      obtain ⟨w1, w2⟩ := whole_ok hby hlen ha.le.2
      cases h1 : wholeS nbP frP faP rtP bs sx with
      | error y =>
        refine ⟨fun t s1 h => ?_, fun e h => ?_⟩
        · rw [entS, hq] at h
          dsimp only at h
          rw [hm, if_neg Bool.false_ne_true, h1] at h
          cases h
        · rw [entS, hq] at h
          dsimp only at h
          rw [hm, if_neg Bool.false_ne_true, h1] at h
          cases h
          exact w2 _ h1
      | ok y =>
        obtain ⟨t1, st1⟩ := y
        obtain ⟨a1, o1, r1⟩ := w1 _ _ h1
        obtain ⟨v1, v2⟩ := whole_ok hby hlen a1.le.2
        cases h2 : wholeS nbP frP faP rtP bs st1 with
        | error y =>
          refine ⟨fun t s1 h => ?_, fun e h => ?_⟩
          · rw [entS, hq] at h
            dsimp only at h
            rw [hm, if_neg Bool.false_ne_true, h1] at h
            dsimp only at h
            rw [h2] at h
            cases h
          · rw [entS, hq] at h
            dsimp only at h
            rw [hm, if_neg Bool.false_ne_true, h1] at h
            dsimp only at h
            rw [h2] at h
            cases h
            exact v2 _ h2
        | ok y =>
          obtain ⟨t2, st2⟩ := y
          obtain ⟨a2, o2, r2⟩ := v1 _ _ h2
          refine ⟨fun t s1 h => ?_, fun e h => ?_⟩
          · rw [entS, hq] at h
            dsimp only at h
            rw [hm, if_neg Bool.false_ne_true, h1] at h
            dsimp only at h
            rw [h2] at h
            cases h
            exact ⟨(ha.trans a1).trans a2, hn, hm, hz, r1, r2, o1, o2⟩
          · rw [entS, hq] at h
            dsimp only at h
            rw [hm, if_neg Bool.false_ne_true, h1] at h
            dsimp only at h
            rw [h2] at h
            cases h
theorem ents_ok : ∀ (n : Nat) (acc : List En) (s : Nat), s ≤ bs.length → (∀ l s1, entsS nbP frP faP rtP bs n acc s = .ok (l, s1) → ∃ g, l = acc ++ g ∧ g.length = n ∧ At bs s s1 (g.flatMap encE) ∧ namesBad nbP g (acc.map (·.f0)).reverse = false ∧ (∀ x ∈ g, EnOk bs.length x) ∧ 4 * n ≤ s1 - s) ∧ ∀ e, entsS nbP frP faP rtP bs n acc s = .error e → Er bs e
  | 0, acc, s, hs => by
    refine ⟨fun l s1 h => ?_, fun e h => by cases h⟩
    cases h
    exact ⟨[], by simp, rfl, At.nil hs, by rw [namesBad], (fun x hx => by cases hx), by omega⟩
  | n + 1, acc, s, hs => by
    obtain ⟨h1, h2⟩ := ent_ok hby hlen (seen := (acc.map (·.f0)).reverse) hs
    cases hq : entS nbP frP faP rtP bs (acc.map (·.f0)).reverse s with
    | error y =>
      refine ⟨fun l s1 h => ?_, fun e h => ?_⟩
      · rw [entsS, hq] at h
        cases h
      · rw [entsS, hq] at h
        cases h
        exact h2 _ hq
    | ok y =>
      obtain ⟨x, sx⟩ := y
      obtain ⟨ha, hn, hm, ho⟩ := h1 _ _ hq
      obtain ⟨k1, k2⟩ := ents_ok n (acc ++ [x]) sx ha.le.2
      refine ⟨fun l s1 h => ?_, fun e h => ?_⟩
      · rw [entsS, hq] at h
        obtain ⟨g, hl, hgl, hat, hnb, hok, h4⟩ := k1 _ _ h
        have a1 := ha.le
        have a2 := hat.le
        have a3 := ha.2.1
        have p1 := encT_pos x.f1
        have p2 := encT_pos x.f2
        have p3 := nb_pos hn
        have p4 : 1 ≤ (numL x.f0.size).length := by
          by_cases h : x.f0.size < 128
          · rw [numL_lt h]
            exact Nat.le_refl _
          · rw [numL_ge h, List.length_cons]
            omega
        rw [encE, List.length_append, List.length_append, textL, List.length_append, bytesOf_length] at a3
        refine ⟨x :: g, by rw [hl, List.append_assoc]; rfl, by rw [List.length_cons, hgl], ?_, ?_, fun y hy => ?_, by omega⟩
        · rw [List.flatMap_cons]
          exact ha.trans hat
        · rw [List.map_append, List.reverse_append] at hnb
          rw [namesBad, if_neg (by rw [hn]; exact fun h => by cases h), if_neg (by rw [hm]; exact fun h => by cases h)]
          exact hnb
        · rcases List.mem_cons.1 hy with rfl | hy
          · exact ho
          · exact hok y hy
      · rw [entsS, hq] at h
        exact k2 _ h
theorem body_ok (h4 : 4 ≤ bs.length) : (∀ l, bodyS nbP frP faP rtP bs = .ok l → encS l = bs ∧ namesBad nbP l [] = false ∧ (∀ x ∈ l, EnOk bs.length x) ∧ 4 * l.length ≤ bs.length) ∧ ∀ e, bodyS nbP frP faP rtP bs = .error e → Er bs e := by
  cases hh : headB bs with
  | some a =>
    refine ⟨fun l h => ?_, fun e h => ?_⟩
    · rw [bodyS, hh] at h
      cases h
    · rw [bodyS, hh] at h
      cases h
      unfold headB at hh
      have ha : a = 0 ∨ a = 1 ∨ a = 2 := by
        split at hh
        · exact .inl (Option.some.inj hh).symm
        · split at hh
          · exact .inr (.inl (Option.some.inj hh).symm)
          · split at hh
            · exact .inr (.inr (Option.some.inj hh).symm)
            · cases hh
      exact ⟨by show 0 ≤ a; omega, by show a ≤ _; omega, by show (61 : Int) ≠ 271; decide, by show (61 : Int) ≠ 0; decide⟩
  | none =>
    have h3 : At bs 0 3 [72, 67, 1] := by
      unfold headB at hh
      have e0 := At.one (bs := bs) (s := 0) (by omega)
      have e1 := At.one (bs := bs) (s := 1) (by omega)
      have e2 := At.one (bs := bs) (s := 2) (by omega)
      split at hh
      · cases hh
      · split at hh
        · cases hh
        · split at hh
          · cases hh
          · rename_i q0 q1 q2
            have r0 : rd bs ((0 : Nat) : Int) = 72 := Decidable.not_not.1 q0
            have r1 : rd bs ((1 : Nat) : Int) = 67 := Decidable.not_not.1 q1
            have r2 : rd bs ((2 : Nat) : Int) = 1 := Decidable.not_not.1 q2
            rw [r0] at e0
            rw [r1] at e1
            rw [r2] at e2
            exact (e0.trans e1).trans e2
    cases hn : numS bs 3 with
    | error y =>
      refine ⟨fun l h => ?_, fun e h => ?_⟩
      · rw [bodyS, hh] at h
        dsimp only at h
        rw [hn] at h
        cases h
      · rw [bodyS, hh] at h
        dsimp only at h
        rw [hn] at h
        cases h
        exact num_er (by omega) hn
    | ok y =>
      obtain ⟨n, s⟩ := y
      obtain ⟨hna, _⟩ := num_ok hby hn
      obtain ⟨k1, k2⟩ := ents_ok hby hlen n [] s hna.le.2
      cases he : entsS nbP frP faP rtP bs n [] s with
      | error y =>
        refine ⟨fun l h => ?_, fun e h => ?_⟩
        · rw [bodyS, hh] at h
          dsimp only at h
          rw [hn] at h
          dsimp only at h
          rw [he] at h
          cases h
        · rw [bodyS, hh] at h
          dsimp only at h
          rw [hn] at h
          dsimp only at h
          rw [he] at h
          cases h
          exact k2 _ he
      | ok y =>
        obtain ⟨l0, s1⟩ := y
        obtain ⟨g, hg, hgl, hat, hnb, hok, h4n⟩ := k1 _ _ he
        rw [List.nil_append] at hg
        subst hg
        have hle := hat.le
        by_cases hend : s1 < bs.length
        · refine ⟨fun l h => ?_, fun e h => ?_⟩
          · rw [bodyS, hh] at h
            dsimp only at h
            rw [hn] at h
            dsimp only at h
            rw [he, endS, if_pos hend] at h
            cases h
          · rw [bodyS, hh] at h
            dsimp only at h
            rw [hn] at h
            dsimp only at h
            rw [he, endS, if_pos hend] at h
            cases h
            exact er61 hle.2
        · refine ⟨fun l h => ?_, fun e h => ?_⟩
          · rw [bodyS, hh] at h
            dsimp only at h
            rw [hn] at h
            dsimp only at h
            rw [he, endS, if_neg hend] at h
            cases h
            have hall := ((h3.trans hna).trans hat).1
            rw [List.drop_zero, List.drop_eq_nil_of_le (by omega), List.append_nil] at hall
            refine ⟨?_, hnb, hok, by omega⟩
            rw [encS, hgl]
            exact hall.symm
          · rw [bodyS, hh] at h
            dsimp only at h
            rw [hn] at h
            dsimp only at h
            rw [he, endS, if_neg hend] at h
            cases h
end
/-! ### Decode and Encode -/
theorem readG_all : readG := by
  refine ⟨fun s _ => (namedA s).has, fun f hf hc => ?_⟩
  have h := rowP (rowB_in (f := f) ⟨hf, fun c hc' => hc c hc'⟩).1
  exact ⟨h.1.1, h.1.2.1⟩
theorem decG_of {l : List Int} (hby : By l) (hl : l.length ≤ 1000000) : decG l := by
  have hby2 : By (l.take (l.length - 4)) := fun x hx => hby x (List.mem_of_mem_take hx)
  have hl2 : (l.take (l.length - 4)).length ≤ 1000000 := by rw [List.length_take]; omega
  refine ⟨readG_all, hby, .inl hl, (sealed_ev _ (by omega) hby2).has, ?_, fun s t s1 h => ?_⟩
  · rw [slV _ (by omega) hby2]
    refine hby2.app fun x hx => ?_
    unfold four at hx
    simp only [List.mem_cons, List.not_mem_nil, or_false] at hx
    omega
  · by_cases hs : s ≤ (l.take (l.length - 4)).length
    · obtain ⟨ha, ho⟩ := (term_ok hby2 hl2 nbP frP faP 200 s hs).1 _ _ h
      exact pt_of ho (by have := ha.le; omega)
    · rw [termS, if_neg (by omega)] at h
      cases h
theorem decode_val {l : List Int} (hby : By l) (hl : l.length ≤ 1000000) : pack_Decode.f l = some (decI nbP frP faP rtP slP l) := by
  unfold pack_Decode.f
  exact if_pos (decG_of hby hl)
theorem encode_back {l : List En} {bs : List Int} (hl : bs.length ≤ 4000) (hby : By bs) (h1 : encS l = bs) (h2 : namesBad nbP l [] = false) (h3 : ∀ x ∈ l, EnOk bs.length x) (h4 : 4 * l.length ≤ bs.length) : pack_Encode.f l = some (bs ++ four (sumN 2166136261 bs), 0) := by
  have hw : wrongI nbP rtP l = 0 := by
    unfold wrongI
    rw [h2, if_neg Bool.false_ne_true, if_neg]
    intro h
    obtain ⟨x, hx, hb⟩ := List.any_eq_true.1 h
    obtain ⟨_, r1, r2, _⟩ := h3 x hx
    rw [r1, r2] at hb
    simp at hb
  have hG : encG l := by
    refine ⟨by omega, fun x hx => ?_, fun _ => ⟨by rw [h1]; omega, fun _ => ?_, fun x hx => ?_⟩⟩
    · obtain ⟨z, _, _, o1, o2⟩ := h3 x hx
      exact ⟨by omega, (namedA x.f0).has, pt_of o1 (by omega), pt_of o2 (by omega)⟩
    · rw [h1]
      exact (sealed_ev bs (by omega) hby).has
    · obtain ⟨_, _, _, o1, o2⟩ := h3 x hx
      exact ⟨o1.2.1, o2.2.1⟩
  unfold pack_Encode.f
  refine (if_pos hG).trans (congrArg some ?_)
  unfold encodeI
  rw [if_pos hw, h1, if_neg (by omega), slV bs (by omega) hby]
theorem sum4 : pack_sealed.f 10 [72, 67, 1, 0] = some [72, 67, 1, 0, 113, 137, 183, 37] := by kernel_rfl
theorem slP4 : slP [72, 67, 1, 0] = [72, 67, 1, 0, 113, 137, 183, 37] := valO_eq (fun k => pack_sealed.mono _ k) sum4
theorem encS_nil : encS [] = [72, 67, 1, 0] := by
  simp [encS, numL_lt]
theorem encode_nil : pack_Encode.f [] = some ([72, 67, 1, 0, 113, 137, 183, 37], 0) := by
  have hg : encG [] := by
    refine ⟨by simp, by simp, fun _ => ⟨by rw [encS_nil]; decide, fun _ => ?_, by simp⟩⟩
    rw [encS_nil]
    exact ⟨10, _, sum4⟩
  unfold pack_Encode.f
  refine (if_pos hg).trans (congrArg some ?_)
  unfold encodeI
  rw [if_pos (by simp [wrongI, namesBad]), encS_nil, slP4]
  rfl
theorem decode_8 : pack_Decode.f [72, 67, 1, 0, 113, 137, 183, 37] = some ([], 0, 0) := by
  rw [decode_val (fun x hx => by simp at hx; omega) (by decide)]
  congr 1
  unfold decI
  rw [show ([72, 67, 1, 0, 113, 137, 183, 37] : List Int).take (([72, 67, 1, 0, 113, 137, 183, 37] : List Int).length - 4) = [72, 67, 1, 0] from rfl, slP4, if_neg (by decide), if_neg (by decide), if_neg (by simp)]
  have hn : numS [72, 67, 1, 0] 3 = .ok (0, 4) := by kernel_rfl
  rw [bodyS, show headB [72, 67, 1, 0] = none by decide]
  dsimp only
  rw [hn]
  rfl
theorem works : Ev (fun k => hypercubelaw36_works.f k) true := by
  have hs : pack_Sum.f 3 [] = some 2166136261 := by kernel_rfl
  obtain ⟨k0, h0⟩ := Ev.of (fun k => pack_Sum.mono _ k) hs
  refine ⟨k0, fun k hk => ?_⟩
  show hypercubelaw36_works.f k = some true
  unfold hypercubelaw36_works.f
  rw [encode_nil, Option.bind_some, decode_8, Option.bind_some]
  simp [rd, h0 k hk]
/-! ### The statement -/
theorem PackOnly (l : List Int) (hby : By l) : ∃ k, hypercubelaw36_PackOnly.f k l = some true := by
  suffices h : Ev (fun k => hypercubelaw36_PackOnly.f k l) true by
    obtain ⟨k0, h0⟩ := h
    exact ⟨k0, h0 k0 (Nat.le_refl _)⟩
  (refine Ev.same (G := ?_) ?_ ?_; rotate_right 1; (focus (intro k; rw [hypercubelaw36_PackOnly.f])))
  refine Ev.bind works (Ev.pos rfl ?_)
  by_cases hl : (l.length : Int) > 4000
  · exact Ev.pos hl (Ev.now _)
  · refine Ev.neg hl (Ev.bind (psum l (by omega) hby) (Ev.bindc rfl (Ev.pos (by show 0 + l.length < _; omega) (Ev.bindc rfl (Ev.bindc (a := four (sumN 2166136261 l)) rfl (Ev.pos (by show ([] ++ l).length + 4 < _; rw [List.nil_append]; omega) (Ev.bindc (a := l ++ four (sumN 2166136261 l)) rfl ?_)))))))
    have hf : (four (sumN 2166136261 l)).length = 4 := rfl
    have hfb : By (four (sumN 2166136261 l)) := fun x hx => by
      unfold four at hx
      simp only [List.mem_cons, List.not_mem_nil, or_false] at hx
      omega
    have hall : By (l ++ four (sumN 2166136261 l)) := hby.app hfb
    have hlen : (l ++ four (sumN 2166136261 l)).length = l.length + 4 := by rw [List.length_append, hf]
    have htk : (l ++ four (sumN 2166136261 l)).take ((l ++ four (sumN 2166136261 l)).length - 4) = l := by
      rw [hlen, Nat.add_sub_cancel, List.take_left]
    rw [decode_val hall (by omega)]
    refine Ev.bindc rfl ?_
    have hno : ∀ e : Int × Int, 0 ≤ e.1 → e.1 ≤ (l ++ four (sumN 2166136261 l)).length → e.2 ≠ 271 → e.2 ≠ 0 → decI nbP frP faP rtP slP (l ++ four (sumN 2166136261 l)) = ([], e.1, e.2) → Ev (fun k => if (decI nbP frP faP rtP slP (l ++ four (sumN 2166136261 l))).2.2 = 0 then ((pack_Encode.f (decI nbP frP faP rtP slP (l ++ four (sumN 2166136261 l))).1).bind fun bt194 => (if bt194.2 = 0 then (some ((strOfNums bt194.1).toList == (strOfNums (l ++ four (sumN 2166136261 l))).toList)) else (some false))) else (if ((decI nbP frP faP rtP slP (l ++ four (sumN 2166136261 l))).1.length : Int) = 0 then (if (decI nbP frP faP rtP slP (l ++ four (sumN 2166136261 l))).2.1 ≥ 0 then (if (decI nbP frP faP rtP slP (l ++ four (sumN 2166136261 l))).2.1 ≤ ((l ++ four (sumN 2166136261 l)).length : Int) then (some ((decI nbP frP faP rtP slP (l ++ four (sumN 2166136261 l))).2.2 != 271)) else (some false)) else (some false)) else (some false))) true := by
      intro e e1 e2 e3 e4 hd
      rw [hd]
      refine Ev.neg e4 (Ev.pos rfl (Ev.pos e1 (Ev.pos e2 (Ev.const ?_))))
      rw [show (e.2 != 271) = true from bne_iff_ne.2 e3]
    by_cases h8 : (l ++ four (sumN 2166136261 l)).length < 8
    · refine hno (0, 61) (by decide) (Int.natCast_nonneg _) (by decide) (by decide) ?_
      unfold decI
      rw [if_neg (by omega), if_pos h8]
    · have hdec : decI nbP frP faP rtP slP (l ++ four (sumN 2166136261 l)) = outD (bodyS nbP frP faP rtP l) := by
        unfold decI
        rw [if_neg (by omega), if_neg h8, htk, slV l (by omega) hby, if_neg (fun h => h rfl)]
      obtain ⟨b1, b2⟩ := body_ok hby (by omega) (by omega)
      cases hb : bodyS nbP frP faP rtP l with
      | error e =>
        obtain ⟨q1, q2, q3, q4⟩ := b2 _ hb
        refine hno e q1 (by omega) q3 q4 ?_
        rw [hdec, hb]
        rfl
      | ok x =>
        obtain ⟨r1, r2, r3, r4⟩ := b1 _ hb
        rw [hdec, hb]
        refine Ev.pos rfl ?_
        show Ev (fun k => (pack_Encode.f x).bind _) true
        rw [encode_back (by omega) hby r1 r2 r3 r4]
        exact Ev.bindc rfl (Ev.pos rfl (Ev.const (by rw [beq_self_eq_true])))
end Go.Proofs.YtahdjajdaggmjaaDoor.XPo
