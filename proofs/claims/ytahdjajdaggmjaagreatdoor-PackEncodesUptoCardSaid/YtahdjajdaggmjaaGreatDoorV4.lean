/-
Plain law of layer 36: names: what the document's scanner says of one.
-/
import Derived.Test.YtahdjajdaggmjaaGreatDoorV2
section
set_option linter.unusedVariables false
set_option linter.unusedSimpArgs false
namespace Go.Proofs.YtahdjajdaggmjaaGreatDoor.XPa
open Go.RowKit Go.Proofs.YtahdjajdaggmjaaGreatDoorW.PrintWords Go.Proofs.YtahdjajdaggmjaaGreatDoorW.PrintLast Go.Proofs.YtahdjajdaggmjaaGreatDoorW.PrintMore
theorem bt_nat (s : ByteArray) (i : Nat) (h : i < s.size) : bt s (i : Int) = (s[i].toNat : Int) := by
 have := bt_at s (i : Int) (by rw [Int.toNat_natCast]; exact h)
 rw [← this]
 simp only [Int.toNat_natCast]
theorem r_letter (c : UInt8) : r06letter.f (c.toNat : Int) = some (letB c) := by
 unfold r06letter.f letB
 have := c.toNat_lt
 repeat' split
 all_goals (congr 1; rw [Bool.eq_iff_iff]; simp only [Bool.or_eq_true, Bool.and_eq_true, decide_eq_true_eq, beq_iff_eq, true_iff, false_iff, Bool.false_eq_true]; omega)
theorem r_digit (c : UInt8) : r06digit.f (c.toNat : Int) = some (digB c) := by
 unfold r06digit.f digB
 repeat' split
 all_goals (congr 1; rw [Bool.eq_iff_iff]; simp only [Bool.or_eq_true, Bool.and_eq_true, decide_eq_true_eq, beq_iff_eq, true_iff, false_iff, Bool.false_eq_true]; omega)
theorem r_blank (c : UInt8) : ∃ b, r06blank.f (c.toNat : Int) = some b ∧ (b = true → c.toNat ≤ 32) := by
 unfold r06blank.f
 repeat' split
 ·exact ⟨true, rfl, fun _ => by omega⟩
 ·exact ⟨true, rfl, fun _ => by omega⟩
 ·exact ⟨true, rfl, fun _ => by omega⟩
 ·exact ⟨_, rfl, fun h => by have := of_decide_eq_true h; omega⟩
theorem r_sign0 (s x6 : ByteArray) (i : Nat) (hi : i < s.size) (h6 : x6.size ≤ 100) : ∀ (n j : Nat), j + n = x6.size → ∃ b : Nat, Ev (fun k => r06sign.l0 k s (i : Int) x6 (j : Int)) (b : Int) ∧ b ≤ 1 := by
 intro n
 induction n with
 | zero =>
  intro j hj
  refine ⟨0, ?_, by omega⟩
  refine evU (fun k => by rw [r06sign.l0]) ?_
  exact Ev.neg (by omega) (Ev.now _)
 | succ n ih =>
  intro j hj
  by_cases h : bt s (i : Int) = bt x6 (j : Int)
  ·refine ⟨1, ?_, by omega⟩
   refine evU (fun k => by rw [r06sign.l0]) ?_
   exact Ev.pos (by omega) (Ev.pos (by omega) (Ev.pos (by omega) (Ev.pos (by omega) (Ev.pos h (Ev.now _)))))
  ·obtain ⟨b, hb, hb1⟩ := ih (j + 1) (by omega)
   refine ⟨b, ?_, hb1⟩
   refine evU (fun k => by rw [r06sign.l0]) ?_
   refine Ev.pos (by omega) (Ev.pos (by omega) (Ev.pos (by omega) (Ev.pos (by omega) (Ev.neg h ?_))))
   rw [wsucc j (by omega)]
   exact hb
theorem r_sign (s : ByteArray) (hs : s.size ≤ 65536) (i : Nat) (hi : i < s.size) : ∃ b : Nat, Ev (fun k => r06sign.f k s (i : Int)) (b : Int) ∧ b ≤ 2 ∧ i + b ≤ s.size := by
 obtain ⟨b, hb, hb1⟩ : ∃ b : Nat, Ev (fun k => r06sign.j0 k s (i : Int)) (b : Int) ∧ b ≤ 1 := by
  obtain ⟨b, hb, h1⟩ := r_sign0 s (⟨#[40, 41, 91, 93, 44, 46, 58, 59, 61, 92, 60, 62, 64, 126, 42, 48, 49]⟩ : ByteArray) i hi (by decide) 17 0 (by decide)
  refine ⟨b, ?_, h1⟩
  refine evU (fun k => by rw [r06sign.j0]) ?_
  exact hb
 have w1 := wsucc i (by omega)
 have w2 : wrap64 ((i : Int) + 2) = ((i + 2 : Nat) : Int) := wadd i 2 (by omega)
 by_cases h : i + 1 < s.size
 ·by_cases h1 : (s.extract (i : Int).toNat (((i + 2 : Nat) : Int)).toNat).toList = ([45, 62] : List UInt8)
  ·refine ⟨2, ?_, by omega, by omega⟩
   refine evS (fun k => by rw [r06sign.f]) ?_
   rw [w1, w2]
   exact Ev.pos (by omega) (Ev.pos (by omega) (Ev.pos (by omega) (Ev.pos (by omega) (Ev.pos h1 (Ev.now _)))))
  ·by_cases h2 : (s.extract (i : Int).toNat (((i + 2 : Nat) : Int)).toNat).toList = ([47, 92] : List UInt8)
   ·refine ⟨2, ?_, by omega, by omega⟩
    refine evS (fun k => by rw [r06sign.f]) ?_
    rw [w1, w2]
    exact Ev.pos (by omega) (Ev.pos (by omega) (Ev.pos (by omega) (Ev.pos (by omega) (Ev.neg h1 (Ev.pos h2 (Ev.now _))))))
   ·by_cases h3 : (s.extract (i : Int).toNat (((i + 2 : Nat) : Int)).toNat).toList = ([92, 47] : List UInt8)
    ·refine ⟨2, ?_, by omega, by omega⟩
     refine evS (fun k => by rw [r06sign.f]) ?_
     rw [w1, w2]
     exact Ev.pos (by omega) (Ev.pos (by omega) (Ev.pos (by omega) (Ev.pos (by omega) (Ev.neg h1 (Ev.neg h2 (Ev.pos h3 (Ev.now _)))))))
    ·refine ⟨b, ?_, by omega, by omega⟩
     refine evS (fun k => by rw [r06sign.f]) ?_
     rw [w1, w2]
     exact Ev.pos (by omega) (Ev.pos (by omega) (Ev.pos (by omega) (Ev.pos (by omega) (Ev.neg h1 (Ev.neg h2 (Ev.neg h3 hb))))))
 ·refine ⟨b, ?_, by omega, by omega⟩
  refine evS (fun k => by rw [r06sign.f]) ?_
  rw [w1]
  exact Ev.neg (by omega) hb
def GoodR (l : List S98) : Prop := ∀ t ∈ l, t.f0 = 1 → nmB t.f1 = true
def cutB (s : ByteArray) (i j : Nat) : List UInt8 := (s.data.toList.drop i).take (j - i)
theorem cut_data (s : ByteArray) (i j : Nat) : (s.extract i j).data.toList = cutB s i j := Lib.extract_data s i j
theorem cut_step (s : ByteArray) (i j : Nat) (hij : i ≤ j) (hj : j < s.size) : cutB s i (j + 1) = cutB s i j ++ [s[j]] := by
 unfold cutB
 have h1 : j - i < (s.data.toList.drop i).length := by rw [List.length_drop, ← Lib.size_eq]; omega
 have h2 : (s.data.toList.drop i)[j - i] = s[j] := by
  rw [List.getElem_drop]
  have : i + (j - i) = j := by omega
  simp only [this]
  rfl
 rw [show j + 1 - i = (j - i) + 1 by omega, List.take_succ_eq_append_getElem h1, h2]
theorem nmL_snoc {l : List UInt8} {c : UInt8} (h : nmL l = true) (hc : alnB c = true) : nmL (l ++ [c]) = true := by
 cases l with
 | nil => cases h
 | cons a t =>
  rw [nmL_cons] at h
  obtain ⟨h1, h2⟩ := Bool.and_eq_true_iff.1 h
  rw [List.cons_append, nmL_cons, h1, List.all_append, h2, List.all_cons, hc]
  rfl
def ScanOk (F : Nat → Option (List S98 × Int × Int)) : Prop := ∃ r, Ev F r ∧ (r.2.2 = 0 → GoodR r.1)
theorem ScanOk.up {F G : Nat → Option (List S98 × Int × Int)} (h : ScanOk G) (hs : ∀ k, F (k + 1) = G k) : ScanOk F := by
 obtain ⟨r, hr, hg⟩ := h
 exact ⟨r, Ev.up hr hs, hg⟩
theorem ScanOk.pos {p : Prop} [Decidable p] {F G : Nat → Option (List S98 × Int × Int)} (h : p) (g : ScanOk F) : ScanOk (fun k => if p then F k else G k) := by
 simp only [if_pos h]
 exact g
theorem ScanOk.neg {p : Prop} [Decidable p] {F G : Nat → Option (List S98 × Int × Int)} (h : ¬ p) (g : ScanOk G) : ScanOk (fun k => if p then F k else G k) := by
 simp only [if_neg h]
 exact g
theorem ScanOk.bind {β : Type} {F : Nat → Option β} {G : β → Nat → Option (List S98 × Int × Int)} {a : β} (h : Ev F a) (g : ScanOk (G a)) : ScanOk (fun k => (F k).bind fun x => G x k) := by
 obtain ⟨r, hr, hg⟩ := g
 exact ⟨r, Ev.bind h hr, hg⟩
theorem ScanOk.bindc {β : Type} {o : Option β} {G : β → Nat → Option (List S98 × Int × Int)} {a : β} (h : o = some a) (g : ScanOk (G a)) : ScanOk (fun k => o.bind fun x => G x k) := by
 subst h
 exact g
theorem ScanOk.err (i c : Int) (h : c ≠ 0) : ScanOk (fun _ => some (([] : List S98), i, c)) := ⟨_, Ev.now _, fun h2 => absurd h2 h⟩
theorem GoodR.snoc {l : List S98} {t : S98} (h : GoodR l) (ht : t.f0 = 1 → nmB t.f1 = true) : GoodR (l ++ [t]) := by
 intro x hx
 rcases List.mem_append.1 hx with hx | hx
 ·exact h x hx
 ·obtain rfl := List.mem_singleton.1 hx
  exact ht
theorem scan_end (s : ByteArray) (hs : s.size ≤ 65536) (i : Nat) (hi : s.size ≤ i) (toks : List S98) (hl : toks.length ≤ 100000) (hg : GoodR toks) : ScanOk (fun k => r06Scan.l0 k s toks (i : Int)) := by
 refine ⟨(toks ++ [(⟨0, (⟨#[]⟩ : ByteArray), (s.size : Int)⟩ : S98)], 0, 0), ?_, fun _ => hg.snoc (fun h => absurd (show (0 : Int) = 1 from h) (by decide))⟩
 refine evU (fun k => by rw [r06Scan.l0]) ?_
 exact Ev.neg (by omega) (Ev.pos (by omega) (Ev.now _))
theorem scan_ok (s : ByteArray) (hs : s.size ≤ 65536) : ∀ (n i : Nat) (toks : List S98), s.size ≤ i + n → i ≤ s.size → toks.length ≤ i → GoodR toks → ScanOk (fun k => r06Scan.l0 k s toks (i : Int)) := by
 intro n
 induction n with
 | zero => exact fun i toks hi _ hl hg => scan_end s hs i (by omega) toks (by omega) hg
 | succ n ih =>
  intro i toks hi his hl hg
  by_cases h : i < s.size
  ·have hbt := bt_nat s i h
   have hl1 : ∀ (m j : Nat), j + m = s.size → i < j → ScanOk (fun k => r06Scan.l1 k s toks (j : Int)) := by
    intro m
    induction m with
    | zero =>
     intro j hj hij
     (refine ScanOk.up (G := ?_) ?_ ?_; rotate_right 1; (focus (intro k; rw [r06Scan.l1])))
     exact ScanOk.neg (by omega) (ih j toks (by omega) (by omega) (by omega) hg)
    | succ m ihm =>
     intro j hj hij
     (refine ScanOk.up (G := ?_) ?_ ?_; rotate_right 1; (focus (intro k; rw [r06Scan.l1])))
     refine ScanOk.pos (by omega) (ScanOk.pos (by omega) ?_)
     by_cases h10 : bt s (j : Int) = 10
     ·exact ScanOk.pos h10 (ih j toks (by omega) (by omega) (by omega) hg)
     ·refine ScanOk.neg h10 ?_
      rw [wsucc j (by omega)]
      exact ihm (j + 1) (by omega) (by omega)
   have hl2e : ∀ (j : Nat), i < j → j ≤ s.size → nmL (cutB s i j) = true → ScanOk (fun k => if (j : Int) = (i : Int) then (some (([] : List S98), (i : Int), 61)) else (if 0 ≤ (i : Int) then (if (i : Int) ≤ (j : Int) then (if (j : Int) ≤ (s.size : Int) then (if toks.length < 4398046511104 then (r06Scan.l0 k s (toks ++ [(⟨1, s.extract (i : Int).toNat (j : Int).toNat, (i : Int)⟩ : S98)]) (j : Int)) else (none)) else (none)) else (none)) else (none))) := by
    intro j hij hjs hc
    refine ScanOk.neg (by omega) (ScanOk.pos (by omega) (ScanOk.pos (by omega) (ScanOk.pos (by omega) (ScanOk.pos (by omega) ?_))))
    refine ih j _ (by omega) hjs (by rw [List.length_append, List.length_singleton]; omega) (hg.snoc fun _ => ?_)
    show nmL (s.extract i j).data.toList = true
    rw [cut_data]
    exact hc
   have hl2 : ∀ (m j : Nat), j + m = s.size → i < j → nmL (cutB s i j) = true → ScanOk (fun k => r06Scan.l2 k s toks (i : Int) (j : Int) 1) := by
    intro m
    induction m with
    | zero =>
     intro j hj hij hc
     (refine ScanOk.up (G := ?_) ?_ ?_; rotate_right 1; (focus (intro k; rw [r06Scan.l2])))
     exact ScanOk.neg (by omega) (hl2e j hij (by omega) hc)
    | succ m ihm =>
     intro j hj hij hc
     have hjs : j < s.size := by omega
     (refine ScanOk.up (G := ?_) ?_ ?_; rotate_right 1; (focus (intro k; rw [r06Scan.l2])))
     refine ScanOk.pos (by omega) (ScanOk.pos (by omega) ?_)
     rw [bt_nat s j hjs, r_letter]
     refine ScanOk.bindc rfl ?_
     rw [r_digit, wsucc j (by omega)]
     cases hL : letB s[j] with
     | true =>
      refine ScanOk.pos rfl (ihm (j + 1) (by omega) (by omega) ?_)
      rw [cut_step s i j (by omega) hjs]
      exact nmL_snoc hc (by unfold alnB; rw [hL]; rfl)
     | false =>
      refine ScanOk.neg Bool.false_ne_true (ScanOk.bindc rfl ?_)
      cases hD : digB s[j] with
      | true =>
       refine ScanOk.pos rfl (ihm (j + 1) (by omega) (by omega) ?_)
       rw [cut_step s i j (by omega) hjs]
       exact nmL_snoc hc (by unfold alnB; rw [hL, hD]; rfl)
      | false => exact ScanOk.neg Bool.false_ne_true (hl2e j hij (by omega) hc)
   have hj1f : ScanOk (fun k => r06Scan.j1 k s toks (i : Int) false) := by
    obtain ⟨b, hb, hb2, hbs⟩ := r_sign s hs i h
    (refine ScanOk.up (G := ?_) ?_ ?_; rotate_right 1; (focus (intro k; rw [r06Scan.j1])))
    refine ScanOk.neg Bool.false_ne_true (ScanOk.pos (by omega) (ScanOk.pos (by omega) ?_))
    rw [hbt, r_letter]
    refine ScanOk.bindc rfl ?_
    cases hL : letB s[i] with
    | true =>
     refine ScanOk.pos rfl ?_
     (refine ScanOk.up (G := ?_) ?_ ?_; rotate_right 1; (focus (intro k; rw [r06Scan.l2])))
     refine ScanOk.pos (by omega) (ScanOk.pos (by omega) ?_)
     rw [hbt, r_letter, hL]
     refine ScanOk.bindc rfl (ScanOk.pos rfl ?_)
     rw [wsucc i (by omega)]
     refine hl2 (s.size - (i + 1)) (i + 1) (by omega) (by omega) ?_
     rw [cut_step s i i (Nat.le_refl _) h]
     show nmL ((s.data.toList.drop i).take (i - i) ++ [s[i]]) = true
     rw [Nat.sub_self, List.take_zero, List.nil_append, nmL_cons, hL]
     rfl
    | false =>
     refine ScanOk.neg Bool.false_ne_true (ScanOk.bind hb ?_)
     rw [wadd i b (by omega)]
     by_cases hb0 : b = 0
     ·exact ScanOk.pos (by omega) (ScanOk.err _ _ (by decide))
     ·refine ScanOk.neg (by omega) (ScanOk.pos (by omega) (ScanOk.pos (by omega) (ScanOk.pos (by omega) ?_)))
      exact ih (i + b) _ (by omega) (by omega) (by rw [List.length_append, List.length_singleton]; omega) (hg.snoc fun h => absurd (show (2 : Int) = 1 from h) (by decide))
   have hj1t : bt s (i : Int) = 45 → ScanOk (fun k => r06Scan.j1 k s toks (i : Int) true) := by
    intro h45
    (refine ScanOk.up (G := ?_) ?_ ?_; rotate_right 1; (focus (intro k; rw [r06Scan.j1])))
    refine ScanOk.pos rfl ?_
    (refine ScanOk.up (G := ?_) ?_ ?_; rotate_right 1; (focus (intro k; rw [r06Scan.l1])))
    refine ScanOk.pos (by omega) (ScanOk.pos (by omega) (ScanOk.neg (by omega) ?_))
    rw [wsucc i (by omega)]
    exact hl1 (s.size - (i + 1)) (i + 1) (by omega) (by omega)
   obtain ⟨bl, hbl, _⟩ := r_blank s[i]
   (refine ScanOk.up (G := ?_) ?_ ?_; rotate_right 1; (focus (intro k; rw [r06Scan.l0])))
   refine ScanOk.pos (by omega) (ScanOk.pos (by omega) ?_)
   rw [wsucc i (by omega), hbt, hbl]
   refine ScanOk.bindc rfl ?_
   cases bl with
   | true => exact ScanOk.pos rfl (ih (i + 1) toks (by omega) (by omega) (by omega) hg)
   | false =>
    refine ScanOk.neg Bool.false_ne_true ?_
    by_cases h45 : (s[i].toNat : Int) = 45
    ·refine ScanOk.pos h45 ?_
     by_cases h2 : i + 1 < s.size
     ·refine ScanOk.pos (by omega) (ScanOk.pos (by omega) ?_)
      cases hb2 : (bt s ((i + 1 : Nat) : Int)) == 45 with
      | true => exact hj1t (hbt.trans h45)
      | false => exact hj1f
     ·exact ScanOk.neg (by omega) hj1f
    ·exact ScanOk.neg h45 hj1f
  ·exact scan_end s hs i (by omega) toks (by omega) hg
theorem Named_ev (s : ByteArray) : ∃ b, Ev (fun k => r08Named.f k s) b ∧ (b = true → s.size ≤ 65536 ∧ nmB s = true) := by
 obtain ⟨r, hr, hg⟩ : ∃ r, Ev (fun k => r06Scan.f k s) r ∧ (r.2.2 = 0 → s.size ≤ 65536 ∧ GoodR r.1) := by
  by_cases h : s.size ≤ 65536
  ·have hu : r06Utf.f s = some (utfN s.size s.data.toList 0) := by
    unfold r06Utf.f
    rw [if_pos (by omega)]
   by_cases h1 : utfN s.size s.data.toList 0 ≥ 0
   ·refine ⟨([], utfN s.size s.data.toList 0, 60), ?_, fun h => absurd (show (60 : Int) = 0 from h) (by decide)⟩
    refine evS (fun k => by rw [r06Scan.f]) ?_
    exact Ev.neg (by omega) (Ev.bindc hu (Ev.pos h1 (Ev.now _)))
   ·obtain ⟨r, hr, hg⟩ := scan_ok s h s.size 0 [] (by omega) (by omega) (by simp) (fun t ht => by cases ht)
    refine ⟨r, ?_, fun h2 => ⟨h, hg h2⟩⟩
    refine evS (fun k => by rw [r06Scan.f]) ?_
    exact Ev.neg (by omega) (Ev.bindc hu (Ev.neg h1 hr))
  ·refine ⟨([], 0, 3), ?_, fun h => absurd (show (3 : Int) = 0 from h) (by decide)⟩
   refine evS (fun k => by rw [r06Scan.f]) ?_
   exact Ev.pos (by omega) (Ev.now _)
 by_cases h0 : r.2.2 = 0
 ·by_cases h1 : (r.1.length : Int) = 2
  ·by_cases h2 : (rd_T98 r.1 0).f0 = 1
   ·refine ⟨(rd_T98 r.1 0).f1.toList == s.toList, ?_, fun hb => ?_⟩
    ·refine evS (fun k => by rw [r08Named.f]) ?_
     exact Ev.bind hr (Ev.pos h0 (Ev.pos h1 (Ev.pos (by omega) (Ev.pos h2 (Ev.now _)))))
    ·obtain ⟨h3, h4⟩ := hg h0
     refine ⟨h3, nmB_congr hb (h4 _ ?_ h2)⟩
     unfold rd_T98
     rw [List.getD_eq_getElem?_getD, List.getElem?_eq_getElem (by omega)]
     exact List.getElem_mem _
   ·refine ⟨false, ?_, fun h => by cases h⟩
    refine evS (fun k => by rw [r08Named.f]) ?_
    exact Ev.bind hr (Ev.pos h0 (Ev.pos h1 (Ev.pos (by omega) (Ev.neg h2 (Ev.now _)))))
  ·refine ⟨false, ?_, fun h => by cases h⟩
   refine evS (fun k => by rw [r08Named.f]) ?_
   exact Ev.bind hr (Ev.pos h0 (Ev.neg h1 (Ev.now _)))
 ·refine ⟨false, ?_, fun h => by cases h⟩
  refine evS (fun k => by rw [r08Named.f]) ?_
  exact Ev.bind hr (Ev.neg h0 (Ev.now _))
theorem utf_ascii : ∀ (m : Nat) (l : List UInt8) (i : Nat), (∀ x ∈ l, x.toNat < 128) → utfN m l i = -1
 | _, [], _, _ => by simp only [utfN]
 | 0, _ :: _, _, _ => by simp only [utfN]
 | m + 1, c :: t, i, h => by
  have hc := h c List.mem_cons_self
  have hm : moreN c.toNat = some (0, 0) := by unfold moreN; rw [if_pos hc]
  have ht : ∀ r, tails 0 t r = some r := fun r => by unfold tails; rfl
  simp only [utfN, hm, ht]
  have h128 : (headTab.getD 0 0).toNat = 128 := rfl
  rw [if_neg (Nat.not_lt_zero _), if_neg (by rw [h128]; omega)]
  exact utf_ascii m _ _ fun x hx => h x (List.mem_cons_of_mem _ (by rwa [List.drop_zero] at hx))
theorem Named_true (s : ByteArray) (hs : s.size ≤ 65536) (hn : nmB s = true) : Ev (fun k => r08Named.f k s) true := by
 obtain ⟨hl1, hl2⟩ := nmL_len hn
 have hall := nmL_all hn
 rw [← Lib.size_eq] at hl1 hl2
 have hex : s.extract 0 s.size = s := by
  apply ByteArray.ext
  apply Array.toList_inj.1
  rw [Lib.extract_data, List.drop_zero, Nat.sub_zero, Lib.size_eq, List.take_length]
 have hal : ∀ (i : Nat) (h : i < s.size), alnB s[i] = true := fun i h => hall _ (List.mem_of_mem_drop (i := i) (by rw [drop_bt s i h]; exact List.mem_cons_self))
 have hb0 := bt_nat s 0 hl2
 have hlet : letB s[0] = true := by
  have h0 := drop_bt s 0 hl2
  rw [List.drop_zero] at h0
  unfold nmB at hn
  rw [h0, nmL_cons] at hn
  exact (Bool.and_eq_true_iff.1 hn).1
 have hend : Ev (fun k => r06Scan.l0 k s ([(⟨1, s.extract (0 : Int).toNat (s.size : Int).toNat, 0⟩ : S98)]) (s.size : Int)) ([(⟨1, s, 0⟩ : S98), (⟨0, ⟨#[]⟩, (s.size : Int)⟩ : S98)], 0, 0) := by
  rw [show s.extract (0 : Int).toNat (s.size : Int).toNat = s from hex]
  refine evU (fun k => by rw [r06Scan.l0]) ?_
  exact Ev.neg (by omega) (Ev.pos (by show 1 < 4398046511104; decide) (Ev.now _))
 have hl2' : ∀ (m j : Nat), j + m = s.size → 0 < j → Ev (fun k => r06Scan.l2 k s [] 0 (j : Int) 1) ([(⟨1, s, 0⟩ : S98), (⟨0, ⟨#[]⟩, (s.size : Int)⟩ : S98)], 0, 0) := by
  intro m
  induction m with
  | zero =>
   intro j hj h0
   obtain rfl : j = s.size := by omega
   refine evU (fun k => by rw [r06Scan.l2]) ?_
   exact Ev.neg (by omega) (Ev.neg (by omega) (Ev.pos (by omega) (Ev.pos (by omega) (Ev.pos (by omega) (Ev.pos (by show 0 < 4398046511104; decide) hend)))))
  | succ m ihm =>
   intro j hj h0
   have hjs : j < s.size := by omega
   have ha := hal j hjs
   unfold alnB at ha
   refine evU (fun k => by rw [r06Scan.l2]) ?_
   refine Ev.pos (by omega) (Ev.pos (by omega) ?_)
   rw [bt_nat s j hjs, r_letter]
   refine Ev.bindc rfl ?_
   rw [r_digit, wsucc j (by omega)]
   cases hL : letB s[j] with
   | true => exact Ev.pos rfl (ihm (j + 1) (by omega) (by omega))
   | false =>
    rw [hL, Bool.false_or] at ha
    rw [ha]
    exact Ev.neg Bool.false_ne_true (Ev.bindc rfl (Ev.pos rfl (ihm (j + 1) (by omega) (by omega))))
 obtain ⟨bl, hbl, hbl2⟩ := r_blank s[0]
 have h0 := aln_lt (hal 0 hl2)
 have hblf : bl = false := by
  cases bl with
  | false => rfl
  | true =>
   exfalso
   have := hal 0 hl2
   have h3 := hbl2 rfl
   unfold alnB letB digB at this
   simp only [Bool.or_eq_true, Bool.and_eq_true, decide_eq_true_eq, beq_iff_eq] at this
   omega
 subst hblf
 have hb0' : bt s (0 : Int) = (s[0].toNat : Int) := hb0
 have h2 : Ev (fun k => r06Scan.f k s) ([(⟨1, s, 0⟩ : S98), (⟨0, ⟨#[]⟩, (s.size : Int)⟩ : S98)], 0, 0) := by
  have hu : r06Utf.f s = some (-1) := by
   unfold r06Utf.f
   rw [if_pos (by omega), utf_ascii _ _ _ fun x hx => (aln_lt (hall x hx)).1]
  refine evS (fun k => by rw [r06Scan.f]) ?_
  refine Ev.neg (by omega) (Ev.bindc hu (Ev.neg (by decide) ?_))
  refine evU (fun k => by rw [r06Scan.l0]) ?_
  refine Ev.pos (by omega) (Ev.pos (by omega) ?_)
  rw [hb0', hbl]
  refine Ev.bindc rfl (Ev.neg Bool.false_ne_true (Ev.neg (by omega) ?_))
  refine evU (fun k => by rw [r06Scan.j1]) ?_
  refine Ev.neg Bool.false_ne_true (Ev.pos (by omega) (Ev.pos (by omega) ?_))
  rw [hb0', r_letter, hlet]
  refine Ev.bindc rfl (Ev.pos rfl ?_)
  refine evU (fun k => by rw [r06Scan.l2]) ?_
  refine Ev.pos (by omega) (Ev.pos (by omega) ?_)
  rw [hb0', r_letter, hlet]
  rw [show wrap64 ((0 : Int) + 1) = ((1 : Nat) : Int) from wsucc 0 (by omega)]
  exact Ev.bindc rfl (Ev.pos rfl (hl2' (s.size - 1) 1 (by omega) (by omega)))
 refine evS (fun k => by rw [r08Named.f]) ?_
 refine Ev.bind h2 (Ev.pos rfl (Ev.pos rfl (Ev.pos (by show (0 : Int) < 2; decide) (Ev.pos rfl (Ev.const ?_)))))
 show some (s.toList == s.toList) = some true
 rw [beq_self_eq_true]
theorem NamedA (s : ByteArray) : Ev (fun k => r08Named.f k s) (decide (s.size ≤ 65536) && nmB s) := by
 obtain ⟨b, hb, ht⟩ := Named_ev s
 by_cases h : s.size ≤ 65536 ∧ nmB s = true
 ·rw [decide_eq_true h.1, h.2]
  exact Named_true s h.1 h.2
 ·have hbf : b = false := by
   cases b with
   | false => rfl
   | true => exact absurd (ht rfl) h
  subst hbf
  have : (decide (s.size ≤ 65536) && nmB s) = false := by
   rw [Bool.eq_false_iff]
   intro h2
   obtain ⟨h3, h4⟩ := Bool.and_eq_true_iff.1 h2
   exact h ⟨of_decide_eq_true h3, h4⟩
  rw [this]
  exact hb
theorem r_number : ∀ (m n : Nat), n ≤ m → n ≤ 4294967295 → Ev (fun k => r36number.f k (n : Int)) (numL n) := by
 intro m
 induction m with
 | zero =>
  intro n hn _
  obtain rfl : n = 0 := by omega
  rw [numL_lt (by omega)]
  refine evU (fun k => by rw [r36number.f]) ?_
  exact Ev.pos (by decide) (Ev.now _)
 | succ m ih =>
  intro n hn hb
  by_cases h : n < 128
  ·rw [numL_lt h]
   refine evU (fun k => by rw [r36number.f]) ?_
   refine Ev.pos (by omega) (Ev.const ?_)
   rw [show ((n : Int) % 256) = (n : Int) by omega]
  ·have hl := numL_length (n / 128) (by omega)
   have h1 : Int.tmod (n : Int) 128 = ((n % 128 : Nat) : Int) := rfl
   have h2 : Int.tdiv (n : Int) 128 = ((n / 128 : Nat) : Int) := rfl
   rw [numL_ge h]
   refine evU (fun k => by rw [r36number.f]) ?_
   refine Ev.neg (by omega) (Ev.bindc rfl (Ev.bind (a := numL (n / 128)) ?_ (Ev.pos ?_ (Ev.const ?_))))
   ·rw [h2, w64 (by omega) (by omega)]
    exact ih (n / 128) (by omega) (by omega)
   ·rw [List.length_singleton]
    omega
   ·rw [h1, w64 (a := ((n % 128 : Nat) : Int) + 128) (by omega) (by omega), show (((n % 128 : Nat) : Int) + 128) % 256 = ((n % 128 + 128 : Nat) : Int) by omega]
    rfl
theorem r_num (n : Nat) (h : n ≤ 4294967295) : Ev (fun k => r36number.f k (n : Int)) (numL n) := r_number n n (Nat.le_refl _) h
theorem r_numI (n : Int) (h0 : 0 ≤ n) (h : n ≤ 4294967295) : Ev (fun k => r36number.f k n) (numL n.toNat) := by
 obtain ⟨m, rfl⟩ := Int.eq_ofNat_of_zero_le h0
 exact r_num m (by omega)
theorem r_row (f : List Cl) (hf : okF f) : Ev (fun k => r36row.f k f) (rowL f) := by
 have hloop : ∀ (d i : Nat) (acc : List Int), i + d = f.length → acc.length ≤ 10 + 10 * i → acc ++ (f.drop i).flatMap clL = rowL f → Ev (fun k => r36row.l0 k f acc (i : Int)) (rowL f) := by
  intro d
  induction d with
  | zero =>
   intro i acc hi _ ha
   rw [List.drop_eq_nil_of_le (by omega), List.flatMap_nil, List.append_nil] at ha
   rw [← ha]
   refine evU (fun k => by rw [r36row.l0]) ?_
   exact Ev.neg (by omega) (Ev.now _)
  | succ d ih =>
   intro i acc hi hl ha
   have hif : i < f.length := by omega
   obtain ⟨o0, o1, o2, o3⟩ := hf.2 f[i] (List.getElem_mem hif)
   have hlen := hf.1
   have n1 := numL_length f[i].f0.toNat (by omega)
   have n2 := numL_length f[i].f1.toNat (by omega)
   rw [drop_at hif, List.flatMap_cons] at ha
   refine evU (fun k => by rw [r36row.l0]) ?_
   refine Ev.pos (by omega) (Ev.pos (by omega) ?_)
   rw [rd_T113_at hif, w64 (by omega) (by omega), w64 (by omega) (by omega), wsucc i (by omega)]
   refine Ev.bind (r_numI _ o0 (by omega)) (Ev.pos (by omega) (Ev.bindc rfl (Ev.bind (r_numI _ o2 (by omega)) (Ev.pos ?_ ?_))))
   ·rw [List.length_append]
    omega
   ·refine ih (i + 1) _ (by omega) (by rw [List.length_append, List.length_append]; omega) ?_
    rw [← ha, clL, List.append_assoc, List.append_assoc, List.append_assoc]
 have h0 := numL_length f.length (by have := hf.1; omega)
 refine evS (fun k => by rw [r36row.f]) ?_
 exact Ev.bind (r_num f.length (by have := hf.1; omega)) (hloop f.length 0 (numL f.length) (by omega) (by omega) rfl)
theorem r_parts (a : Int) : r10Parts.f a = some (partsI a) := by
 unfold r10Parts.f partsI
 repeat' split
 all_goals (first | rfl | (exfalso; omega))
theorem r_rowed (a : Int) : r36rowed.f a = some (decide (rowI a)) := by
 unfold r36rowed.f
 split
 ·rename_i h
  exact congrArg some (decide_eq_true (by unfold rowI; omega)).symm
 ·split
  ·exact congrArg some (decide_eq_true (by unfold rowI; omega)).symm
  ·split
   ·exact congrArg some (decide_eq_true (by unfold rowI; omega)).symm
   ·congr 1
    rw [Bool.eq_iff_iff, beq_iff_eq, decide_eq_true_iff]
    unfold rowI
    omega
theorem r_text (s : ByteArray) (h : s.size ≤ 2000000) : r36text.f s = some (textL s) := by
 unfold r36text.f
 rw [if_pos h]
theorem encT_pos (t : Tm) : 1 ≤ (encT t).length := by
 rw [encT_eq, List.length_cons]
 omega
theorem r_term : ∀ (N : Nat) (t : Tm), sizeT t ≤ N → okT t → (encT t).length ≤ 100000000 → Ev (fun k => r36term.f k t.f0 t.f1 t.f2 t.f3 t.f4 t.f5) (encT t) := by
 intro N
 induction N with
 | zero => exact fun t h _ _ => absurd (sizeT_pos t) (by omega)
 | succ N ih =>
  intro t hN hok hlen
  obtain ⟨k1, k2, k3, k4, k5⟩ := okT_eq hok
  generalize hR : encT t = R at hlen ⊢
  rw [encT_eq] at hR
  have hkid : ∀ q ∈ t.f4, (encT q).length ≤ 100000000 → Ev (fun k => r36term.f k q.f0 q.f1 q.f2 q.f3 q.f4 q.f5) (encT q) := fun q hq hl => ih q (by have := sizeT_kid hq; omega) (okL_mem k4 hq) hl
  have hl2 : ∀ (i : Nat) (hi : i < t.f5.length), partsI t.f0 ≠ 0 → (∀ acc : List Int, acc ++ encB (t.f5.drop (i + 1)) = R → Ev (fun k => r36term.l1 k acc ((i + 1 : Nat) : Int) t.f0 t.f1 t.f2 t.f3 t.f4 t.f5) R) →
    ∀ (d c : Nat) (acc : List Int), c + d = t.f5[i].f1.length → c ≤ acc.length → acc ++ (encL (t.f5[i].f1.drop c) ++ encB (t.f5.drop (i + 1))) = R → Ev (fun k => r36term.l2 k acc (i : Int) (c : Int) t.f0 t.f1 t.f2 t.f3 t.f4 t.f5) R := by
   intro i hi hp hnext d
   have hbl := (k5 hp).1
   have hbo := okB_mem (k5 hp).2 (List.getElem_mem hi)
   induction d with
   | zero =>
    intro c acc hc _ ha
    rw [List.drop_eq_nil_of_le (by omega), encL, List.nil_append] at ha
    refine evU (fun k => by rw [r36term.l2]) ?_
    refine Ev.pos (by omega) (Ev.pos (by omega) ?_)
    rw [rd_T90_at hi, w64 (a := (i : Int) + 1) (by omega) (by omega)]
    exact Ev.neg (by omega) (hnext acc ha)
   | succ d ihd =>
    intro c acc hc hcl0 ha
    have hcl : c < t.f5[i].f1.length := by omega
    have hmem := List.getElem_mem hcl
    rw [drop_at hcl, encL] at ha
    have hlen2 := congrArg List.length ha
    simp only [List.length_append] at hlen2
    have hsz := sizeT_part (List.getElem_mem hi) hmem
    have hpos := encT_pos t.f5[i].f1[c]
    have h1 := ih _ (by omega) (okL_mem (okR_eq hbo).2 hmem) (by omega)
    refine evU (fun k => by rw [r36term.l2]) ?_
    refine Ev.pos (by omega) (Ev.pos (by omega) ?_)
    rw [rd_T90_at hi]
    refine Ev.pos (by omega) (Ev.pos (by omega) ?_)
    rw [rd_T49_at hcl]
    refine Ev.bind h1 (Ev.pos (by omega) ?_)
    rw [w64 (a := (c : Int) + 1) (by omega) (by omega)]
    refine ihd (c + 1) _ (by omega) (by rw [List.length_append]; omega) ?_
    rw [← ha, List.append_assoc, List.append_assoc]
  have hl1 : partsI t.f0 ≠ 0 → ∀ (d i : Nat) (acc : List Int), i + d = t.f5.length → acc ++ encB (t.f5.drop i) = R → Ev (fun k => r36term.l1 k acc (i : Int) t.f0 t.f1 t.f2 t.f3 t.f4 t.f5) R := by
   intro hp d
   have hbl := (k5 hp).1
   induction d with
   | zero =>
    intro i acc hi ha
    rw [List.drop_eq_nil_of_le (by omega), encB, List.append_nil] at ha
    rw [← ha]
    refine evU (fun k => by rw [r36term.l1]) ?_
    exact Ev.neg (by omega) (Ev.now _)
   | succ d ihd =>
    intro i acc hi ha
    have hil : i < t.f5.length := by omega
    have hbo := okB_mem (k5 hp).2 (List.getElem_mem hil)
    rw [drop_at hil, encB, encR_eq] at ha
    have hlen2 := congrArg List.length ha
    simp only [List.length_append] at hlen2
    refine evU (fun k => by rw [r36term.l1]) ?_
    refine Ev.pos (by omega) (Ev.pos (by omega) ?_)
    rw [rd_T90_at hil]
    refine Ev.bind (r_row _ (okR_eq hbo).1) (Ev.pos (by omega) ?_)
    refine hl2 i hil hp (fun acc ha2 => ihd (i + 1) acc (by omega) ha2) t.f5[i].f1.length 0 _ (by omega) (Nat.zero_le _) ?_
    rw [← ha, List.drop_zero, List.append_assoc, List.append_assoc]
  have hl0 : ∀ (d c : Nat) (acc : List Int), c + d = t.f4.length → c ≤ acc.length → acc ++ (encL (t.f4.drop c) ++ (if partsI t.f0 = 0 then [] else numL t.f5.length ++ encB t.f5)) = R → Ev (fun k => r36term.l0 k acc (c : Int) t.f0 t.f1 t.f2 t.f3 t.f4 t.f5) R := by
   intro d
   induction d with
   | zero =>
    intro c acc hc _ ha
    rw [List.drop_eq_nil_of_le (by omega), encL, List.nil_append] at ha
    refine evU (fun k => by rw [r36term.l0]) ?_
    refine Ev.neg (by omega) ?_
    rw [r_parts]
    refine Ev.bindc rfl ?_
    by_cases hp : partsI t.f0 = 0
    ·rw [if_pos hp, List.append_nil] at ha
     rw [← ha]
     exact Ev.pos hp (Ev.now _)
    ·rw [if_neg hp] at ha
     have hbl := (k5 hp).1
     have hlen2 := congrArg List.length ha
     simp only [List.length_append] at hlen2
     refine Ev.neg hp (Ev.bind (r_num t.f5.length (by omega)) (Ev.pos (by omega) ?_))
     refine hl1 hp t.f5.length 0 _ (by omega) ?_
     rw [← ha, List.drop_zero, List.append_assoc]
   | succ d ihd =>
    intro c acc hc hcl0 ha
    have hcl : c < t.f4.length := by omega
    have hmem := List.getElem_mem hcl
    rw [drop_at hcl, encL] at ha
    have hlen2 := congrArg List.length ha
    simp only [List.length_append] at hlen2
    have hpos := encT_pos t.f4[c]
    have h1 := hkid _ hmem (by omega)
    refine evU (fun k => by rw [r36term.l0]) ?_
    refine Ev.pos (by omega) (Ev.pos (by omega) ?_)
    rw [rd_T49_at hcl]
    refine Ev.bind h1 (Ev.pos (by omega) ?_)
    rw [w64 (a := (c : Int) + 1) (by omega) (by omega)]
    refine ihd (c + 1) _ (by omega) (by rw [List.length_append]; omega) ?_
    rw [← ha, List.append_assoc, List.append_assoc]
  have hj2 : ∀ acc : List Int, acc ++ (encL t.f4 ++ (if partsI t.f0 = 0 then [] else numL t.f5.length ++ encB t.f5)) = R → Ev (fun k => r36term.j2 k acc t.f0 t.f1 t.f2 t.f3 t.f4 t.f5) R := by
   intro acc ha
   refine evU (fun k => by rw [r36term.j2]) ?_
   exact hl0 t.f4.length 0 acc (by omega) (Nat.zero_le _) ha
  have hlenR := congrArg List.length hR
  simp only [List.length_append, List.length_cons] at hlenR
  have hj1 : t.f0 ≠ 1 → t.f0 ≠ 2 → Ev (fun k => r36term.j1 k [t.f0 % 256] t.f0 t.f1 t.f2 t.f3 t.f4 t.f5) R := by
   intro h1 h2
   refine evU (fun k => by rw [r36term.j1]) ?_
   rw [r_rowed]
   refine Ev.bindc rfl ?_
   by_cases h3 : rowI t.f0
   ·rw [headL, if_neg h1, if_neg h2, if_pos h3] at hR hlenR
    refine Ev.pos (decide_eq_true h3) (Ev.bind (r_row _ (k3 h3)) (Ev.pos (by rw [List.length_singleton]; omega) (hj2 _ ?_)))
    rw [← hR]
    rfl
   ·rw [headL, if_neg h1, if_neg h2, if_neg h3] at hR
    refine Ev.neg (by rw [decide_eq_false h3]; exact Bool.false_ne_true) (hj2 _ ?_)
    rw [← hR]
    rfl
  have hj0 : ∀ acc : List Int, t.f0 ≠ 2 → ¬ rowI t.f0 → acc ++ (encL t.f4 ++ (if partsI t.f0 = 0 then [] else numL t.f5.length ++ encB t.f5)) = R → Ev (fun k => r36term.j0 k acc t.f0 t.f1 t.f2 t.f3 t.f4 t.f5) R := by
   intro acc h2 h3 ha
   refine evU (fun k => by rw [r36term.j0]) ?_
   refine Ev.neg h2 ?_
   refine evU (fun k => by rw [r36term.j1]) ?_
   rw [r_rowed]
   exact Ev.bindc rfl (Ev.neg (by rw [decide_eq_false h3]; exact Bool.false_ne_true) (hj2 _ ha))
  refine evU (fun k => by rw [r36term.f]) ?_
  refine Ev.bindc rfl ?_
  by_cases h1 : t.f0 = 1
  ·have hn := k1 h1
   rw [headL, if_pos h1] at hR hlenR
   refine Ev.pos h1 (Ev.bind (r_numI _ hn.1 hn.2) (Ev.pos (by rw [List.length_singleton]; omega) (hj0 _ (by omega) (by unfold rowI; omega) ?_)))
   rw [← hR]
   rfl
  ·refine Ev.neg h1 ?_
   by_cases h2 : t.f0 = 2
   ·have hs := k2 h2
    rw [headL, if_neg h1, if_pos h2] at hR hlenR
    refine evU (fun k => by rw [r36term.j0]) ?_
    refine Ev.pos h2 ?_
    rw [r_text _ hs]
    refine Ev.bindc rfl (Ev.pos (by rw [List.length_singleton]; omega) ?_)
    refine evU (fun k => by rw [r36term.j1]) ?_
    rw [r_rowed]
    refine Ev.bindc rfl (Ev.neg (by rw [decide_eq_false (by unfold rowI; omega)]; exact Bool.false_ne_true) (hj2 _ ?_))
    rw [← hR]
    rfl
   ·refine evU (fun k => by rw [r36term.j0]) ?_
    exact Ev.neg h2 (hj1 h1 h2)
end Go.Proofs.YtahdjajdaggmjaaGreatDoor.XPa
end
