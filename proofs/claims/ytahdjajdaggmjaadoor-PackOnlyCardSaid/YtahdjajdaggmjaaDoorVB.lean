/-
Plain law of layer 36: bytes that are taken have one form alone.
-/
import Derived.Test.YtahdjajdaggmjaaDoorVA
import Derived.Test.YtahdjajdaggmjaaDoorYent
set_option linter.unusedVariables false
set_option linter.unusedSimpArgs false
set_option linter.unusedSectionVars false
namespace Go.Proofs.YtahdjajdaggmjaaDoor.XPo
open Go.RowKit Go.Proofs.YtahdjajdaggmjaaDoorW.PrintWords Go.Proofs.YtahdjajdaggmjaaDoorW.PrintLast Go.Proofs.YtahdjajdaggmjaaDoorW.PrintMore

/-- Between two places stand these bytes. -/
def At (bs : List Int) (s s1 : Nat) (l : List Int) : Prop := bs.drop s = l ++ bs.drop s1 ∧ s + l.length = s1 ∧ s1 ≤ bs.length
/-- A refusal: within the bytes, and none of the sum's. -/
def Er (bs : List Int) (e : Int × Int) : Prop := 0 ≤ e.1 ∧ e.1 ≤ bs.length ∧ e.2 ≠ 271 ∧ e.2 ≠ 0
theorem At.trans {bs : List Int} {s s1 s2 : Nat} {l m : List Int} (h : At bs s s1 l) (k : At bs s1 s2 m) : At bs s s2 (l ++ m) := by
  obtain ⟨h1, h2, h3⟩ := h
  obtain ⟨k1, k2, k3⟩ := k
  exact ⟨by rw [h1, k1, List.append_assoc], by rw [List.length_append]; omega, k3⟩
theorem At.nil {bs : List Int} {s : Nat} (h : s ≤ bs.length) : At bs s s [] := ⟨rfl, rfl, h⟩
theorem At.one {bs : List Int} {s : Nat} (h : s < bs.length) : At bs s (s + 1) [rd bs s] := ⟨by rw [rd_at h]; exact drop_at h, rfl, h⟩
theorem At.le {bs : List Int} {s s1 : Nat} {l : List Int} (h : At bs s s1 l) : s ≤ s1 ∧ s1 ≤ bs.length := ⟨by have := h.2.1; omega, h.2.2⟩
theorem er61 {bs : List Int} {s : Nat} (h : s ≤ bs.length) : Er bs ((s : Int), 61) := ⟨by show (0 : Int) ≤ (s : Int); omega, by show (s : Int) ≤ _; omega, by show (61 : Int) ≠ 271; decide, by show (61 : Int) ≠ 0; decide⟩
theorem er62 {bs : List Int} {s : Nat} (h : s ≤ bs.length) : Er bs ((s : Int), 62) := ⟨by show (0 : Int) ≤ (s : Int); omega, by show (s : Int) ≤ _; omega, by show (62 : Int) ≠ 271; decide, by show (62 : Int) ≠ 0; decide⟩
theorem bytes_back {l : List Int} (h : ∀ x ∈ l, 0 ≤ x ∧ x < 256) : bytesOf (strOfNums l) = l := by
  unfold bytesOf
  rw [strOfNums_data, List.map_map]
  refine (List.map_congr_left (g := id) fun x hx => ?_).trans (List.map_id _)
  have := h x hx
  rw [Function.comp_apply, UInt8.toNat_ofNat']
  show ((x.toNat % 2 ^ 8 : Nat) : Int) = x
  omega
section
variable {bs : List Int} (hby : By bs)
include hby
theorem numG_ok {a : Nat} : ∀ (k n i s : Nat) {r s1 : Nat}, numG bs a k n i s = .ok (r, s1) → ∃ m, r = n + m * 128 ^ i ∧ At bs s s1 (numL m) ∧ (0 < i → 0 < m)
  | 0, _, _, _, _, _, h => by cases h
  | k + 1, n, i, s, r, s1, h => by
    rw [numG] at h
    split at h
    · rename_i hs
      have hb := hby _ (List.getElem_mem hs)
      have hrd := rd_at hs
      have hone := At.one hs
      rw [hrd] at h hone
      obtain ⟨c, hc⟩ := Int.eq_ofNat_of_zero_le hb.1
      rw [hc] at h hone hb
      rw [Int.toNat_natCast] at h
      split at h
      · cases h
      · rename_i hn
        split at h
        · rename_i h128
          cases h
          refine ⟨c, by rw [Nat.mod_eq_of_lt h128], ?_, fun hi => by omega⟩
          rw [numL_lt h128]
          exact hone
        · rename_i h128
          obtain ⟨m, hr, hat, hpos⟩ := numG_ok k _ _ _ h
          have hp := hpos (by omega)
          refine ⟨c % 128 + 128 * m, ?_, ?_, fun _ => by omega⟩
          · rw [hr, Nat.add_mul, Nat.pow_succ, Nat.add_assoc]
            congr 2
            rw [Nat.mul_comm 128 m, Nat.mul_assoc, Nat.mul_comm (128 ^ i) 128]
          · rw [numL_ge (by omega), show (c % 128 + 128 * m) / 128 = m by omega, show (c % 128 + 128 * m) % 128 + 128 = c by omega]
            exact hone.trans hat
    · cases h
omit hby in
theorem numG_er {a : Nat} (ha : a ≤ bs.length) : ∀ (k n i s : Nat) {e : Int × Int}, numG bs a k n i s = .error e → Er bs e
  | 0, _, _, _, _, h => by
    cases h
    exact er61 ha
  | k + 1, n, i, s, e, h => by
    rw [numG] at h
    split at h
    · split at h
      · cases h
        exact er61 ha
      · split at h
        · cases h
        · exact numG_er ha k _ _ _ h
    · cases h
      exact er61 ha
theorem num_ok {s r s1 : Nat} (h : numS bs s = .ok (r, s1)) : At bs s s1 (numL r) ∧ r ≤ 2147483647 := by
  obtain ⟨m, hr, hat, _⟩ := numG_ok hby _ _ _ _ h
  rw [Nat.pow_zero, Nat.mul_one, Nat.zero_add] at hr
  subst hr
  exact ⟨hat, numS_le h⟩
omit hby in
theorem num_er {s : Nat} {e : Int × Int} (hs : s ≤ bs.length) (h : numS bs s = .error e) : Er bs e := numG_er hs _ _ _ _ h
def clB (c : Cl) : Prop := 0 ≤ c.f0 ∧ c.f0 ≤ 2147483647 ∧ 0 ≤ c.f1 ∧ c.f1 ≤ 2147483647
theorem cls_ok : ∀ (n : Nat) (acc : List Cl) (s : Nat) {f : List Cl} {s1 : Nat}, s ≤ bs.length → clsG bs n acc s = .ok (f, s1) → ∃ g, f = acc ++ g ∧ g.length = n ∧ At bs s s1 (g.flatMap clL) ∧ ∀ c ∈ g, clB c
  | 0, acc, s, f, s1, hs, h => by
    cases h
    exact ⟨[], by simp, rfl, At.nil hs, fun c hc => by cases hc⟩
  | n + 1, acc, s, f, s1, hs, h => by
    rw [clsG] at h
    split at h
    · cases h
    · rename_i a sa ha
      split at h
      · cases h
      · rename_i b sb hb
        obtain ⟨h1, h2⟩ := num_ok hby ha
        obtain ⟨h3, h4⟩ := num_ok hby hb
        obtain ⟨g, hf, hl, hat, hc⟩ := cls_ok n _ _ h3.le.2 h
        refine ⟨⟨(a : Int), (b : Int)⟩ :: g, by rw [hf, List.append_assoc]; rfl, by rw [List.length_cons, hl], ?_, fun c hc' => ?_⟩
        · rw [List.flatMap_cons]
          exact (h1.trans h3).trans hat
        · rcases List.mem_cons.1 hc' with rfl | hc'
          · exact ⟨Int.natCast_nonneg _, by show (a : Int) ≤ _; omega, Int.natCast_nonneg _, by show (b : Int) ≤ _; omega⟩
          · exact hc c hc'
theorem cls_er : ∀ (n : Nat) (acc : List Cl) (s : Nat) {e : Int × Int}, s ≤ bs.length → clsG bs n acc s = .error e → Er bs e
  | 0, acc, s, e, hs, h => by cases h
  | n + 1, acc, s, e, hs, h => by
    rw [clsG] at h
    split at h
    · rename_i x hx
      cases h
      exact num_er hs hx
    · rename_i a sa ha
      have h1 := (num_ok hby ha).1.le.2
      split at h
      · rename_i x hx
        cases h
        exact num_er h1 hx
      · rename_i b sb hb
        exact cls_er n _ _ (num_ok hby hb).1.le.2 h
def rowB (f : List Cl) : Prop := f.length ≤ 64 ∧ ∀ c ∈ f, clB c
theorem row_ok {right : List Cl → Bool} {s s1 : Nat} {f : List Cl} (h : rowS right bs s = .ok (f, s1)) : At bs s s1 (rowL f) ∧ right f = true ∧ rowB f := by
  unfold rowS at h
  split at h
  · cases h
  · rename_i n sn hn
    obtain ⟨h1, h2⟩ := num_ok hby hn
    split at h
    · cases h
    · rename_i h64
      cases hq : clsG bs n [] sn with
      | error e =>
        rw [hq] at h
        cases h
      | ok y =>
        obtain ⟨g, sg⟩ := y
        rw [hq, finR] at h
        split at h
        · rename_i hr
          cases h
          obtain ⟨g2, hf, hl, hat, hc⟩ := cls_ok hby n [] sn h1.le.2 hq
          rw [List.nil_append] at hf
          subst hf
          refine ⟨?_, hr, by omega, hc⟩
          rw [rowL, hl]
          exact h1.trans hat
        · cases h
theorem row_er {right : List Cl → Bool} {s : Nat} {e : Int × Int} (hs : s ≤ bs.length) (h : rowS right bs s = .error e) : Er bs e := by
  unfold rowS at h
  split at h
  · rename_i x hx
    cases h
    exact num_er hs hx
  · rename_i n sn hn
    have h1 := (num_ok hby hn).1.le.2
    split at h
    · cases h
      exact er61 hs
    · cases hq : clsG bs n [] sn with
      | error x =>
        rw [hq] at h
        cases h
        exact cls_er hby n [] sn h1 hq
      | ok y =>
        obtain ⟨g, sg⟩ := y
        rw [hq, finR] at h
        split at h
        · cases h
        · cases h
          exact er61 hs
theorem text_ok {nb : ByteArray → Bool} {s s1 : Nat} {x : ByteArray} (h : textS nb bs s = .ok (x, s1)) : At bs s s1 (textL x) ∧ nb x = true ∧ x.size ≤ bs.length := by
  have hsz := textS_size h
  unfold textS at h
  split at h
  · cases h
  · rename_i n s2 hn
    obtain ⟨h1, h2⟩ := num_ok hby hn
    split at h
    · cases h
    · rename_i hlen
      split at h
      · rename_i hnb
        cases h
        refine ⟨?_, hnb, hsz⟩
        have hle := h1.le.2
        have hbo : bytesOf (strOfNums ((bs.take (s2 + n)).drop s2)) = (bs.take (s2 + n)).drop s2 := bytes_back fun y hy => hby y (List.mem_of_mem_take (List.mem_of_mem_drop hy))
        have hl : ((bs.take (s2 + n)).drop s2).length = n := by rw [List.length_drop, List.length_take]; omega
        have hss : (strOfNums ((bs.take (s2 + n)).drop s2)).size = n := by rw [← bytesOf_length, hbo, hl]
        rw [textL, hss, hbo]
        refine h1.trans ⟨?_, by rw [hl], by omega⟩
        rw [← List.drop_append_of_le_length (by rw [List.length_take]; omega), List.take_append_drop]
      · cases h
theorem text_er {nb : ByteArray → Bool} {s : Nat} {e : Int × Int} (hs : s ≤ bs.length) (h : textS nb bs s = .error e) : Er bs e := by
  unfold textS at h
  split at h
  · rename_i x hx
    cases h
    exact num_er hs hx
  · split at h
    · cases h
      exact er61 hs
    · split at h
      · cases h
      · cases h
        exact er61 hs
end
/-! ### Terms -/
theorem rowB_in {f : List Cl} (h : rowB f) : rowIn f ∧ okF f := by
  have h1 : rowIn f := ⟨List.all_eq_true.2 fun c hc => decide_eq_true (by have := h.2 c hc; unfold clB at this; omega), by have := h.1; omega⟩
  exact ⟨h1, okF_of h1⟩
theorem rowIn_nil : rowIn [] := ⟨rfl, Nat.zero_le _⟩
theorem nameIn_nil : nameIn ⟨#[]⟩ := Nat.zero_le _
/-- A term that was taken. -/
def TmOk (t : Tm) (n : Nat) : Prop := okS rowIn nameIn t ∧ okT t ∧ sizeT t ≤ n
def TOk (bs : List Int) (T : Nat → Except (Int × Int) (Tm × Nat)) : Prop := ∀ (s : Nat), s ≤ bs.length → (∀ t s1, T s = .ok (t, s1) → At bs s s1 (encT t) ∧ TmOk t (s1 - s)) ∧ ∀ e, T s = .error e → Er bs e
section
variable {bs : List Int} (hby : By bs) (hlen : bs.length ≤ 1000000)
omit hby hlen in
theorem many_ok {T : Nat → Except (Int × Int) (Tm × Nat)} (hT : TOk bs T) : ∀ (n : Nat) (acc : List Tm) (s : Nat), s ≤ bs.length → (∀ ks s1, manyS T n acc s = .ok (ks, s1) → ∃ g, ks = acc ++ g ∧ g.length = n ∧ At bs s s1 (encL g) ∧ okSL rowIn nameIn g ∧ okL g ∧ sizeL g ≤ s1 - s) ∧ ∀ e, manyS T n acc s = .error e → Er bs e
  | 0, acc, s, hs => by
    refine ⟨fun ks s1 h => ?_, fun e h => by cases h⟩
    cases h
    refine ⟨[], by simp, rfl, ?_, by rw [okSL]; trivial, by rw [okL]; trivial, by rw [sizeL]; omega⟩
    rw [encL]
    exact At.nil hs
  | n + 1, acc, s, hs => by
    obtain ⟨h1, h2⟩ := hT s hs
    cases hq : T s with
    | error x =>
      refine ⟨fun ks s1 h => ?_, fun e h => ?_⟩
      · rw [manyS, hq] at h
        cases h
      · rw [manyS, hq] at h
        cases h
        exact h2 _ hq
    | ok y =>
      obtain ⟨t, st⟩ := y
      obtain ⟨ha, h3, h4, h5⟩ := h1 _ _ hq
      obtain ⟨k1, k2⟩ := many_ok hT n (acc ++ [t]) st ha.le.2
      refine ⟨fun ks s1 h => ?_, fun e h => ?_⟩
      · rw [manyS, hq] at h
        obtain ⟨g, hk, hl, hat, o1, o2, o3⟩ := k1 _ _ h
        have a1 := ha.le
        have a2 := hat.le
        refine ⟨t :: g, by rw [hk, List.append_assoc]; rfl, by rw [List.length_cons, hl], ?_, by rw [okSL]; exact ⟨h3, o1⟩, by rw [okL]; exact ⟨h4, o2⟩, by rw [sizeL]; omega⟩
        rw [encL]
        exact ha.trans hat
      · rw [manyS, hq] at h
        exact k2 _ h
include hby
theorem br_ok {fa : List Cl → Bool} {T : Nat → Except (Int × Int) (Tm × Nat)} (hT : TOk bs T) (q : Nat) : ∀ (n : Nat) (acc : List Br) (s : Nat), s ≤ bs.length → (∀ l s1, brS fa bs T q n acc s = .ok (l, s1) → ∃ g, l = acc ++ g ∧ g.length = n ∧ At bs s s1 (encB g) ∧ okSB rowIn nameIn g ∧ okB g ∧ sizeB g ≤ s1 - s ∧ n ≤ s1 - s) ∧ ∀ e, brS fa bs T q n acc s = .error e → Er bs e
  | 0, acc, s, hs => by
    refine ⟨fun ks s1 h => ?_, fun e h => by cases h⟩
    cases h
    refine ⟨[], by simp, rfl, ?_, by rw [okSB]; trivial, by rw [okB]; trivial, by rw [sizeB]; omega, Nat.zero_le _⟩
    rw [encB]
    exact At.nil hs
  | n + 1, acc, s, hs => by
    cases hr : rowS fa bs s with
    | error x =>
      refine ⟨fun ks s1 h => ?_, fun e h => ?_⟩
      · rw [brS, hr] at h
        cases h
      · rw [brS, hr] at h
        cases h
        exact row_er hby hs hr
    | ok y =>
      obtain ⟨f, sf⟩ := y
      obtain ⟨ra, _, rb⟩ := row_ok hby hr
      have hpos : 1 ≤ (rowL f).length := by
        rw [rowL, List.length_append]
        have : 1 ≤ (numL f.length).length := by
          by_cases h : f.length < 128
          · rw [numL_lt h]
            exact Nat.le_refl _
          · rw [numL_ge h, List.length_cons]
            omega
        omega
      have hra := ra.2.1
      obtain ⟨m1, m2⟩ := many_ok hT q [] sf ra.le.2
      cases hm : manyS T q [] sf with
      | error x =>
        refine ⟨fun ks s1 h => ?_, fun e h => ?_⟩
        · rw [brS, hr] at h
          dsimp only at h
          rw [hm] at h
          cases h
        · rw [brS, hr] at h
          dsimp only at h
          rw [hm] at h
          cases h
          exact m2 _ hm
      | ok y =>
        obtain ⟨ks, sk⟩ := y
        obtain ⟨g0, hg0, _, hka, o1, o2, o3⟩ := m1 _ _ hm
        rw [List.nil_append] at hg0
        subst hg0
        obtain ⟨b1, b2⟩ := br_ok hT q n (acc ++ [⟨f, ks⟩]) sk hka.le.2
        refine ⟨fun l s1 h => ?_, fun e h => ?_⟩
        · rw [brS, hr] at h
          dsimp only at h
          rw [hm] at h
          obtain ⟨g, hl, hgl, hat, p1, p2, p3, p4⟩ := b1 _ _ h
          have a1 := hka.le
          have a2 := hat.le
          have hin := rowB_in rb
          refine ⟨⟨f, ks⟩ :: g, by rw [hl, List.append_assoc]; rfl, by rw [List.length_cons, hgl], ?_, ?_, ?_, ?_, by omega⟩
          · rw [encB, encR]
            exact (ra.trans hka).trans hat
          · rw [okSB, okSR]
            exact ⟨⟨hin.1, o1⟩, p1⟩
          · rw [okB, okR]
            exact ⟨⟨hin.2, o2⟩, p2⟩
          · rw [sizeB, sizeR]
            omega
        · rw [brS, hr] at h
          dsimp only at h
          rw [hm] at h
          exact b2 _ h
/-- A term's own part. -/
theorem head_ok {nb : ByteArray → Bool} {fr fa : List Cl → Bool} {k : Int} {s : Nat} (hs : s ≤ bs.length) :
    (∀ n x r s1, headS nb fr fa bs k s = .ok ((n, x, r), s1) → At bs s s1 (headL k n x r) ∧ (k = 1 → 0 ≤ n ∧ n ≤ 4294967295) ∧ nameIn x ∧ rowIn r ∧ okF r ∨ bs.length > 1000000) ∧ ∀ e, headS nb fr fa bs k s = .error e → Er bs e := by
  have hfn : okF [] := ⟨Nat.zero_le _, fun c hc => by cases hc⟩
  by_cases k1 : k = 1
  · cases hq : numS bs s with
    | error y =>
      refine ⟨fun n x r s1 h => ?_, fun e h => ?_⟩
      · rw [headS, if_pos k1, hq] at h
        cases h
      · rw [headS, if_pos k1, hq] at h
        cases h
        exact num_er hs hq
    | ok y =>
      obtain ⟨m, sm⟩ := y
      obtain ⟨h1, h2⟩ := num_ok hby hq
      refine ⟨fun n x r s1 h => ?_, fun e h => ?_⟩
      · rw [headS, if_pos k1, hq] at h
        cases h
        refine .inl ⟨?_, fun _ => ⟨Int.natCast_nonneg _, by omega⟩, nameIn_nil, rowIn_nil, hfn⟩
        rw [headL, if_pos k1, Int.toNat_natCast]
        exact h1
      · rw [headS, if_pos k1, hq] at h
        cases h
  · by_cases k2 : k = 2
    · cases hq : textS nb bs s with
      | error y =>
        refine ⟨fun n x r s1 h => ?_, fun e h => ?_⟩
        · rw [headS, if_neg k1, if_pos k2, hq] at h
          cases h
        · rw [headS, if_neg k1, if_pos k2, hq] at h
          cases h
          exact text_er hby hs hq
      | ok y =>
        obtain ⟨m, sm⟩ := y
        obtain ⟨h1, h2, h3⟩ := text_ok hby hq
        refine ⟨fun n x r s1 h => ?_, fun e h => ?_⟩
        · rw [headS, if_neg k1, if_pos k2, hq] at h
          cases h
          by_cases hl : bs.length ≤ 1000000
          · refine .inl ⟨?_, fun h => absurd h k1, by show m.size ≤ 2000000; omega, rowIn_nil, hfn⟩
            rw [headL, if_neg k1, if_pos k2]
            exact h1
          · exact .inr (by omega)
        · rw [headS, if_neg k1, if_pos k2, hq] at h
          cases h
    · by_cases k3 : k = 13 ∨ k = 21 ∨ k = 26
      · cases hq : rowS fr bs s with
        | error y =>
          refine ⟨fun n x r s1 h => ?_, fun e h => ?_⟩
          · rw [headS, if_neg k1, if_neg k2, if_pos k3, hq] at h
            cases h
          · rw [headS, if_neg k1, if_neg k2, if_pos k3, hq] at h
            cases h
            exact row_er hby hs hq
        | ok y =>
          obtain ⟨m, sm⟩ := y
          obtain ⟨h1, h2, h3⟩ := row_ok hby hq
          refine ⟨fun n x r s1 h => ?_, fun e h => ?_⟩
          · rw [headS, if_neg k1, if_neg k2, if_pos k3, hq] at h
            cases h
            refine .inl ⟨?_, fun h => absurd h k1, nameIn_nil, (rowB_in h3).1, (rowB_in h3).2⟩
            rw [headL, if_neg k1, if_neg k2, if_pos (by unfold rowI; omega)]
            exact h1
          · rw [headS, if_neg k1, if_neg k2, if_pos k3, hq] at h
            cases h
      · by_cases k4 : k = 14
        · cases hq : rowS fa bs s with
          | error y =>
            refine ⟨fun n x r s1 h => ?_, fun e h => ?_⟩
            · rw [headS, if_neg k1, if_neg k2, if_neg k3, if_pos k4, hq] at h
              cases h
            · rw [headS, if_neg k1, if_neg k2, if_neg k3, if_pos k4, hq] at h
              cases h
              exact row_er hby hs hq
          | ok y =>
            obtain ⟨m, sm⟩ := y
            obtain ⟨h1, h2, h3⟩ := row_ok hby hq
            refine ⟨fun n x r s1 h => ?_, fun e h => ?_⟩
            · rw [headS, if_neg k1, if_neg k2, if_neg k3, if_pos k4, hq] at h
              cases h
              refine .inl ⟨?_, fun h => absurd h k1, nameIn_nil, (rowB_in h3).1, (rowB_in h3).2⟩
              rw [headL, if_neg k1, if_neg k2, if_pos (by unfold rowI; omega)]
              exact h1
            · rw [headS, if_neg k1, if_neg k2, if_neg k3, if_pos k4, hq] at h
              cases h
        · refine ⟨fun n x r s1 h => ?_, fun e h => ?_⟩
          · rw [headS, if_neg k1, if_neg k2, if_neg k3, if_neg k4] at h
            cases h
            refine .inl ⟨?_, fun h => absurd h k1, nameIn_nil, rowIn_nil, hfn⟩
            rw [headL, if_neg k1, if_neg k2, if_neg (by unfold rowI; omega)]
            exact At.nil hs
          · rw [headS, if_neg k1, if_neg k2, if_neg k3, if_neg k4] at h
            cases h
include hlen
theorem term_ok (nb : ByteArray → Bool) (fr fa : List Cl → Bool) : ∀ d, TOk bs (termS nb fr fa bs d)
  | 0 => fun s hs => by
    refine ⟨fun t s1 h => ?_, fun e h => ?_⟩
    · rw [termS] at h
      split at h
      · split at h <;> cases h
      · cases h
    · rw [termS] at h
      split at h
      · split at h
        · cases h
          exact er61 hs
        · cases h
          exact er62 hs
      · cases h
        exact er61 hs
  | d + 1 => fun s hs => by
    have hT := term_ok nb fr fa d
    by_cases hl : s < bs.length
    · by_cases hk : kidsI (rd bs s) < 0
      · refine ⟨fun t s1 h => ?_, fun e h => ?_⟩
        · rw [termS, if_pos hl, if_pos hk] at h
          cases h
        · rw [termS, if_pos hl, if_pos hk] at h
          cases h
          exact er61 hs
      · have hone := At.one hl
        have hb := hby _ (List.getElem_mem hl)
        rw [← rd_at hl] at hb
        have hmod : rd bs s % 256 = rd bs s := by omega
        generalize hkk : rd bs s = k at *
        obtain ⟨hh1, hh2⟩ := head_ok (nb := nb) (fr := fr) (fa := fa) hby (k := k) hone.le.2
        have hd : ∀ r, termS nb fr fa bs (d + 1) s = r → tailS fa bs (termS nb fr fa bs d) k (headS nb fr fa bs k (s + 1)) = r := fun r h => by
          rw [termS, if_pos hl, hkk, if_neg hk] at h
          exact h
        cases hq : headS nb fr fa bs k (s + 1) with
        | error y =>
          rw [hq] at hd
          refine ⟨fun t s1 h => ?_, fun e h => ?_⟩
          · have := hd _ h
            cases this
          · have := hd _ h
            cases this
            exact hh2 _ hq
        | ok y =>
          obtain ⟨⟨n, x, r⟩, sh⟩ := y
          rw [hq, tailS] at hd
          rcases hh1 _ _ _ _ hq with ⟨ha, hn, hx, hr, hrf⟩ | hbig
          · obtain ⟨m1, m2⟩ := many_ok hT (kidsI k).toNat [] sh ha.le.2
            cases hm : manyS (termS nb fr fa bs d) (kidsI k).toNat [] sh with
            | error y =>
              rw [hm] at hd
              refine ⟨fun t s1 h => ?_, fun e h => ?_⟩
              · have := hd _ h
                cases this
              · have := hd _ h
                cases this
                exact m2 _ hm
            | ok y =>
              obtain ⟨ks, sk⟩ := y
              obtain ⟨g0, hg0, _, hka, o1, o2, o3⟩ := m1 _ _ hm
              rw [List.nil_append] at hg0
              subst hg0
              rw [hm, tailK] at hd
              have a0 := ha.le
              have a1 := hka.le
              by_cases hp : partsI k = 0
              · rw [if_pos hp] at hd
                refine ⟨fun t s1 h => ?_, fun e h => ?_⟩
                · have := hd _ h
                  cases this
                  refine ⟨?_, ?_, ?_, ?_⟩
                  · rw [encT, if_pos hp, List.append_nil, hmod]
                    exact hone.trans (ha.trans hka)
                  · rw [okS]
                    exact ⟨hr, hx, o1, by rw [okSB]; trivial⟩
                  · rw [okT]
                    exact ⟨hn, fun _ => hx, fun _ => hrf, o2, fun h => absurd hp h⟩
                  · rw [sizeT, sizeB]
                    omega
                · have := hd _ h
                  cases this
              · rw [if_neg hp] at hd
                cases hc : numS bs sk with
                | error y =>
                  rw [hc] at hd
                  refine ⟨fun t s1 h => ?_, fun e h => ?_⟩
                  · have := hd _ h
                    cases this
                  · have := hd _ h
                    cases this
                    exact num_er hka.le.2 hc
                | ok y =>
                  obtain ⟨c, sc⟩ := y
                  obtain ⟨hca, _⟩ := num_ok hby hc
                  rw [hc, tailN] at hd
                  obtain ⟨b1, b2⟩ := br_ok (fa := fa) hby hT (partsI k).toNat c [] sc hca.le.2
                  have a2 := hca.le
                  cases hB : brS fa bs (termS nb fr fa bs d) (partsI k).toNat c [] sc with
                  | error y =>
                    rw [hB] at hd
                    refine ⟨fun t s1 h => ?_, fun e h => ?_⟩
                    · have := hd _ h
                      cases this
                    · have := hd _ h
                      cases this
                      exact b2 _ hB
                  | ok y =>
                    obtain ⟨l, sl⟩ := y
                    obtain ⟨g, hg, hgl, hat, p1, p2, p3, p4⟩ := b1 _ _ hB
                    rw [List.nil_append] at hg
                    subst hg
                    have a3 := hat.le
                    rw [hB] at hd
                    refine ⟨fun t s1 h => ?_, fun e h => ?_⟩
                    · have := hd _ h
                      cases this
                      refine ⟨?_, ?_, ?_, ?_⟩
                      · rw [encT, if_neg hp, hmod, hgl]
                        exact hone.trans (ha.trans (hka.trans (hca.trans hat)))
                      · rw [okS]
                        exact ⟨hr, hx, o1, p1⟩
                      · rw [okT]
                        exact ⟨hn, fun _ => hx, fun _ => hrf, o2, fun _ => ⟨by omega, p2⟩⟩
                      · rw [sizeT]
                        omega
                    · have := hd _ h
                      cases this
          · omega
    · refine ⟨fun t s1 h => ?_, fun e h => ?_⟩
      · rw [termS, if_neg hl] at h
        cases h
      · rw [termS, if_neg hl] at h
        cases h
        exact er61 hs
end
end Go.Proofs.YtahdjajdaggmjaaDoor.XPo
