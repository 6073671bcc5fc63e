/-
Plain law of layer 36, the program's side: what names, rows, terms and sums come to.
-/
import Derived.Deep.Slices
import Derived.Lib.SmallJoins
import Derived.Deep.Strs
import Derived.ChangeSame
import Derived.ChangeOld
import Derived.OpenShut
import Derived.Test.YtahdjajdaggmjaaDoorRows
import Derived.Test.YtahdjajdaggmjaaDoorZdef
import Derived.Laws.BitsAllLaws
import Derived.Test.YtahdjajdaggmjaaDoorNat
import Derived.Test.YtahdjajdaggmjaaDoorFh
import Derived.Test.YtahdjajdaggmjaaDoorFp
import Derived.Test.YtahdjajdaggmjaaDoorXPox0
import Derived.Test.YtahdjajdaggmjaaDoorXPox1
import Derived.Test.YtahdjajdaggmjaaDoorXPox2
import Derived.Test.YtahdjajdaggmjaaDoorXPox3
import Derived.Test.YtahdjajdaggmjaaDoorXPox4
import Derived.Test.YtahdjajdaggmjaaDoorXPox5
import Derived.Test.YtahdjajdaggmjaaDoorXPox6
import Derived.Test.YtahdjajdaggmjaaDoorXPox7
set_option linter.unusedVariables false
set_option linter.unusedSimpArgs false
namespace Go.Proofs.YtahdjajdaggmjaaDoor.XPo
open Go.RowKit Go.Proofs.YtahdjajdaggmjaaDoorW.PrintWords Go.Proofs.YtahdjajdaggmjaaDoorW.PrintLast Go.Proofs.YtahdjajdaggmjaaDoorW.PrintMore

/-- From some rounds on. -/
def Ev {α : Type} (F : Nat → Option α) (r : α) : Prop := ∃ k0, ∀ k, k0 ≤ k → F k = some r
theorem Ev.up {α : Type} {F G : Nat → Option α} {r : α} (h : Ev G r) (hs : ∀ k, F (k + 1) = G k) : Ev F r := by
  obtain ⟨k0, h0⟩ := h
  refine ⟨k0 + 1, fun k hk => ?_⟩
  obtain ⟨j, rfl⟩ : ∃ j, k = j + 1 := ⟨k - 1, by omega⟩
  rw [hs]
  exact h0 j (by omega)
theorem Ev.same {α : Type} {F G : Nat → Option α} {r : α} (h : Ev G r) (hs : ∀ k, F k = G k) : Ev F r := by
  obtain ⟨k0, h0⟩ := h
  exact ⟨k0, fun k hk => (hs k).trans (h0 k hk)⟩
theorem Ev.now {α : Type} (r : α) : Ev (fun _ => some r) r := ⟨0, fun _ _ => rfl⟩
theorem Ev.const {α : Type} {o : Option α} {r : α} (h : o = some r) : Ev (fun _ => o) r := ⟨0, fun _ _ => h⟩
theorem Ev.bind {α β : Type} {F : Nat → Option α} {G : α → Nat → Option β} {a : α} {r : β} (h : Ev F a) (g : Ev (G a) r) : Ev (fun k => (F k).bind fun x => G x k) r := by
  obtain ⟨k0, h0⟩ := h
  obtain ⟨k1, h1⟩ := g
  refine ⟨max k0 k1, fun k hk => ?_⟩
  show (F k).bind _ = _
  rw [h0 k (by omega), Option.bind_some]
  exact h1 k (by omega)
theorem Ev.bindc {α β : Type} {o : Option α} {G : α → Nat → Option β} {a : α} {r : β} (h : o = some a) (g : Ev (G a) r) : Ev (fun k => o.bind fun x => G x k) r := by
  subst h
  exact g
theorem Ev.of {α : Type} {F : Nat → Option α} (hm : ∀ k, LeO (F k) (F (k + 1))) {k : Nat} {r : α} (h : F k = some r) : Ev F r := ⟨k, fun _ hj => at_rounds hm hj h⟩
theorem w64 {a : Int} (h0 : -9223372036854775808 ≤ a) (h1 : a < 9223372036854775808) : wrap64 a = a := by unfold wrap64; omega
theorem wadd (a b : Nat) (h : a + b < 1000000) : wrap64 ((a : Int) + (b : Int)) = ((a + b : Nat) : Int) := by unfold wrap64; omega
theorem wsucc (a : Nat) (h : a < 1000000) : wrap64 ((a : Int) + 1) = ((a + 1 : Nat) : Int) := by unfold wrap64; omega
theorem drop_at {α : Type} {l : List α} {j : Nat} (h : j < l.length) : l.drop j = l[j] :: l.drop (j + 1) := List.drop_eq_getElem_cons h
end Go.Proofs.YtahdjajdaggmjaaDoor.XPo

set_option linter.unusedVariables false
set_option linter.unusedSimpArgs false
namespace Go.Proofs.YtahdjajdaggmjaaDoor.XPo
open Go.RowKit Go.Proofs.YtahdjajdaggmjaaDoorW.PrintWords Go.Proofs.YtahdjajdaggmjaaDoorW.PrintLast Go.Proofs.YtahdjajdaggmjaaDoorW.PrintMore

theorem Ev.pos {α : Type} {p : Prop} [Decidable p] {F G : Nat → Option α} {r : α} (h : p) (g : Ev F r) : Ev (fun k => if p then F k else G k) r := by
  simp only [if_pos h]
  exact g
theorem Ev.neg {α : Type} {p : Prop} [Decidable p] {F G : Nat → Option α} {r : α} (h : ¬ p) (g : Ev G r) : Ev (fun k => if p then F k else G k) r := by
  simp only [if_neg h]
  exact g
def nmL : List UInt8 → Bool
  | [] => false
  | c :: t => letB c && t.all alnB
def nmB (s : ByteArray) : Bool := nmL s.data.toList
theorem nmL_cons (c : UInt8) (t : List UInt8) : nmL (c :: t) = (letB c && t.all alnB) := rfl
theorem nameLen_cons (c : UInt8) (t : List UInt8) : nameLen (c :: t) = if letB c then 1 + (t.takeWhile alnB).length else 0 := rfl
theorem nmL_take {l : List UInt8} (h : 0 < nameLen l) : nmL (l.take (nameLen l)) = true := by
  cases l with
  | nil => simp [nameLen] at h
  | cons c t =>
    rw [nameLen_cons] at h ⊢
    split at h
    · rename_i hc
      rw [if_pos hc, show 1 + (t.takeWhile alnB).length = (t.takeWhile alnB).length + 1 by omega, List.take_succ_cons, nmL_cons]
      have hp := (List.prefix_iff_eq_take.1 (List.takeWhile_prefix alnB (l := t))).symm
      rw [hc, Bool.true_and, hp, List.all_takeWhile]
    · omega
theorem nmB_congr {a b : ByteArray} (h : (a.toList == b.toList) = true) (ha : nmB a = true) : nmB b = true := by
  have h2 := eq_of_beq h
  rw [Lib.toList_data, Lib.toList_data] at h2
  unfold nmB at ha ⊢
  rwa [← h2]
theorem nmL_len {l : List UInt8} (h : nmL l = true) : nameLen l = l.length ∧ 0 < l.length := by
  cases l with
  | nil => simp [nmL] at h
  | cons c t =>
    rw [nmL_cons] at h
    obtain ⟨h1, h2⟩ := Bool.and_eq_true_iff.1 h
    rw [nameLen_cons, if_pos h1, List.length_cons]
    have : t.takeWhile alnB = t := by
      clear h h1
      induction t with
      | nil => rfl
      | cons d t ih =>
        rw [List.all_cons] at h2
        obtain ⟨h3, h4⟩ := Bool.and_eq_true_iff.1 h2
        rw [List.takeWhile_cons, if_pos h3, ih h4]
    rw [this]
    omega
theorem nmL_all {l : List UInt8} (h : nmL l = true) : ∀ x ∈ l, alnB x = true := by
  cases l with
  | nil => simp
  | cons c t =>
    rw [nmL_cons] at h
    obtain ⟨h1, h2⟩ := Bool.and_eq_true_iff.1 h
    intro x hx
    rcases List.mem_cons.1 hx with rfl | hx
    · unfold alnB
      rw [h1]
      rfl
    · exact List.all_eq_true.1 h2 x hx
theorem aln_lt {c : UInt8} (h : alnB c = true) : c.toNat < 128 ∧ c.toNat ≠ 45 ∧ c.toNat ≠ 32 ∧ 13 < c.toNat := by
  unfold alnB letB digB at h
  simp only [Bool.or_eq_true, Bool.and_eq_true, decide_eq_true_eq, beq_iff_eq] at h
  omega
theorem decodeW (t : ByteArray) (h : 0 < t.size) : 1 ≤ (Lib.decodeGo t).2 ∧ (Lib.decodeGo t).2 ≤ 4 := by
  unfold Lib.decodeGo
  rw [if_neg (by omega)]
  unfold Utf8.decode
  dsimp only
  repeat' split
  all_goals simp
theorem decodeA (t : ByteArray) (c : UInt8) (r : List UInt8) (h : t.data.toList = c :: r) (hc : c.toNat < 128) : Lib.decodeGo t = (c.toNat, 1) := by
  have hs : t.size = r.length + 1 := by rw [Lib.size_eq, h, List.length_cons]
  have hg : t.get! (0 + 0) = c := by
    obtain ⟨⟨l⟩⟩ := t
    subst h
    rfl
  unfold Lib.decodeGo
  rw [if_neg (by omega)]
  unfold Utf8.decode
  dsimp only
  exact (if_pos (by rw [hg]; exact hc)).trans (by rw [hg])
theorem signFrom_le (s : ByteArray) : ∀ (k j i : Nat), signFrom s k j = some i → (signV i).size ≤ s.size
  | 0, j, i, h => by simp [signFrom] at h
  | k + 1, j, i, h => by
    unfold signFrom at h
    split at h
    · rename_i hp
      obtain rfl := Option.some.inj h
      apply Decidable.byContradiction
      intro hn
      rw [hpre_short _ _ hn] at hp
      cases hp
    · exact signFrom_le s k (j + 1) i h
theorem one_le (s : ByteArray) : (oneT (nameLen s.data.toList) s).2.size ≤ s.size ∧ ((oneT (nameLen s.data.toList) s).1 = 1 → nmB (oneT (nameLen s.data.toList) s).2 = true) := by
  unfold oneT
  have hle := nameLen_le s.data.toList
  rw [← Lib.size_eq] at hle
  split
  · rename_i h
    have hd : (s.extract 0 (nameLen s.data.toList)).data.toList = s.data.toList.take (nameLen s.data.toList) := by
      rw [Lib.extract_data, List.drop_zero, Nat.sub_zero]
    refine ⟨?_, fun _ => ?_⟩
    · show (s.extract 0 (nameLen s.data.toList)).size ≤ _
      rw [Lib.size_eq, hd, List.length_take]
      omega
    · show nmL (s.extract 0 (nameLen s.data.toList)).data.toList = true
      rw [hd]
      exact nmL_take h
  · split
    · rename_i j hj
      exact ⟨signFrom_le s 20 0 j hj, fun h => absurd (show (2 : Int) = 1 from h) (by decide)⟩
    · exact ⟨Nat.zero_le _, fun h => absurd (show (0 : Int) = 1 from h) (by decide)⟩
def GoodA (l : List S87) : Prop := ∀ t ∈ l, t.f0 = 1 → nmB t.f1 = true
theorem lex_l1 (s : ByteArray) (hs : s.size ≤ 65536) : ∀ (n d i : Nat) (toks : List S87), d ≤ n → i + d = s.size → toks.length ≤ i → GoodA toks →
    ∃ r, Ev (fun k => lex_Scan.l1 k s toks (i : Int)) r ∧ (r.2.2 = 0 → GoodA r.1) := by
  intro n
  induction n with
  | zero =>
    intro d i toks hd hi hl hg
    refine ⟨(toks ++ [(⟨0, (⟨#[]⟩ : ByteArray), (s.size : Int)⟩ : S87)], 0, 0), ?_, ?_⟩
    · (refine Ev.up (G := ?_) ?_ ?_; rotate_right 1; (focus (intro k; rw [lex_Scan.l1])))
      refine Ev.neg (by omega) (Ev.pos (by omega) (Ev.now _))
    · intro _ t ht
      rcases List.mem_append.1 ht with h | h
      · exact hg t h
      · obtain rfl := List.mem_singleton.1 h
        exact fun h => absurd (show (0 : Int) = 1 from h) (by decide)
  | succ n ih =>
    intro d i toks hd hi hl hg
    by_cases h : i < s.size
    · have hes : (s.extract i s.size).size = s.size - i := by rw [ByteArray.size_extract]; omega
      obtain ⟨ha, hk⟩ := one_le (s.extract i s.size)
      generalize hT : oneT (nameLen (s.extract i s.size).data.toList) (s.extract i s.size) = T at ha hk
      have hone : lex_one.f (s.extract i s.size) = some (T.1, T.2, 0) := by
        unfold lex_one.f
        rw [if_pos (by omega), hT]
      by_cases hb : T.2.toList = []
      · refine ⟨([], (i : Int), 61), ?_, fun h => absurd (show (61 : Int) = 0 from h) (by decide)⟩
        (refine Ev.up (G := ?_) ?_ ?_; rotate_right 1; (focus (intro k; rw [lex_Scan.l1])))
        refine Ev.pos (by omega) (Ev.pos (by omega) (Ev.pos (by omega) ?_))
        rw [Int.toNat_natCast, hone]
        exact Ev.bindc rfl (Ev.pos hb (Ev.now _))
      · have hb0 : 0 < T.2.size := by
          rw [Lib.toList_data] at hb
          rw [Lib.size_eq]
          exact List.length_pos_iff.2 hb
        have hw : wrap64 ((i : Int) + (T.2.size : Int)) = ((i + T.2.size : Nat) : Int) := wadd _ _ (by omega)
        have hsk := skip_le false (s.data.toList.drop (i + T.2.size))
        rw [List.length_drop, ← Lib.size_eq] at hsk
        have hp : lex_past.f s ((i + T.2.size : Nat) : Int) = some ((i + T.2.size + skip false (s.data.toList.drop (i + T.2.size)) : Nat) : Int) := by
          unfold lex_past.f
          rw [if_pos (by omega), Int.toNat_natCast]
        obtain ⟨r, hr, hgr⟩ := ih (s.size - (i + T.2.size + skip false (s.data.toList.drop (i + T.2.size)))) (i + T.2.size + skip false (s.data.toList.drop (i + T.2.size))) (toks ++ [(⟨T.1, T.2, (i : Int)⟩ : S87)]) (by omega) (by omega) (by rw [List.length_append, List.length_singleton]; omega) (by
          intro t ht
          rcases List.mem_append.1 ht with h | h
          · exact hg t h
          · obtain rfl := List.mem_singleton.1 h
            exact hk)
        refine ⟨r, ?_, hgr⟩
        (refine Ev.up (G := ?_) ?_ ?_; rotate_right 1; (focus (intro k; rw [lex_Scan.l1])))
        refine Ev.pos (by omega) (Ev.pos (by omega) (Ev.pos (by omega) ?_))
        rw [Int.toNat_natCast, hone]
        refine Ev.bindc rfl (Ev.neg hb (Ev.pos (by omega) ?_))
        dsimp only
        rw [hw, hp]
        exact Ev.bindc rfl hr
    · exact ih 0 i toks (Nat.zero_le _) (by omega) hl hg
theorem lex_l0 (s : ByteArray) (hs : s.size ≤ 65536) : ∀ (n i : Nat), s.size ≤ i + n → i ≤ 70000 →
    ∃ r, Ev (fun k => lex_Scan.l0 k s (i : Int)) r ∧ (r.2.2 = 0 → GoodA r.1) := by
  have hend : ∀ i : Nat, s.size ≤ i → ∃ r, Ev (fun k => lex_Scan.l0 k s (i : Int)) r ∧ (r.2.2 = 0 → GoodA r.1) := by
    intro i hi
    have hsk := skip_le false (s.data.toList.drop 0)
    rw [List.length_drop, ← Lib.size_eq] at hsk
    have hp : lex_past.f s 0 = some ((0 + skip false (s.data.toList.drop 0) : Nat) : Int) := by
      unfold lex_past.f
      rw [if_pos (by omega)]
      rfl
    obtain ⟨r, hr, hg⟩ := lex_l1 s hs _ (s.size - (0 + skip false (s.data.toList.drop 0))) (0 + skip false (s.data.toList.drop 0)) [] (Nat.le_refl _) (by omega) (Nat.zero_le _) (fun t ht => by cases ht)
    refine ⟨r, ?_, hg⟩
    (refine Ev.up (G := ?_) ?_ ?_; rotate_right 1; (focus (intro k; rw [lex_Scan.l0])))
    refine Ev.neg (by omega) ?_
    rw [hp]
    exact Ev.bindc rfl hr
  intro n
  induction n with
  | zero => exact fun i hi _ => hend i (by omega)
  | succ n ih =>
    intro i hi hi2
    by_cases h : i < s.size
    · have hes : (s.extract i s.size).size = s.size - i := by rw [ByteArray.size_extract]; omega
      obtain ⟨w1, w4⟩ := decodeW (s.extract i s.size) (by omega)
      have hw : wrap64 ((i : Int) + ((Lib.decodeGo (s.extract i s.size)).2 : Int)) = ((i + (Lib.decodeGo (s.extract i s.size)).2 : Nat) : Int) := wadd _ _ (by omega)
      obtain ⟨r, hr, hg⟩ := ih (i + (Lib.decodeGo (s.extract i s.size)).2) (by omega) (by omega)
      by_cases h1 : ((Lib.decodeGo (s.extract i s.size)).1 : Int) = 65533 ∧ ((Lib.decodeGo (s.extract i s.size)).2 : Int) < 2
      · refine ⟨([], (i : Int), 60), ?_, fun h => absurd (show (60 : Int) = 0 from h) (by decide)⟩
        (refine Ev.up (G := ?_) ?_ ?_; rotate_right 1; (focus (intro k; rw [lex_Scan.l0])))
        refine Ev.pos (by omega) (Ev.pos (by omega) (Ev.pos (by omega) (Ev.bindc (a := (((Lib.decodeGo (s.extract i s.size)).1 : Int), ((Lib.decodeGo (s.extract i s.size)).2 : Int))) (by rw [Int.toNat_natCast]; rfl) ?_)))
        exact Ev.pos h1.1 (Ev.pos h1.2 (Ev.now _))
      · refine ⟨r, ?_, hg⟩
        (refine Ev.up (G := ?_) ?_ ?_; rotate_right 1; (focus (intro k; rw [lex_Scan.l0])))
        refine Ev.pos (by omega) (Ev.pos (by omega) (Ev.pos (by omega) (Ev.bindc (a := (((Lib.decodeGo (s.extract i s.size)).1 : Int), ((Lib.decodeGo (s.extract i s.size)).2 : Int))) (by rw [Int.toNat_natCast]; rfl) ?_)))
        dsimp only
        rw [hw]
        by_cases h2 : ((Lib.decodeGo (s.extract i s.size)).1 : Int) = 65533
        · exact Ev.pos h2 (Ev.neg (fun h3 => h1 ⟨h2, h3⟩) hr)
        · exact Ev.neg h2 hr
    · exact hend i (by omega)
/-- What the lexer says of a text: a name only of a name. -/
theorem named_ev (s : ByteArray) : ∃ b, Ev (fun k => pack_named.f k s) b ∧ (b = true → s.size ≤ 65536 ∧ nmB s = true) := by
  obtain ⟨r, hr, hg⟩ : ∃ r, Ev (fun k => lex_Scan.f k s) r ∧ (r.2.2 = 0 → s.size ≤ 65536 ∧ GoodA r.1) := by
    by_cases h : s.size ≤ 65536
    · obtain ⟨r, hr, hg⟩ := lex_l0 s h s.size 0 (by omega) (by omega)
      refine ⟨r, ?_, fun h2 => ⟨h, hg h2⟩⟩
      (refine Ev.same (G := ?_) ?_ ?_; rotate_right 1; (focus (intro k; rw [lex_Scan.f])))
      exact Ev.neg (by omega) hr
    · refine ⟨([], 0, 3), ?_, fun h => absurd h (by decide)⟩
      (refine Ev.same (G := ?_) ?_ ?_; rotate_right 1; (focus (intro k; rw [lex_Scan.f])))
      exact Ev.pos (by omega) (Ev.now _)
  by_cases h0 : r.2.2 = 0
  · by_cases h1 : (r.1.length : Int) = 2
    · by_cases h2 : (rd_T87 r.1 0).f0 = 1
      · refine ⟨(rd_T87 r.1 0).f1.toList == s.toList, ?_, fun hb => ?_⟩
        · (refine Ev.same (G := ?_) ?_ ?_; rotate_right 1; (focus (intro k; rw [pack_named.f])))
          exact Ev.bind hr (Ev.pos h0 (Ev.pos h1 (Ev.pos (by omega) (Ev.pos h2 (Ev.now _)))))
        · obtain ⟨h3, h4⟩ := hg h0
          refine ⟨h3, nmB_congr hb (h4 _ ?_ h2)⟩
          unfold rd_T87
          rw [List.getD_eq_getElem?_getD, List.getElem?_eq_getElem (by omega)]
          exact List.getElem_mem _
      · refine ⟨false, ?_, fun h => by cases h⟩
        (refine Ev.same (G := ?_) ?_ ?_; rotate_right 1; (focus (intro k; rw [pack_named.f])))
        exact Ev.bind hr (Ev.pos h0 (Ev.pos h1 (Ev.pos (by omega) (Ev.neg h2 (Ev.now _)))))
    · refine ⟨false, ?_, fun h => by cases h⟩
      (refine Ev.same (G := ?_) ?_ ?_; rotate_right 1; (focus (intro k; rw [pack_named.f])))
      exact Ev.bind hr (Ev.pos h0 (Ev.neg h1 (Ev.now _)))
  · refine ⟨false, ?_, fun h => by cases h⟩
    (refine Ev.same (G := ?_) ?_ ?_; rotate_right 1; (focus (intro k; rw [pack_named.f])))
    exact Ev.bind hr (Ev.neg h0 (Ev.now _))
theorem lex_ascii (s : ByteArray) (hs : s.size ≤ 65536) (hn : nmB s = true) : ∀ (n i : Nat), i + n = s.size →
    Ev (fun k => lex_Scan.l0 k s (i : Int)) ([(⟨1, s.extract 0 s.size, 0⟩ : S87), (⟨0, ⟨#[]⟩, (s.size : Int)⟩ : S87)], 0, 0) := by
  obtain ⟨hl1, hl2⟩ := nmL_len hn
  have hall := nmL_all hn
  rw [← Lib.size_eq] at hl1 hl2
  intro n
  induction n with
  | zero =>
    intro i hi
    have hsk0 : skip false (s.data.toList.drop 0) = 0 := by
      obtain ⟨c, t, hct⟩ : ∃ c t, s.data.toList = c :: t := List.exists_cons_of_ne_nil (by intro h; rw [Lib.size_eq, h] at hl2; exact absurd hl2 (by decide))
      have hc := aln_lt (hall c (by rw [hct]; exact List.mem_cons_self))
      rw [List.drop_zero, hct]
      unfold skip
      have hne : ∀ m : Nat, m ≤ 13 ∨ m = 32 ∨ m = 45 → ¬ c = UInt8.ofNat m := by
        intro m hm h
        subst h
        rw [UInt8.toNat_ofNat'] at hc
        omega
      rw [if_neg (by rintro (h | h | h | h); exact hne 32 (by omega) h; exact hne 9 (by omega) h; exact hne 10 (by omega) h; exact hne 13 (by omega) h), if_neg (fun h => hne 45 (by omega) h.1)]
    have hp : lex_past.f s 0 = some 0 := by
      unfold lex_past.f
      rw [if_pos (by omega)]
      show some ((0 + skip false (s.data.toList.drop 0) : Nat) : Int) = _
      rw [hsk0]
      rfl
    have hex : s.extract 0 s.size = s := by
      apply ByteArray.ext
      apply Array.toList_inj.1
      rw [Lib.extract_data, List.drop_zero, Nat.sub_zero, Lib.size_eq, List.take_length]
    have hone : lex_one.f (s.extract (0 : Int).toNat s.size) = some (1, s.extract 0 s.size, 0) := by
      unfold lex_one.f
      rw [show s.extract (0 : Int).toNat s.size = s from hex, if_pos (by omega), hl1]
      unfold oneT
      rw [if_pos (by omega)]
    have hpe : lex_past.f s (s.size : Int) = some (s.size : Int) := by
      unfold lex_past.f
      rw [if_pos (by omega), Int.toNat_natCast, drop_end s _ (Nat.le_refl _)]
      rfl
    (refine Ev.up (G := ?_) ?_ ?_; rotate_right 1; (focus (intro k; rw [lex_Scan.l0])))
    refine Ev.neg (by omega) ?_
    rw [hp]
    refine Ev.bindc rfl ?_
    (refine Ev.up (G := ?_) ?_ ?_; rotate_right 1; (focus (intro k; rw [lex_Scan.l1])))
    refine Ev.pos (by omega) (Ev.pos (by omega) (Ev.pos (by omega) (Ev.bindc hone (Ev.neg ?_ (Ev.pos (by decide) ?_)))))
    · show ¬ (s.extract 0 s.size).toList = []
      rw [hex, Lib.toList_data]
      intro h
      rw [Lib.size_eq, h] at hl2
      exact absurd hl2 (by decide)
    · dsimp only
      rw [hex, show wrap64 (0 + (s.size : Int)) = (s.size : Int) by rw [Int.zero_add]; exact w64 (by omega) (by omega), hpe]
      refine Ev.bindc rfl ?_
      (refine Ev.up (G := ?_) ?_ ?_; rotate_right 1; (focus (intro k; rw [lex_Scan.l1])))
      exact Ev.neg (by omega) (Ev.pos (by show 1 < 4398046511104; decide) (Ev.now _))
  | succ n ih =>
    intro i hi
    have hlt : i < s.size := by omega
    have hd := drop_bt s i hlt
    have hal := hall s[i] (List.mem_of_mem_drop (i := i) (by rw [hd]; exact List.mem_cons_self))
    have hdec := decodeA (s.extract i s.size) s[i] (s.data.toList.drop (i + 1)) (by rw [Lib.extract_data, ← hd, List.take_of_length_le (by rw [List.length_drop, ← Lib.size_eq]; omega)]) (aln_lt hal).1
    (refine Ev.up (G := ?_) ?_ ?_; rotate_right 1; (focus (intro k; rw [lex_Scan.l0])))
    refine Ev.pos (by omega) (Ev.pos (by omega) (Ev.pos (by omega) (Ev.bindc (a := ((s[i].toNat : Int), 1)) (by rw [Int.toNat_natCast]; unfold utf8_DecodeRuneInString.f; rw [hdec]; rfl) ?_)))
    have := (aln_lt hal).1
    refine Ev.neg (by show ¬ (s[i].toNat : Int) = 65533; omega) ?_
    dsimp only
    rw [wsucc i (by omega)]
    exact ih (i + 1) (by omega)
theorem named_true (s : ByteArray) (hs : s.size ≤ 65536) (hn : nmB s = true) : Ev (fun k => pack_named.f k s) true := by
  have hex : s.extract 0 s.size = s := by
    apply ByteArray.ext
    apply Array.toList_inj.1
    rw [Lib.extract_data, List.drop_zero, Nat.sub_zero, Lib.size_eq, List.take_length]
  have h := lex_ascii s hs hn s.size 0 (by omega)
  have h2 : Ev (fun k => lex_Scan.f k s) ([(⟨1, s.extract 0 s.size, 0⟩ : S87), (⟨0, ⟨#[]⟩, (s.size : Int)⟩ : S87)], 0, 0) := by
    (refine Ev.same (G := ?_) ?_ ?_; rotate_right 1; (focus (intro k; rw [lex_Scan.f])))
    exact Ev.neg (by omega) h
  (refine Ev.same (G := ?_) ?_ ?_; rotate_right 1; (focus (intro k; rw [pack_named.f])))
  refine Ev.bind h2 (Ev.pos rfl (Ev.pos rfl (Ev.pos (by show (0 : Int) < 2; decide) (Ev.pos rfl (Ev.const ?_)))))
  show some ((s.extract 0 s.size).toList == s.toList) = some true
  rw [hex, beq_self_eq_true]
theorem namedA (s : ByteArray) : Ev (fun k => pack_named.f k s) (decide (s.size ≤ 65536) && nmB s) := by
  obtain ⟨b, hb, ht⟩ := named_ev s
  by_cases h : s.size ≤ 65536 ∧ nmB s = true
  · rw [decide_eq_true h.1, h.2]
    exact named_true s h.1 h.2
  · have hbf : b = false := by
      cases b with
      | false => rfl
      | true => exact absurd (ht rfl) h
    subst hbf
    have : (decide (s.size ≤ 65536) && nmB s) = false := by
      rw [Bool.eq_false_iff]
      intro h2
      obtain ⟨h3, h4⟩ := Bool.and_eq_true_iff.1 h2
      exact h ⟨of_decide_eq_true h3, h4⟩
    rw [this]
    exact hb
end Go.Proofs.YtahdjajdaggmjaaDoor.XPo

set_option linter.unusedVariables false
set_option linter.unusedSimpArgs false
namespace Go.Proofs.YtahdjajdaggmjaaDoor.XPo
open Go.RowKit Go.Proofs.YtahdjajdaggmjaaDoorW.PrintWords Go.Proofs.YtahdjajdaggmjaaDoorW.PrintLast Go.Proofs.YtahdjajdaggmjaaDoorW.PrintMore

theorem bt_nat (s : ByteArray) (i : Nat) (h : i < s.size) : bt s (i : Int) = (s[i].toNat : Int) := by
  have := bt_at s (i : Int) (by rw [Int.toNat_natCast]; exact h)
  rw [← this]
  simp only [Int.toNat_natCast]
end Go.Proofs.YtahdjajdaggmjaaDoor.XPo

set_option linter.unusedVariables false
set_option linter.unusedSimpArgs false
namespace Go.Proofs.YtahdjajdaggmjaaDoor.XPo
open Go.RowKit Go.Proofs.YtahdjajdaggmjaaDoorW.PrintWords Go.Proofs.YtahdjajdaggmjaaDoorW.PrintLast Go.Proofs.YtahdjajdaggmjaaDoorW.PrintMore

theorem encT_pos (t : Tm) : 1 ≤ (encT t).length := by
  rw [encT_eq, List.length_cons]
  omega
end Go.Proofs.YtahdjajdaggmjaaDoor.XPo

set_option linter.unusedVariables false
set_option linter.unusedSimpArgs false
namespace Go.Proofs.YtahdjajdaggmjaaDoor
open Go.RowKit Go.ChangeShapes Go.WideShapes Go.ChangeAt
open Go.Proofs.YtahdjajdaggmjaaDoor.XPo Go.Proofs.YtahdjajdaggmjaaDoorW.PrintWords

/-- Clauses as they come in: two numbers of 32 bits. -/
def cl32 (x : Cl) : Bool := decide (0 ≤ x.f0 ∧ x.f0 < 4294967296 ∧ 0 ≤ x.f1 ∧ x.f1 < 4294967296)
end Go.Proofs.YtahdjajdaggmjaaDoor

namespace Go.Proofs.YtahdjajdaggmjaaDoor.Pure
open Go.RowKit Go.Proofs.YtahdjajdaggmjaaDoor.XPo Go.Proofs.YtahdjajdaggmjaaDoorW.PrintWords Go.Proofs.YtahdjajdaggmjaaDoorW.PrintLast Go.Proofs.YtahdjajdaggmjaaDoorW.PrintMore H

theorem u64w (n : Nat) (h : n < 18446744073709551616) : IntKind.u64.wrap (n : Int) = (n : Int) := by
  rw [IntKind.wrap_u64]
  omega
def LC (l : List C) : List S91 := l.map ofC24
theorem LC_len (l : List C) : (LC l).length = l.length := List.length_map ..
theorem rdC (l : List C) (i : Nat) (h : i < l.length) : rd_T91 (LC l) (i : Int) = ofC24 l[i] := by
  unfold rd_T91 LC
  rw [Int.toNat_natCast, List.getD_eq_getElem?_getD, List.getElem?_map, List.getElem?_eq_getElem h]
  rfl
theorem backLC (l : List C) : (LC l).map toC24 = l := by
  unfold LC
  rw [List.map_map]
  refine (List.map_congr_left (g := id) fun c _ => ?_).trans (List.map_id _)
  rw [Function.comp_apply, toC_ofC24]
  rfl
theorem okLC {l : List C} (h : l.length ≤ 1000000) : okL24 (LC l) := ⟨by unfold LC; rw [List.all_map, List.all_eq_true]; intro c _; rw [Function.comp_apply, inR_ofC24], by rw [LC_len]; exact h⟩
theorem leastL (l : List C) (h : l.length ≤ 1000000) : clause_Least.f (LC l) = some (LC (H.least l).1, (H.least l).2) := by
  unfold clause_Least.f
  rw [if_pos ⟨by unfold LC; rw [List.all_map, List.all_eq_true]; intro c _; rw [Function.comp_apply, inR_ofC24], by rw [LC_len]; exact h⟩, backLC]
  rfl
theorem equal_l0 (a b : List C) (hab : a.length = b.length) (hl : a.length ≤ 1000000) : ∀ (d k i : Nat), i + d = a.length → d < k → a.take i = b.take i → api_Clause.l0 k (LC a) (LC b) (a.length : Int) (i : Int) = some (decide (a = b))
  | d, 0, _, _, hk, _ => absurd hk (by omega)
  | 0, k + 1, i, hi, _, ht => by
    have e : a = b := by rw [← List.take_of_length_le (l := a) (i := i) (by omega), ht, List.take_of_length_le (by omega)]
    rw [api_Clause.l0, if_neg (by omega), decide_eq_true e]
  | d + 1, k + 1, i, hi, hk, ht => by
    have hia : i < a.length := by omega
    have hib : i < b.length := by omega
    have e2 : wrap64 ((i : Int) + 1) = ((i + 1 : Nat) : Int) := by
      unfold wrap64
      omega
    rw [api_Clause.l0, if_pos (by omega), if_pos (by omega), if_pos (by rw [LC_len]; omega), if_pos (by rw [LC_len]; omega), rdC a i hia, rdC b i hib]
    have hq : (!((ofC24 a[i]).f0 == (ofC24 b[i]).f0) || !((ofC24 a[i]).f1 == (ofC24 b[i]).f1)) = !decide (a[i] = b[i]) := by
      unfold ofC24
      rw [un_beq, un_beq, Bool.eq_iff_iff]
      simp [Prod.ext_iff]
    rw [hq, e2]
    by_cases hc : a[i] = b[i]
    · rw [if_neg (by simp [hc])]
      refine equal_l0 a b hab hl d k (i + 1) (by omega) (by omega) ?_
      rw [List.take_succ_eq_append_getElem hia, List.take_succ_eq_append_getElem hib, ht, hc]
    · rw [if_pos (by simp [hc]), decide_eq_false (fun e => hc (by subst e; rfl))]
theorem equalL (a b : List C) (k : Nat) (hl : a.length ≤ 1000000) (hk : a.length < k) : api_Clause.f k (LC a) (LC b) = some (decide (a = b)) := by
  unfold api_Clause.f
  rw [LC_len, LC_len]
  by_cases h : a.length = b.length
  · rw [if_pos (by omega)]
    exact equal_l0 a b h hl a.length k 0 (by omega) hk rfl
  · rw [if_neg (by omega), decide_eq_false (fun e => h (by rw [e]))]
theorem least_l64 (l : List C) : (H.least l).1.length ≤ 64 := by
  rcases H.least_cases l with ⟨_, e⟩ | ⟨_, _, e⟩ | ⟨_, h, e⟩
  · rw [e]; simp
  · rw [e]; simp
  · rw [e]
    show (H.sortC (H.keep l)).length ≤ 64
    rw [H.length_sortC]
    exact h
theorem rightL (f : List C) (k : Nat) (hf : f.length ≤ 1000000) (hk : 64 < k) : formula_Right.f k (LC f) = some (H.right f) := by
  have := least_l64 f
  unfold formula_Right.f H.right
  rw [leastL f hf, Option.bind_some]
  by_cases he : (H.least f).2 = 0
  · rw [if_pos he, equalL _ _ k (by omega) (by omega), Option.bind_some, decide_eq_true he, Bool.true_and]
  · rw [if_neg he, decide_eq_false he, Bool.false_and]
theorem withoutT (s : UInt32) : mask_Without.f (un s) (-1) = some (un (s &&& M24)) := by
  unfold mask_Without.f
  rw [show mask_dimension.f (-1) = some false from rfl, Option.bind_some, if_neg Bool.false_ne_true, show (16777215 : Int) = un M24 from rfl, un_and]
theorem dimsT_l0 (l : List C) (hl : l.length ≤ 1000000) : ∀ (d k i : Nat) (s : UInt32), i + d = l.length → d < k → formula_Dims.l0 k (un s) (LC l) (l.length : Int) (i : Int) = some (un (((l.drop i).foldl (fun s c => s ||| (c.1 ||| c.2)) s) &&& M24))
  | d, 0, _, _, _, hk => absurd hk (by omega)
  | 0, k + 1, i, s, hi, _ => by
    rw [formula_Dims.l0, if_neg (by omega), withoutT, Option.bind_some, List.drop_eq_nil_of_le (by omega)]
    rfl
  | d + 1, k + 1, i, s, hi, hk => by
    have hil : i < l.length := by omega
    have e2 : wrap64 ((i : Int) + 1) = ((i + 1 : Nat) : Int) := by
      unfold wrap64
      omega
    have e3 : Go.bits .or .u32 (un s) (Go.bits .or .u32 (ofC24 l[i]).f0 (ofC24 l[i]).f1) = un (s ||| (l[i].1 ||| l[i].2)) := by
      unfold ofC24
      rw [un_or, un_or]
    rw [formula_Dims.l0, if_pos (by omega), if_pos (by omega), if_pos (by rw [LC_len]; omega), rdC l i hil, e3, e2, dimsT_l0 l hl d k (i + 1) _ (by omega) (by omega), List.drop_eq_getElem_cons hil, List.foldl_cons]
theorem dimsT (l : List C) (k : Nat) (hl : l.length ≤ 1000000) (hk : l.length < k) : formula_Dims.f k (LC l) = some (un (dimsF l)) := by
  unfold formula_Dims.f
  rw [LC_len]
  exact dimsT_l0 l hl l.length k 0 0 (by omega) hk
end Go.Proofs.YtahdjajdaggmjaaDoor.Pure
namespace Go.Proofs.YtahdjajdaggmjaaDoor.XPo
open Go.RowKit Go.Proofs.YtahdjajdaggmjaaDoor.Pure Go.Proofs.YtahdjajdaggmjaaDoorW.PrintWords Go.Proofs.YtahdjajdaggmjaaDoorW.PrintLast Go.Proofs.YtahdjajdaggmjaaDoorW.PrintMore H
theorem LC_back {l : List S91} (h : l.all inR24 = true) : LC (l.map toC24) = l := by
  unfold LC
  rw [List.map_map]
  refine (List.map_congr_left (g := id) fun c hc => ?_).trans (List.map_id _)
  rw [Function.comp_apply, ofC_toC24 (List.all_eq_true.1 h c hc)]
  rfl
/-- Are a formula's dimensions all below a number? -/
def wiN (l : List C) (d : Int) : Bool := decide ((dimsF l).toNat < 2 ^ d.toNat)
theorem dimsF_lt (l : List C) : (dimsF l).toNat < 16777216 := by
  have hr : r1 (dimsF l) = true := r1_iff.2 fun i hi => by
    rw [tb_dimsF, Bool.and_eq_true, decide_eq_true_iff] at hi
    exact hi.1
  exact of_decide_eq_true hr
theorem wiN_great (l : List C) {d : Int} (h : 24 ≤ d) : wiN l d = true := by
  have h1 := dimsF_lt l
  have h2 : 2 ^ 24 ≤ 2 ^ d.toNat := Nat.pow_le_pow_right (by omega) (by omega)
  exact decide_eq_true (by omega)
theorem withinE (l : List C) (d : Int) (hl : l.length ≤ 1000000) (hd : 0 ≤ d) : Ev (fun k => term_within.f k (LC l) d) (wiN l d) := by
  by_cases h : d ≥ 24
  · rw [wiN_great l h]
    (refine Ev.same (G := ?_) ?_ ?_; rotate_right 1; (focus (intro k; rw [term_within.f])))
    exact Ev.pos h (Ev.now _)
  · obtain ⟨n, rfl⟩ := Int.eq_ofNat_of_zero_le hd
    have e : shr .u32 (un (dimsF l)) (n : Int) = (((dimsF l).toNat / 2 ^ n : Nat) : Int) := by
      unfold shr un
      rw [Int.toNat_natCast, Nat.min_eq_left (by show n ≤ 32; omega), Int.natCast_ediv, Int.natCast_pow]
      rfl
    refine ⟨l.length + 1, fun k hk => ?_⟩
    show term_within.f k (LC l) (n : Int) = _
    unfold term_within.f
    rw [if_neg h, dimsT l k hl (by omega), Option.bind_some, u64w n (by omega), if_pos (by omega), e]
    congr 1
    unfold wiN
    rw [Int.toNat_natCast, Bool.eq_iff_iff, beq_iff_eq, decide_eq_true_iff]
    have hp : 0 < 2 ^ n := Nat.two_pow_pos n
    have : (dimsF l).toNat / 2 ^ n = 0 ↔ (dimsF l).toNat < 2 ^ n := Nat.div_eq_zero_iff_lt hp
    constructor
    · intro h2
      exact this.1 (by omega)
    · intro h2
      have := this.2 h2
      omega
theorem rightE (l : List C) (hl : l.length ≤ 1000000) : Ev (fun k => formula_Right.f k (LC l)) (H.right l) := ⟨65, fun k hk => rightL l k hl (by omega)⟩
theorem faceE (l : List C) (hl : l.length ≤ 1000000) : face_Right.f (LC l) = some (faceR l) := by
  unfold face_Right.f
  rw [if_pos (okLC hl), backLC]
end Go.Proofs.YtahdjajdaggmjaaDoor.XPo

set_option linter.unusedVariables false
set_option linter.unusedSimpArgs false
namespace Go.Proofs.YtahdjajdaggmjaaDoor.XPo
open Go.RowKit Go.Proofs.YtahdjajdaggmjaaDoorW.PrintWords Go.Proofs.YtahdjajdaggmjaaDoorW.PrintLast Go.Proofs.YtahdjajdaggmjaaDoorW.PrintMore

theorem ws (a : Nat) (h : a < 4000000000) : wrap64 ((a : Int) + 1) = ((a + 1 : Nat) : Int) := by unfold wrap64; omega
theorem letBI {c : UInt8} : letB c = true ↔ (97 ≤ c.toNat ∧ c.toNat ≤ 122) ∨ (65 ≤ c.toNat ∧ c.toNat ≤ 90) ∨ c.toNat = 95 := by
  unfold letB
  simp only [Bool.or_eq_true, Bool.and_eq_true, decide_eq_true_eq, beq_iff_eq]
  omega
theorem digBI {c : UInt8} : digB c = true ↔ 48 ≤ c.toNat ∧ c.toNat ≤ 57 := by
  unfold digB
  simp only [Bool.and_eq_true, decide_eq_true_eq]
theorem tname_from (s : ByteArray) (hs : s.size ≤ 2000000) : ∀ (n i : Nat), i + n = s.size → 0 < i → Ev (fun k => term_name.l0 k s (s.size : Int) (i : Int)) ((s.data.toList.drop i).all alnB) := by
  intro n
  induction n with
  | zero =>
    intro i hi h0
    rw [drop_end s i (by omega)]
    refine Ev.up (G := fun _ => some true) (Ev.now _) (fun k => ?_)
    rw [term_name.l0, if_neg (by omega)]
    congr 1
    rw [bne_iff_ne, Lib.toList_data]
    intro h
    rw [Lib.size_eq, h] at hi
    simp at hi
    omega
  | succ n ih =>
    intro i hi h0
    have hil : i < s.size := by omega
    have hb := bt_nat s i hil
    have hlt := s[i].toNat_lt
    rw [drop_bt s i hil, List.all_cons]
    by_cases hL : letB s[i] = true
    · rw [show alnB s[i] = true by unfold alnB; rw [hL]; rfl, Bool.true_and]
      refine Ev.up (ih (i + 1) (by omega) (by omega)) (fun k => ?_)
      have h := letBI.1 hL
      rw [term_name.l0, hb, ws i (by omega)]
      ((repeat' (first | ((with_reducible refine (if_pos ?_).trans ?_); (focus omega)) | ((with_reducible refine (if_neg ?_).trans ?_); (focus omega)) | split)) <;> (first | rfl | (exfalso; omega)))
    · have h : ¬ ((97 ≤ s[i].toNat ∧ s[i].toNat ≤ 122) ∨ (65 ≤ s[i].toNat ∧ s[i].toNat ≤ 90) ∨ s[i].toNat = 95) := fun h => hL (letBI.2 h)
      by_cases hD : digB s[i] = true
      · rw [show alnB s[i] = true by unfold alnB; rw [hD]; exact Bool.or_true _, Bool.true_and]
        refine Ev.up (ih (i + 1) (by omega) (by omega)) (fun k => ?_)
        have h2 := digBI.1 hD
        rw [term_name.l0, hb, ws i (by omega)]
        ((repeat' (first | ((with_reducible refine (if_pos ?_).trans ?_); (focus omega)) | ((with_reducible refine (if_neg ?_).trans ?_); (focus omega)) | split)) <;> (first | rfl | (exfalso; omega)))
      · rw [show alnB s[i] = false by unfold alnB; rw [Bool.eq_false_iff.2 hL, Bool.eq_false_iff.2 hD]; rfl, Bool.false_and]
        refine Ev.up (G := fun _ => some false) (Ev.now _) (fun k => ?_)
        have h2 : ¬ (48 ≤ s[i].toNat ∧ s[i].toNat ≤ 57) := fun h => hD (digBI.2 h)
        rw [term_name.l0, hb]
        ((repeat' (first | ((with_reducible refine (if_pos ?_).trans ?_); (focus omega)) | ((with_reducible refine (if_neg ?_).trans ?_); (focus omega)) | split)) <;> (first | rfl | (exfalso; omega)))
theorem tname (s : ByteArray) (hs : s.size ≤ 2000000) : Ev (fun k => term_name.f k s) (nmB s) := by
  (refine Ev.same (G := ?_) ?_ ?_; rotate_right 1; (focus (intro k; rw [term_name.f])))
  by_cases h0 : s.size = 0
  · have he : s.data.toList = [] := by
      rw [← List.length_eq_zero_iff, ← Lib.size_eq]
      exact h0
    refine Ev.up (G := fun _ => some (nmB s)) (Ev.now _) (fun k => ?_)
    rw [term_name.l0, if_neg (by omega)]
    congr 1
    unfold nmB
    rw [he, Lib.toList_data, he]
    rfl
  · have hil : 0 < s.size := by omega
    have hb : bt s 0 = (s[0].toNat : Int) := bt_nat s 0 hil
    have hlt := s[0].toNat_lt
    have hd := drop_bt s 0 hil
    rw [List.drop_zero] at hd
    unfold nmB
    rw [hd, nmL_cons]
    by_cases hL : letB s[0] = true
    · rw [hL, Bool.true_and]
      refine Ev.up (tname_from s hs (s.size - 1) 1 (by omega) (by omega)) (fun k => ?_)
      have h := letBI.1 hL
      rw [term_name.l0, hb, show wrap64 ((0 : Int) + 1) = ((1 : Nat) : Int) from ws 0 (by omega)]
      ((repeat' (first | ((with_reducible refine (if_pos ?_).trans ?_); (focus omega)) | ((with_reducible refine (if_neg ?_).trans ?_); (focus omega)) | split)) <;> (first | rfl | (exfalso; omega)))
    · have h : ¬ ((97 ≤ s[0].toNat ∧ s[0].toNat ≤ 122) ∨ (65 ≤ s[0].toNat ∧ s[0].toNat ≤ 90) ∨ s[0].toNat = 95) := fun h => hL (letBI.2 h)
      rw [Bool.eq_false_iff.2 hL, Bool.false_and]
      refine Ev.up (G := fun _ => some false) (Ev.now _) (fun k => ?_)
      rw [term_name.l0, hb]
      ((repeat' (first | ((with_reducible refine (if_pos ?_).trans ?_); (focus omega)) | ((with_reducible refine (if_neg ?_).trans ?_); (focus omega)) | split)) <;> (first | rfl | (exfalso; omega)))
end Go.Proofs.YtahdjajdaggmjaaDoor.XPo

set_option linter.unusedVariables false
set_option linter.unusedSimpArgs false
set_option linter.unusedSectionVars false
namespace Go.Proofs.YtahdjajdaggmjaaDoor.XPo
open Go.RowKit Go.Proofs.YtahdjajdaggmjaaDoorW.PrintWords Go.Proofs.YtahdjajdaggmjaaDoorW.PrintLast Go.Proofs.YtahdjajdaggmjaaDoorW.PrintMore

theorem Ev.has {α : Type} {F : Nat → Option α} {r : α} (h : Ev F r) : hasO F := by
  obtain ⟨k0, h0⟩ := h
  exact ⟨k0, r, h0 k0 (Nat.le_refl _)⟩
theorem Ev.val {α : Type} {d : α} {F : Nat → Option α} {r : α} (hm : ∀ k, LeO (F k) (F (k + 1))) (h : Ev F r) : valO d F = r := by
  obtain ⟨k0, h0⟩ := h
  exact valO_eq hm (h0 k0 (Nat.le_refl _))
def rowIn (l : List Cl) : Prop := l.all cl32 = true ∧ l.length ≤ 1000000
def cvt (l : List Cl) : List H.C := l.map toC24
theorem rowIn_LC {l : List Cl} (h : rowIn l) : Pure.LC (cvt l) = l ∧ (cvt l).length ≤ 1000000 := ⟨LC_back h.1, by unfold cvt; rw [List.length_map]; exact h.2⟩
theorem rowP {l : List Cl} (h : rowIn l) : PFp l ∧ frP l = H.right (cvt l) ∧ faP l = faceR (cvt l) ∧ ∀ d, 0 ≤ d → wiP l d = wiN (cvt l) d := by
  obtain ⟨e, hl⟩ := rowIn_LC h
  have h1 := rightE (cvt l) hl
  have h2 := faceE (cvt l) hl
  have h3 := fun d hd => withinE (cvt l) d hl hd
  rw [e] at h1 h2
  simp only [e] at h3
  refine ⟨⟨h1.has, ⟨0, _, h2⟩, fun d hd _ => (h3 d hd).has⟩, ?_, ?_, fun d hd => ?_⟩
  · exact Ev.val (fun k => formula_Right.mono _ k) h1
  · exact Ev.val (F := fun _ => face_Right.f l) (fun k => LeO.refl _) (Ev.const h2)
  · exact Ev.val (fun k => term_within.mono _ _ k) (h3 d hd)
theorem nameP {s : ByteArray} (h : s.size ≤ 2000000) : PNp s ∧ nmP s = nmB s := ⟨(tname s h).has, Ev.val (fun k => term_name.mono _ k) (tname s h)⟩
def nameIn (s : ByteArray) : Prop := s.size ≤ 2000000
mutual
theorem okS_imp {P P' : List Cl → Prop} {Q Q' : ByteArray → Prop} (hp : ∀ l, P l → P' l) (hq : ∀ s, Q s → Q' s) : ∀ t : Tm, okS P Q t → okS P' Q' t
  | ⟨k, n, s, r, ks, bs⟩, h => by
    rw [okS] at h ⊢
    exact ⟨hp _ h.1, hq _ h.2.1, okSL_imp hp hq ks h.2.2.1, okSB_imp hp hq bs h.2.2.2⟩
theorem okSL_imp {P P' : List Cl → Prop} {Q Q' : ByteArray → Prop} (hp : ∀ l, P l → P' l) (hq : ∀ s, Q s → Q' s) : ∀ l : List Tm, okSL P Q l → okSL P' Q' l
  | [], _ => by rw [okSL]; trivial
  | t :: r, h => by
    rw [okSL] at h ⊢
    exact ⟨okS_imp hp hq t h.1, okSL_imp hp hq r h.2⟩
theorem okSB_imp {P P' : List Cl → Prop} {Q Q' : ByteArray → Prop} (hp : ∀ l, P l → P' l) (hq : ∀ s, Q s → Q' s) : ∀ l : List Br, okSB P Q l → okSB P' Q' l
  | [], _ => by rw [okSB]; trivial
  | b :: r, h => by
    rw [okSB] at h ⊢
    exact ⟨okSR_imp hp hq b h.1, okSB_imp hp hq r h.2⟩
theorem okSR_imp {P P' : List Cl → Prop} {Q Q' : ByteArray → Prop} (hp : ∀ l, P l → P' l) (hq : ∀ s, Q s → Q' s) : ∀ b : Br, okSR P Q b → okSR P' Q' b
  | ⟨f, ks⟩, h => by
    rw [okSR] at h ⊢
    exact ⟨hp _ h.1, okSL_imp hp hq ks h.2⟩
end
section
variable {fr fa fr' fa' : List Cl → Bool} {wi wi' : List Cl → Int → Bool} {nm nm' : ByteArray → Bool} {P : List Cl → Prop} {Q : ByteArray → Prop}
  (hP : ∀ l, P l → fr l = fr' l ∧ fa l = fa' l ∧ ∀ d, 0 ≤ d → wi l d = wi' l d) (hQ : ∀ s, Q s → nm s = nm' s)
include hP hQ
end
/-- What both say of a term. -/
noncomputable def rtV (t : Tm) : Int := if 200 < depthT t then 62 else if 20000 < sizeT t then 221 else if allT frP faP wiP nmP t 0 0 = true then 0 else 100
theorem tm_eta (t : Tm) : (⟨t.f0, t.f1, t.f2, t.f3, t.f4, t.f5⟩ : Tm) = t := by
  cases t
  rfl
theorem right_evS (t : Tm) (h : okS rowIn nameIn t) (hsz : sizeT t ≤ 900000000) : Ev (fun k => term_Right.f k t.f0 t.f1 t.f2 t.f3 t.f4 t.f5 0 0) (rtV t) := by
  have h1 : okS PFp PNp t := okS_imp (fun _ hl => (rowP hl).1) (fun _ hs => (nameP hs).1) t h
  have hsh : term_shallow.f t.f0 t.f1 t.f2 t.f3 t.f4 t.f5 200 = some (decide (depthT t ≤ 200)) := by
    unfold term_shallow.f
    rw [if_pos (by decide), show Int.toNat 200 = 200 from rfl, tm_eta]
  have hsm : term_small.f t.f0 t.f1 t.f2 t.f3 t.f4 t.f5 20000 = some (decide (sizeT t ≤ 20000)) := by
    unfold term_small.f
    rw [if_pos (by decide), show Int.toNat 20000 = 20000 from rfl, tm_eta]
  have hal : term_all.f t.f0 t.f1 t.f2 t.f3 t.f4 t.f5 0 0 true = some (allT frP faP wiP nmP t 0 0) := by
    have hG : allG t 0 0 true := by
      unfold allG
      exact ⟨rfl, h1, by omega, by omega, by omega, by omega⟩
    unfold term_all.f
    rw [tm_eta]
    exact if_pos hG
  unfold rtV
  (refine Ev.same (G := ?_) ?_ ?_; rotate_right 1; (focus (intro k; rw [term_Right.f])))
  refine Ev.neg (by decide) (Ev.neg (by decide) ?_)
  rw [show decide ((0 : Int) > 24) = false by decide]
  (refine Ev.up (G := ?_) ?_ ?_; rotate_right 1; (focus (intro k; rw [term_Right.j0])))
  refine Ev.neg Bool.false_ne_true ?_
  by_cases d1 : 200 < depthT t
  · rw [if_pos d1]
    refine Ev.bindc (a := 62) ?_ (Ev.neg (by decide) (Ev.now _))
    unfold term_sized.f
    rw [hsh, Option.bind_some, if_neg (by rw [decide_eq_true_iff]; omega)]
  · rw [if_neg d1]
    by_cases d2 : 20000 < sizeT t
    · rw [if_pos d2]
      refine Ev.bindc (a := 221) ?_ (Ev.neg (by decide) (Ev.now _))
      unfold term_sized.f
      rw [hsh, Option.bind_some, if_pos (by rw [decide_eq_true_iff]; omega), hsm, Option.bind_some, if_neg (by rw [decide_eq_true_iff]; omega)]
    · rw [if_neg d2]
      refine Ev.bindc (a := 0) ?_ (Ev.pos rfl ?_)
      · unfold term_sized.f
        rw [hsh, Option.bind_some, if_pos (by rw [decide_eq_true_iff]; omega), hsm, Option.bind_some, if_pos (by rw [decide_eq_true_iff]; omega)]
      · rw [hal]
        refine Ev.bindc rfl ?_
        by_cases d3 : allT frP faP wiP nmP t 0 0 = true
        · rw [if_pos d3, if_pos d3]
          exact Ev.now _
        · rw [if_neg d3, if_neg d3]
          exact Ev.now _
end Go.Proofs.YtahdjajdaggmjaaDoor.XPo

set_option linter.unusedVariables false
set_option linter.unusedSimpArgs false
set_option linter.unusedSectionVars false
namespace Go.Proofs.YtahdjajdaggmjaaDoor.XPo
open Go.RowKit Go.Proofs.YtahdjajdaggmjaaDoorW.PrintWords Go.Proofs.YtahdjajdaggmjaaDoorW.PrintLast Go.Proofs.YtahdjajdaggmjaaDoorW.PrintMore

/-- Bytes. -/
def By (l : List Int) : Prop := ∀ x ∈ l, 0 ≤ x ∧ x < 256
theorem By.app {a b : List Int} (ha : By a) (hb : By b) : By (a ++ b) := fun x hx => (List.mem_append.1 hx).elim (ha x) (hb x)
theorem By.nil : By [] := fun x hx => by cases hx
theorem By.flat {α : Type} {l : List α} {g : α → List Int} (h : ∀ x ∈ l, By (g x)) : By (l.flatMap g) := fun y hy => by
  obtain ⟨x, hx, hxy⟩ := List.mem_flatMap.1 hy
  exact h x hx y hxy
def stepN (s : Nat) (b : Int) : Nat := ((s ^^^ b.toNat) * 16777619) % 4294967296
def sumN (s : Nat) (l : List Int) : Nat := l.foldl stepN s
theorem stepN_lt (s : Nat) (b : Int) : stepN s b < 4294967296 := Nat.mod_lt _ (by decide)
theorem sumN_lt (l : List Int) : ∀ s, s < 4294967296 → sumN s l < 4294967296 := by
  induction l with
  | nil => exact fun s h => h
  | cons b l ih => exact fun s _ => ih _ (stepN_lt s b)
theorem rd_at {l : List Int} {i : Nat} (h : i < l.length) : rd l (i : Int) = l[i] := by
  unfold rd
  rw [Int.toNat_natCast, List.getD_eq_getElem?_getD, List.getElem?_eq_getElem h]
  rfl
theorem psum_l0 (l : List Int) (hl : l.length ≤ 100000000) (hB : By l) : ∀ (d i s : Nat), i + d = l.length → s < 4294967296 → Ev (fun k => pack_Sum.l0 k (s : Int) l (l.length : Int) (i : Int)) ((sumN s (l.drop i) : Nat) : Int) := by
  intro d
  induction d with
  | zero =>
    intro i s hi hs
    rw [List.drop_eq_nil_of_le (by omega)]
    (refine Ev.up (G := ?_) ?_ ?_; rotate_right 1; (focus (intro k; rw [pack_Sum.l0])))
    exact Ev.neg (by omega) (Ev.now _)
  | succ d ih =>
    intro i s hi hs
    have hil : i < l.length := by omega
    obtain ⟨b0, b1⟩ := hB l[i] (List.getElem_mem hil)
    obtain ⟨b, hb⟩ := Int.eq_ofNat_of_zero_le b0
    have hstep : ((Go.bits .xor .u32 (s : Int) (l[i] % 4294967296)) * 16777619) % 4294967296 = ((stepN s l[i] : Nat) : Int) := by
      unfold stepN
      rw [hb, show ((b : Int) % 4294967296) = (b : Int) by omega, u32_xor_nat s b hs (by omega), Int.toNat_natCast]
      omega
    rw [drop_at hil]
    (refine Ev.up (G := ?_) ?_ ?_; rotate_right 1; (focus (intro k; rw [pack_Sum.l0])))
    refine Ev.pos (by omega) (Ev.pos (by omega) (Ev.pos (by omega) ?_))
    rw [rd_at hil, hstep, ws i (by omega)]
    exact ih (i + 1) _ (by omega) (stepN_lt _ _)
theorem psum (l : List Int) (hl : l.length ≤ 100000000) (hB : By l) : Ev (fun k => pack_Sum.f k l) ((sumN 2166136261 l : Nat) : Int) := by
  (refine Ev.same (G := ?_) ?_ ?_; rotate_right 1; (focus (intro k; rw [pack_Sum.f])))
  exact psum_l0 l hl hB l.length 0 2166136261 (by omega) (by decide)
/-- The four bytes of a number. -/
def four (s : Nat) : List Int := [((s / 16777216 % 256 : Nat) : Int), ((s / 65536 % 256 : Nat) : Int), ((s / 256 % 256 : Nat) : Int), ((s % 256 : Nat) : Int)]
theorem sealed_ev (l : List Int) (hl : l.length ≤ 100000000) (hB : By l) : Ev (fun k => pack_sealed.f k l) (l ++ four (sumN 2166136261 l)) := by
  have hs := sumN_lt l 2166136261 (by decide)
  (refine Ev.same (G := ?_) ?_ ?_; rotate_right 1; (focus (intro k; rw [pack_sealed.f])))
  refine Ev.bind (psum l hl hB) (Ev.bindc rfl (Ev.pos ?_ (Ev.const ?_)))
  · show l.length + 4 < 140737488355328
    omega
  · generalize sumN 2166136261 l = s at hs
    unfold four
    rfl
theorem slV (l : List Int) (hl : l.length ≤ 100000000) (hB : By l) : slP l = l ++ four (sumN 2166136261 l) := Ev.val (fun k => pack_sealed.mono _ k) (sealed_ev l hl hB)
end Go.Proofs.YtahdjajdaggmjaaDoor.XPo

set_option linter.unusedVariables false
set_option linter.unusedSimpArgs false
set_option linter.unusedSectionVars false
namespace Go.Proofs.YtahdjajdaggmjaaDoor.XPo
open Go.RowKit Go.Proofs.YtahdjajdaggmjaaDoorW.PrintWords Go.Proofs.YtahdjajdaggmjaaDoorW.PrintLast Go.Proofs.YtahdjajdaggmjaaDoorW.PrintMore

theorem okF_of {l : List Cl} (h : rowIn l) : okF l := ⟨h.2, fun c hc => by
  have := of_decide_eq_true (List.all_eq_true.1 h.1 c hc)
  unfold okC
  omega⟩
end Go.Proofs.YtahdjajdaggmjaaDoor.XPo

