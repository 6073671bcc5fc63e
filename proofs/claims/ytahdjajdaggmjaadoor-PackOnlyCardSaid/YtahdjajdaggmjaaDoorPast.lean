/-
Walk: lex.past.
-/
import Derived.Test.YtahdjajdaggmjaaDoorUtab
namespace Go.Proofs.YtahdjajdaggmjaaDoor
open Go.RowKit

/-- How many bytes are let by (inside a comment, or outside). -/
def skip : Bool → List UInt8 → Nat
  | _, [] => 0
  | true, c :: t => if c = 10 then 1 + skip false t else 1 + skip true t
  | false, c :: t => if c = 32 ∨ c = 9 ∨ c = 10 ∨ c = 13 then 1 + skip false t else if c = 45 ∧ t.head? = some 45 then 1 + skip true t else 0
theorem ne_lit {c : UInt8} (n : Nat) (h : ¬ c = UInt8.ofNat n) : (((c.toNat : Nat) : Int) == (n : Int)) = false := by
  rw [Bool.eq_false_iff]
  intro h2
  apply h
  have h3 : c.toNat = n := Int.ofNat_inj.1 (eq_of_beq h2)
  rw [← h3, UInt8.ofNat_toNat]
theorem skip_le : ∀ (b : Bool) (l : List UInt8), skip b l ≤ l.length
  | _, [] => by simp [skip]
  | true, c :: t => by
    have h1 := skip_le false t
    have h2 := skip_le true t
    unfold skip
    split <;> simp <;> omega
  | false, c :: t => by
    have h1 := skip_le false t
    have h2 := skip_le true t
    unfold skip
    split
    · simp; omega
    · split <;> simp <;> omega
theorem drop_bt (s : ByteArray) (i : Nat) (h : i < s.size) : s.data.toList.drop i = s[i] :: s.data.toList.drop (i + 1) := by
  have h' : i < s.data.toList.length := by rw [← Lib.size_eq]; exact h
  rw [List.drop_eq_getElem_cons h']
  rfl
theorem drop_end (s : ByteArray) (i : Nat) (h : s.size ≤ i) : s.data.toList.drop i = [] := by
  apply List.drop_eq_nil_of_le
  rw [← Lib.size_eq]
  exact h
theorem hpre_two (s : ByteArray) (i : Nat) (h : i < s.size) (hc : s[i] = 45) : hpre (s.extract i s.size) ⟨#[45, 45]⟩ = decide ((s.data.toList.drop (i + 1)).head? = some 45) := by
  have e : (s.extract i s.size).data.toList = s.data.toList.drop i := Lib.extract_to_end s i
  unfold hpre
  rw [e, drop_bt s i h, hc]
  cases s.data.toList.drop (i + 1) with
  | nil => simp [List.isPrefixOf]
  | cons x t =>
    show (45 == (45 : UInt8) && (45 == x && true)) = decide (some x = some 45)
    by_cases h : x = 45
    · subst h
      rfl
    · rw [decide_eq_false (fun h2 => h (Option.some.inj h2))]
      show (true && ((45 == x) && true)) = false
      rw [Bool.and_true, Bool.true_and]
      exact beq_eq_false_iff_ne.2 (fun h2 => h h2.symm)
set_option maxRecDepth 100000 in
set_option maxHeartbeats 4000000 in
theorem lex_past_walk (HP : ∀ (a b : ByteArray) (w : World), Calls Tryd.prog 51 #[.string a, .string b] w fun e w' => e = .returned (.bool (hpre a b)) ∧ Below w.heap.size w w')
    (s : ByteArray) (n : Nat) (w : World) (hs : s.size ≤ 1000000) (hn : n ≤ s.size) :
    Calls Tryd.prog 39 #[.string s, .int .i64 n] w fun e w' => e = .returned (.int .i64 ((n + skip false (s.data.toList.drop n) : Nat) : Int)) ∧ Below w.heap.size w w' := by
  have HP' := Lib.hid HP
  clear HP
  go_enter Tryd.func39, Tryd.ntmps39
  go_wp2
  go_step3
  go_wp2
  go_step3
  go_wp2
  go_loopg [1] (s.size + 1) (fun kq v1 w' => ∃ j : Nat, v1 = .int .i64 (j : Int) ∧ j ≤ s.size ∧ s.size < kq + j ∧ Hid (n + skip false (s.data.toList.drop n) = j + skip false (s.data.toList.drop j)) ∧ Below w.heap.size w w')
  case atStart => exact ⟨n, rfl, hn, by omega, Lib.hid rfl, Below.refl _ _⟩
  case round =>
    obtain ⟨j, rfl, hj, hk, hR, hb⟩ := hrel
    have HB := Lib.hid hb
    clear hb
    by_cases hlt : j < s.size
    · have hd := Lib.hid (drop_bt s j hlt)
      have hc : ∃ c : UInt8, s[j] = c := ⟨_, rfl⟩
      obtain ⟨c, hc⟩ := hc
      have HC := Lib.hid hc
      have hx : ((s[j]'hlt).toNat : Int) = (c.toNat : Int) := by rw [hc]
      clear hc
      have hjw : IntKind.i64.wrap ((j : Int) + 1) = ((j + 1 : Nat) : Int) := by rw [IntKind.wrap_i64]; omega
      by_cases hbl : c = 32 ∨ c = 9 ∨ c = 10 ∨ c = 13
      · have hR' : Hid (n + skip false (s.data.toList.drop n) = (j + 1) + skip false (s.data.toList.drop (j + 1))) := by
          refine Lib.hid ?_
          rw [hR.out, hd.out, HC.out]
          simp only [skip, if_pos hbl]
          omega
        clear hR
        rcases hbl with rfl | rfl | rfl | rfl
        all_goals
          go_wp2
          go_roundg (gk - 1)
          case measure => omega
          case rel => exact ⟨j + 1, by simp, by omega, by omega, hR', HB.out⟩
      · have e32 : (((c.toNat : Nat) : Int) == 32) = false := ne_lit 32 (fun h => hbl (Or.inl h))
        have e9 : (((c.toNat : Nat) : Int) == 9) = false := ne_lit 9 (fun h => hbl (Or.inr (Or.inl h)))
        have e10 : (((c.toNat : Nat) : Int) == 10) = false := ne_lit 10 (fun h => hbl (Or.inr (Or.inr (Or.inl h))))
        have e13 : (((c.toNat : Nat) : Int) == 13) = false := ne_lit 13 (fun h => hbl (Or.inr (Or.inr (Or.inr h))))
        by_cases h45 : c = 45
        · subst h45
          have hP := hpre_two s j hlt HC.out
          by_cases hn2 : (s.data.toList.drop (j + 1)).head? = some 45
          · rw [decide_eq_true hn2] at hP
            have hR' : Hid (n + skip false (s.data.toList.drop n) = j + skip true (s.data.toList.drop j)) := by
              refine Lib.hid ?_
              rw [hR.out, hd.out, HC.out]
              simp only [skip, hbl, if_false, hn2, and_self, if_true]
              rw [if_neg (by decide)]
            have HP2 := HP'.out (s.extract j s.size) ⟨#[45, 45]⟩ wr
            rw [hP] at HP2
            have HPh := Lib.hid hP
            have Hn2 := Lib.hid hn2
            clear hR hP hn2 e32 e9 e10 e13
            go_wp2_with (go_at_call 51; refine HP2.mono ?_; rintro e w2 ⟨rfl, hb2⟩; have HB2 := Lib.hid hb2; clear hb2)
            obtain ⟨go, rfl⟩ : ∃ go, go = gk := ⟨_, rfl⟩
            go_loopg [1] (s.size + 1) (fun kq v1 w' => ∃ i : Nat, v1 = .int .i64 (i : Int) ∧ j ≤ i ∧ (i = j → s.data.toList.drop i = 45 :: s.data.toList.drop (i + 1)) ∧ i ≤ s.size ∧ s.size < kq + i ∧ Hid (n + skip false (s.data.toList.drop n) = i + skip true (s.data.toList.drop i)) ∧ Below w.heap.size w w')
            case atStart => exact ⟨j, rfl, Nat.le_refl _, fun _ => by rw [hd.out, HC.out], hj, by omega, hR', below_then HB.out HB.out.size HB2.out⟩
            case round =>
              obtain ⟨i, rfl, hji, hfi, hi, hki, hRi, hbi⟩ := hrel
              have HBi := Lib.hid hbi
              clear hbi
              by_cases hlti : i < s.size
              · have hdi := Lib.hid (drop_bt s i hlti)
                obtain ⟨ci, hci⟩ : ∃ c : UInt8, s[i] = c := ⟨_, rfl⟩
                have HCi := Lib.hid hci
                have hxi : ((s[i]'hlti).toNat : Int) = (ci.toNat : Int) := by rw [hci]
                have hiw : IntKind.i64.wrap ((i : Int) + 1) = ((i + 1 : Nat) : Int) := by rw [IntKind.wrap_i64]; omega
                by_cases h10 : ci = 10
                · subst h10
                  have hij : j < i := by
                    rcases Nat.lt_or_ge j i with h | h
                    · exact h
                    · have hf := hfi (by omega)
                      rw [hdi.out, hci] at hf
                      exact absurd (List.cons.inj hf).1 (by decide)
                  have hR2 : Hid (n + skip false (s.data.toList.drop n) = i + skip false (s.data.toList.drop i)) := by
                    refine Lib.hid ?_
                    rw [hRi.out, hdi.out, hci]
                    simp only [skip, if_true]
                    rw [if_pos (by decide)]
                  clear hRi hci hfi
                  go_wp2
                  go_roundg (go - 1)
                  case measure => omega
                  case rel => exact ⟨i, rfl, by omega, by omega, hR2, HBi.out⟩
                · have e10 : (((ci.toNat : Nat) : Int) == 10) = false := ne_lit 10 h10
                  have hR2 : Hid (n + skip false (s.data.toList.drop n) = (i + 1) + skip true (s.data.toList.drop (i + 1))) := by
                    refine Lib.hid ?_
                    rw [hRi.out, hdi.out, hci]
                    simp only [skip, h10, if_false]
                    omega
                  clear hRi hci hfi
                  go_wp2
                  go_roundg (gk - 1)
                  case measure => omega
                  case rel => exact ⟨i + 1, by simp, by omega, by omega, by omega, by omega, hR2, HBi.out⟩
              · have hR2 : Hid (n + skip false (s.data.toList.drop n) = i + skip false (s.data.toList.drop i)) := by
                  refine Lib.hid ?_
                  rw [hRi.out, drop_end s i (by omega)]
                  rfl
                have hij : j < i := by omega
                clear hRi hfi
                go_wp2
                go_roundg (go - 1)
                case measure => omega
                case rel => exact ⟨i, rfl, by omega, by omega, hR2, HBi.out⟩
          · rw [decide_eq_false hn2] at hP
            have hR' : Hid (n + skip false (s.data.toList.drop n) = j) := by
              refine Lib.hid ?_
              rw [hR.out, hd.out, HC.out]
              simp only [skip, hbl, if_false, hn2, and_false]
              rfl
            have HP2 := HP'.out (s.extract j s.size) ⟨#[45, 45]⟩ wr
            rw [hP] at HP2
            have HPh := Lib.hid hP
            have Hn2 := Lib.hid hn2
            clear hR hP hn2 e32 e9 e10 e13
            go_wp2_with (go_at_call 51; refine HP2.mono ?_; rintro e w2 ⟨rfl, hb2⟩; have HB2 := Lib.hid hb2; clear hb2)
            rw [Exit.noGoto_ret]
            go_ret
            refine ⟨?_, below_then HB.out HB.out.size HB2.out⟩
            rw [hR'.out]
            rfl
        · have e45 : (((c.toNat : Nat) : Int) == 45) = false := ne_lit 45 h45
          have hR' : Hid (n + skip false (s.data.toList.drop n) = j) := by
            refine Lib.hid ?_
            rw [hR.out, hd.out, HC.out]
            simp only [skip, hbl, if_false, h45, false_and]
            rfl
          clear hR
          go_wp2
          rw [Exit.noGoto_ret]
          go_ret
          refine ⟨?_, HB.out⟩
          rw [hR'.out]
          rfl
    · have hR' : Hid (n + skip false (s.data.toList.drop n) = j) := by
        refine Lib.hid ?_
        rw [hR.out, drop_end s j (by omega)]
        simp only [skip]
        rfl
      clear hR
      go_wp2
      rw [Exit.noGoto_ret]
      go_ret
      refine ⟨?_, HB.out⟩
      rw [hR'.out]
      rfl
end Go.Proofs.YtahdjajdaggmjaaDoor
