/-
PLAIN LAW: sets of dimensions as sums of powers of two.
-/
import Derived.Test.YtfbcgjkagdbckaaGreatDoorCore
namespace Go.Proofs.YtfbcgjkagdbckaaGreatDoor.H

def sumPow : List Nat → Nat
  | [] => 0
  | a :: l => 2 ^ a + sumPow l
def dimsN (n : Nat) : List Nat := (List.range 24).filter fun i => n.testBit i
theorem mem_dimsN {n i : Nat} : i ∈ dimsN n ↔ i < 24 ∧ n.testBit i = true := by simp [dimsN]
theorem dimsN_nodup (n : Nat) : (dimsN n).Nodup := List.Pairwise.filter _ List.nodup_range
theorem dimsN_len (n : Nat) : (dimsN n).length ≤ 24 := by
  have := List.length_filter_le (fun i => n.testBit i) (List.range 24)
  rwa [List.length_range] at this
theorem add_or {a y : Nat} (h : y.testBit a = false) : 2 ^ a + y = 2 ^ a ||| y := by
  let w := max a y + 2
  have hp : ∀ n, n < 2 ^ n := fun n => Nat.lt_two_pow_self
  have h1 : 2 ^ a < 2 ^ (w - 1) := Nat.pow_lt_pow_right (by omega) (by omega)
  have h2 : y < 2 ^ (w - 1) := Nat.lt_of_lt_of_le (hp y) (Nat.pow_le_pow_right (by omega) (by omega))
  have h3 : 2 ^ w = 2 ^ (w - 1) * 2 := by rw [← Nat.pow_succ]; congr 1
  have e := BitVec.add_eq_or_of_and_eq_zero (BitVec.ofNat w (2 ^ a)) (BitVec.ofNat w y) (by
    apply BitVec.eq_of_toNat_eq
    rw [BitVec.toNat_and, BitVec.toNat_ofNat, BitVec.toNat_ofNat, Nat.mod_eq_of_lt (by omega), Nat.mod_eq_of_lt (by omega)]
    show 2 ^ a &&& y = 0 % 2 ^ w
    rw [Nat.zero_mod]
    apply Nat.eq_of_testBit_eq
    intro i
    rw [Nat.testBit_and, Nat.testBit_two_pow, Nat.zero_testBit]
    by_cases hi : a = i
    · subst hi; rw [h]; simp
    · simp [hi])
  have e2 := congrArg BitVec.toNat e
  rw [BitVec.toNat_or, BitVec.toNat_add, BitVec.toNat_ofNat, BitVec.toNat_ofNat, Nat.mod_eq_of_lt (show 2 ^ a < 2 ^ w by omega), Nat.mod_eq_of_lt (show y < 2 ^ w by omega), Nat.mod_eq_of_lt (by omega)] at e2
  exact e2
theorem sumPow_testBit : ∀ {l : List Nat}, l.Nodup → ∀ j, (sumPow l).testBit j = decide (j ∈ l)
  | [], _, j => by simp [sumPow]
  | a :: l, h, j => by
    have hc := List.nodup_cons.1 h
    unfold sumPow
    rw [add_or (by rw [sumPow_testBit hc.2]; simp [hc.1]), Nat.testBit_or, Nat.testBit_two_pow, sumPow_testBit hc.2]
    by_cases e : a = j
    · subst e; simp
    · have : ¬ j = a := fun h => e h.symm
      simp [e, this]
theorem sumPow_le : ∀ {l : List Nat} (b : Nat), (∀ x ∈ l, x ≤ b) → sumPow l ≤ l.length * 2 ^ b
  | [], b, _ => by simp [sumPow]
  | a :: l, b, h => by
    have h1 := sumPow_le (l := l) b fun x hx => h x (List.mem_cons_of_mem _ hx)
    have h2 : 2 ^ a ≤ 2 ^ b := Nat.pow_le_pow_right (by omega) (h a (List.mem_cons_self ..))
    unfold sumPow
    rw [List.length_cons, Nat.succ_mul]
    omega
theorem sumPow_lt {l : List Nat} (h : l.Nodup) (b : ∀ x ∈ l, x < 24) : sumPow l < 16777216 :=
  Nat.lt_pow_two_of_testBit (n := 24) _ fun i hi => by
    rw [sumPow_testBit h]
    have : i ∉ l := fun hm => by have := b i hm; omega
    simp [this]
theorem sumPow_append : ∀ (a b : List Nat), sumPow (a ++ b) = sumPow a + sumPow b
  | [], b => by simp [sumPow]
  | x :: a, b => by
    show 2 ^ x + sumPow (a ++ b) = 2 ^ x + sumPow a + sumPow b
    rw [sumPow_append a b]
    omega
theorem sumPow_dimsN (n : Nat) : sumPow (dimsN n) = n % 16777216 := by
  apply Nat.eq_of_testBit_eq
  intro i
  rw [sumPow_testBit (dimsN_nodup n), show (16777216 : Nat) = 2 ^ 24 from rfl, Nat.testBit_mod_two_pow]
  rw [Bool.eq_iff_iff]
  simp [mem_dimsN]
/-- Two lists, each from the least on, of the same members. -/
theorem asc_unique : ∀ {a b : List Nat}, a.Pairwise (· < ·) → b.Pairwise (· < ·) → (∀ x, x ∈ a ↔ x ∈ b) → a = b
  | [], [], _, _, _ => rfl
  | [], y :: b, _, _, h => absurd ((h y).2 (List.mem_cons_self ..)) (by simp)
  | x :: a, [], _, _, h => absurd ((h x).1 (List.mem_cons_self ..)) (by simp)
  | x :: a, y :: b, ha, hb, h => by
    have ha' := List.pairwise_cons.1 ha
    have hb' := List.pairwise_cons.1 hb
    have e : x = y := by
      rcases List.mem_cons.1 ((h x).1 (List.mem_cons_self ..)) with e | e
      · exact e
      · rcases List.mem_cons.1 ((h y).2 (List.mem_cons_self ..)) with e2 | e2
        · exact e2.symm
        · have := ha'.1 y e2; have := hb'.1 x e; omega
    subst e
    congr 1
    refine asc_unique ha'.2 hb'.2 fun z => ⟨fun hz => ?_, fun hz => ?_⟩
    · rcases List.mem_cons.1 ((h z).1 (List.mem_cons_of_mem _ hz)) with e | e
      · subst e; have := ha'.1 z hz; omega
      · exact e
    · rcases List.mem_cons.1 ((h z).2 (List.mem_cons_of_mem _ hz)) with e | e
      · subst e; have := hb'.1 z hz; omega
      · exact e
theorem range_asc (n : Nat) : (List.range n).Pairwise (· < ·) := List.pairwise_lt_range
theorem dimsN_asc (n : Nat) : (dimsN n).Pairwise (· < ·) := (range_asc 24).filter _
theorem dimsN_eq {n : Nat} {l : List Nat} (h : l.Pairwise (· < ·)) (hm : ∀ i, i ∈ l ↔ i < 24 ∧ n.testBit i = true) : dimsN n = l :=
  asc_unique (dimsN_asc n) h fun i => by rw [mem_dimsN, hm]
theorem dimsN_sumPow {l : List Nat} (h : l.Pairwise (· < ·)) (b : ∀ x ∈ l, x < 24) : dimsN (sumPow l) = l := by
  have nd : l.Nodup := h.imp (fun hab e => by omega)
  refine dimsN_eq h fun i => ?_
  rw [sumPow_testBit nd]
  constructor
  · intro hi; exact ⟨b i hi, by simp [hi]⟩
  · rintro ⟨_, h2⟩; simpa using h2
theorem testBit_high {n i : Nat} (h : n < 16777216) (hi : 24 ≤ i) : n.testBit i = false :=
  Nat.testBit_lt_two_pow (Nat.lt_of_lt_of_le (show n < 2 ^ 24 from h) (Nat.pow_le_pow_right (by omega) hi))
theorem testBit_low24 (n i : Nat) : (n % 16777216).testBit i = (decide (i < 24) && n.testBit i) := Nat.testBit_mod_two_pow n 24 i
/-- Moved from 'from' on, by 'by_'. -/
def moved (from_ by_ x : Nat) : Nat := if x < from_ then x else x + by_
def lifted (n from_ by_ : Nat) : Nat := sumPow ((dimsN n).map (moved from_ by_))
theorem nodup_of_asc {l : List Nat} (h : l.Pairwise (· < ·)) : l.Nodup := h.imp (fun hab e => by omega)
end Go.Proofs.YtfbcgjkagdbckaaGreatDoor.H
