/-
Words for the walks: numbers as Go's, clauses' cells, small leaves, the bits' count.
-/
import Derived.WalkKit
import Derived.BigQuiet
import Derived.Deep.QuietTactic
import Derived.Laws.StructEq
import Derived.Laws.BitsAllLaws
import Derived.Laws.OwnMore
import Derived.Maps.AppendAt
import Derived.Deep.AppendLies
import Derived.Outline
import Derived.Test.YtahdjajdaggmjaaDoorProg
import Derived.Test.YtahdjajdaggmjaaDoorCore
import Derived.Lib.TrailingZeros
import Derived.Lib.BitFns
import Derived.Lib.Tables
/-! Words for the walks: a 32-bit word as the model holds it, its bits. -/
namespace Go.Proofs.YtahdjajdaggmjaaDoor
open Go.RowKit H

/-- A 32-bit word as a number. -/
def un (x : UInt32) : Int := (x.toNat : Int)
theorem un_range (x : UInt32) : 0 ≤ un x ∧ un x < 4294967296 := by
  have := x.toNat_lt
  unfold un
  omega
theorem un_inj {a b : UInt32} : un a = un b ↔ a = b := by
  unfold un
  rw [Int.ofNat_inj, UInt32.toNat_inj]
theorem un_beq (a b : UInt32) : (un a == un b) = decide (a = b) := by
  rw [Bool.eq_iff_iff]
  simp [un_inj]
theorem un_and (a b : UInt32) : bits .and .u32 (un a) (un b) = un (a &&& b) := by
  unfold un
  rw [u32_and_nat _ _ a.toNat_lt b.toNat_lt, UInt32.toNat_and]
theorem un_or (a b : UInt32) : bits .or .u32 (un a) (un b) = un (a ||| b) := by
  unfold un
  rw [u32_or_nat _ _ a.toNat_lt b.toNat_lt, UInt32.toNat_or]
theorem un_andNot (a b : UInt32) : bits .andNot .u32 (un a) (un b) = un (a &&& ~~~b) := by
  unfold un
  rw [u32_andNot_nat _ _ a.toNat_lt b.toNat_lt, UInt32.toNat_and, UInt32.toNat_not]
  rfl
theorem un_all : (16777215 : Int) = un 16777215 := by decide
theorem un_zero : (0 : Int) = un 0 := by decide

theorem below_then {B : Nat} {w w1 w2 : World} (h : Below B w w1) (hB : B ≤ w1.heap.size) (k : Below w1.heap.size w1 w2) : Below B w w2 := h.trans (k.mono hB)
end Go.Proofs.YtahdjajdaggmjaaDoor
/-! Words for the walks over clauses: a clause's two cells, a slice that reads as a list of clauses. -/
namespace Go.Proofs.YtahdjajdaggmjaaDoor
open Go.RowKit H

/-- A clause's two cells. -/
def cc (c : C) : List Value := [.int .u32 (un c.1), .int .u32 (un c.2)]
def flat (l : List C) : List Value := l.flatMap cc
theorem flat_snoc (l : List C) (c : C) : flat (l ++ [c]) = flat l ++ [.int .u32 (un c.1), .int .u32 (un c.2)] := by simp [flat, cc]
theorem flat_length (l : List C) : (flat l).length = l.length * 2 := by
  induction l with
  | nil => rfl
  | cons c l ih => simp only [flat, List.flatMap_cons, List.length_append] at ih ⊢; rw [ih]; simp [cc]; omega
theorem flat_cons (c : C) (l : List C) : flat (c :: l) = .int .u32 (un c.1) :: .int .u32 (un c.2) :: flat l := rfl
theorem flat_get (l : List C) (j : Nat) (h : j < l.length) : (flat l)[j * 2]? = some (.int .u32 (un l[j].1)) ∧ (flat l)[j * 2 + 1]? = some (.int .u32 (un l[j].2)) := by
  induction l generalizing j with
  | nil => exact absurd h (Nat.not_lt_zero _)
  | cons c l ih =>
    rw [flat_cons]
    cases j with
    | zero => exact ⟨rfl, rfl⟩
    | succ j =>
      have := ih j (by simpa using h)
      rw [show (j + 1) * 2 = j * 2 + 1 + 1 by omega]
      exact this
/-- A slice whose first element lies at A reads as the list l. -/
def Rd (w : World) (A : Option Addr) (l : List C) : Prop :=
  l.length ≤ 70368744177664 ∧ (0 < l.length → ∃ b off, A = some ⟨b, off, none⟩ ∧ ∀ j (h : j < l.length), w.cell? ⟨b, off + j * 2, none⟩ = some (.int .u32 (un l[j].1)) ∧ w.cell? ⟨b, off + j * 2 + 1, none⟩ = some (.int .u32 (un l[j].2)))
theorem Rd.at_ {w : World} {A : Option Addr} {l : List C} (h : Rd w A l) {j : Nat} (hj : j < l.length) :
    ∃ b off, A = some ⟨b, off, none⟩ ∧ w.cell? ⟨b, off + j * 2, none⟩ = some (.int .u32 (un l[j].1)) ∧ w.cell? ⟨b, off + j * 2 + 1, none⟩ = some (.int .u32 (un l[j].2)) := by
  obtain ⟨b, off, hA, hc⟩ := h.2 (by omega)
  exact ⟨b, off, hA, hc j hj⟩
theorem Rd.below {w w1 : World} {A : Option Addr} {l : List C} (h : Rd w A l) (hb : Below w.heap.size w w1) : Rd w1 A l :=
  ⟨h.1, fun hp => by
    obtain ⟨b, off, hA, hc⟩ := h.2 hp
    exact ⟨b, off, hA, fun j hj => ⟨(hb.cell (World.block_lt_of_cell? w _ (hc j hj).1)).trans (hc j hj).1, (hb.cell (World.block_lt_of_cell? w _ (hc j hj).2)).trans (hc j hj).2⟩⟩⟩
theorem Rd.nil (w : World) (A : Option Addr) : Rd w A [] := ⟨by simp, fun h => absurd h (by simp)⟩
theorem Rd.alloc {w : World} {A : Option Addr} {l : List C} (h : Rd w A l) (o : Obj) : Rd (w.alloc o) A l := h.below ((Below.refl _ _).alloc (Nat.le_refl _) _)
theorem Rd.drew {w : World} {A : Option Addr} {l : List C} (h : Rd w A l) : Rd w.drew A l := h
theorem Rd.drewN {w : World} {A : Option Addr} {l : List C} (h : Rd w A l) (n : Nat) : Rd (w.drewN n) A l := h

/-- A slice of the call's own (from block base on) holds the list l. -/
def Own (w : World) (base : Nat) (v : Value) (l : List C) : Prop := w.ownsRow base 91 2 v l.length (flat l) ∧ l.length ≤ 70368744177664
theorem Own.slice {w : World} {base : Nat} {v : Value} {l : List C} (h : Own w base v l) : ∃ A c, v = .slice A l.length c ∧ Rd w A l := by
  rcases Nat.eq_zero_or_pos l.length with h0 | h0
  · have hl : l = [] := List.eq_nil_of_length_eq_zero h0
    subst hl
    rcases h.1.2 with ⟨rfl, _⟩ | ⟨g, cap, cur, rfl, _⟩
    · exact ⟨none, 0, rfl, Rd.nil _ _⟩
    · exact ⟨_, cap, rfl, Rd.nil _ _⟩
  · obtain ⟨g, cap, rfl, _, _⟩ := h.1.form h0
    refine ⟨_, cap, rfl, h.2, fun _ => ⟨g, 0, rfl, fun j hj => ?_⟩⟩
    have hc := h.1.cells (g := g) rfl
    obtain ⟨h1, h2⟩ := flat_get l j hj
    have e : ∀ k, (⟨g, 0, none⟩ : Addr).add k = ⟨g, 0 + k, none⟩ := by intro k; unfold Addr.add; split <;> simp_all
    refine ⟨?_, ?_⟩
    · rw [← e]; exact hc _ _ h1
    · rw [show 0 + j * 2 + 1 = 0 + (j * 2 + 1) by omega, ← e]; exact hc _ _ h2
theorem Own.below {w w1 : World} {base : Nat} {v : Value} {l : List C} (h : Own w base v l) (hb : Below w.heap.size w w1) : Own w1 base v l :=
  ⟨h.1.kept ⟨hb.os, hb.tape, hb.output, hb.size, fun k hk _ => hb.block k hk⟩ (by cases v.ownBlock <;> simp) (row := none), h.2⟩
theorem Own.mono {w : World} {base base' : Nat} {v : Value} {l : List C} (h : Own w base v l) (hb : base' ≤ base) : Own w base' v l := by
  refine ⟨⟨h.1.1, ?_⟩, h.2⟩
  rcases h.1.2 with h1 | ⟨g, cap, cur, h1, h2, h3⟩
  · exact .inl h1
  · exact .inr ⟨g, cap, cur, h1, by omega, h3⟩
theorem Own.nil (w : World) (base : Nat) : Own w base (.slice none 0 0) [] := ⟨World.ownsRow_nil _ _ _ _, by simp⟩

end Go.Proofs.YtahdjajdaggmjaaDoor
/-! Walks of the small functions on words. -/
namespace Go.Proofs.YtahdjajdaggmjaaDoor
open Go.RowKit H

theorem r1_andNot (x : UInt32) : decide (x &&& ~~~16777215 = 0) = r1 x := by
  rw [Bool.eq_iff_iff, decide_eq_true_eq, r1_iff]
  constructor
  · intro h i hi
    have := congrArg (fun s => tb s i) h
    simp only [tb_and, tb_not, tb_zero, hi, Bool.true_and] at this
    have hl := tb_lt hi
    rw [show tb (16777215 : UInt32) i = decide (i < 24) from tb_M24 i] at this
    simp [hl] at this
    exact this
  · intro h
    refine tb_ext fun i => ?_
    rw [tb_and, tb_not, tb_zero, show tb (16777215 : UInt32) i = decide (i < 24) from tb_M24 i]
    cases hb : tb x i
    · rfl
    · simp [h i hb]

theorem mask_Right (x : UInt32) (w : World) : Calls Tryd.prog 74 #[.int .u32 (un x)] w fun e w' => e = .returned (.bool (r1 x)) ∧ w = w' := by
  have h1 : bits .andNot .u32 (un x) 16777215 = un (x &&& ~~~16777215) := by rw [un_all, un_andNot]
  have h2 : (un (x &&& ~~~16777215) == 0) = r1 x := by rw [un_zero, un_beq, r1_andNot]
  go_enter Tryd.func74, Tryd.ntmps74
  go_wp2
  go_ret
  exact ⟨rfl, rfl⟩
def dimI (i : Int) : Bool := decide (0 ≤ i ∧ i < 24)
end Go.Proofs.YtahdjajdaggmjaaDoor
/-! PLAIN LAW: the dimensions of a word, from the lowest on: the lowest bit, taken off, leaves the others. -/
namespace Go.Proofs.YtahdjajdaggmjaaDoor.H

end Go.Proofs.YtahdjajdaggmjaaDoor.H
/-! Walks: math/bits.OnesCount32. -/
namespace Go.Proofs.YtahdjajdaggmjaaDoor
open Go.RowKit H

end Go.Proofs.YtahdjajdaggmjaaDoor
