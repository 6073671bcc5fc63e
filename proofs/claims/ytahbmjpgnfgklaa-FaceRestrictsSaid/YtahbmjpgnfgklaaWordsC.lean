/-
Words for the walks over clauses: a clause's two cells, a slice that reads as a list of clauses.
-/
import Derived.Test.YtahbmjpgnfgklaaWords
namespace Go.Proofs.Ytahbmjpgnfgklaa
open Go.RowKit H

/-- A clause's two cells. -/
def cc (c : C) : List Value := [.int .u32 (un c.1), .int .u32 (un c.2)]
def flat (l : List C) : List Value := l.flatMap cc
theorem flat_nil : flat [] = [] := rfl
theorem flat_append (l m : List C) : flat (l ++ m) = flat l ++ flat m := by simp [flat]
theorem flat_snoc (l : List C) (c : C) : flat (l ++ [c]) = flat l ++ [.int .u32 (un c.1), .int .u32 (un c.2)] := by simp [flat, cc]
theorem flat_length (l : List C) : (flat l).length = l.length * 2 := by
  induction l with
  | nil => rfl
  | cons c l ih => simp only [flat, List.flatMap_cons, List.length_append] at ih ⊢; rw [ih]; simp [cc]; omega
theorem flat_cons (c : C) (l : List C) : flat (c :: l) = .int .u32 (un c.1) :: .int .u32 (un c.2) :: flat l := rfl
theorem flat_get (l : List C) (j : Nat) (h : j < l.length) : (flat l)[j * 2]? = some (.int .u32 (un l[j].1)) ∧ (flat l)[j * 2 + 1]? = some (.int .u32 (un l[j].2)) := by
  induction l generalizing j with
  | nil => exact absurd h (Nat.not_lt_zero _)
  | cons c l ih =>
    rw [flat_cons]
    cases j with
    | zero => exact ⟨rfl, rfl⟩
    | succ j =>
      have := ih j (by simpa using h)
      rw [show (j + 1) * 2 = j * 2 + 1 + 1 by omega]
      exact this
theorem flat_one (l : List C) : ∀ u ∈ flat l, u.oneCell' = true := by
  intro u hu
  obtain ⟨c, _, hc⟩ := List.mem_flatMap.1 hu
  simp only [cc, List.mem_cons, List.not_mem_nil, or_false] at hc
  rcases hc with rfl | rfl <;> rfl

/-- A slice whose first element lies at A reads as the list l. -/
def Rd (w : World) (A : Option Addr) (l : List C) : Prop :=
  l.length ≤ 70368744177664 ∧ (0 < l.length → ∃ b off, A = some ⟨b, off, none⟩ ∧ ∀ j (h : j < l.length), w.cell? ⟨b, off + j * 2, none⟩ = some (.int .u32 (un l[j].1)) ∧ w.cell? ⟨b, off + j * 2 + 1, none⟩ = some (.int .u32 (un l[j].2)))
theorem Rd.at_ {w : World} {A : Option Addr} {l : List C} (h : Rd w A l) {j : Nat} (hj : j < l.length) :
    ∃ b off, A = some ⟨b, off, none⟩ ∧ w.cell? ⟨b, off + j * 2, none⟩ = some (.int .u32 (un l[j].1)) ∧ w.cell? ⟨b, off + j * 2 + 1, none⟩ = some (.int .u32 (un l[j].2)) := by
  obtain ⟨b, off, hA, hc⟩ := h.2 (by omega)
  exact ⟨b, off, hA, hc j hj⟩
theorem Rd.below {w w1 : World} {A : Option Addr} {l : List C} (h : Rd w A l) (hb : Below w.heap.size w w1) : Rd w1 A l :=
  ⟨h.1, fun hp => by
    obtain ⟨b, off, hA, hc⟩ := h.2 hp
    exact ⟨b, off, hA, fun j hj => ⟨(hb.cell (World.block_lt_of_cell? w _ (hc j hj).1)).trans (hc j hj).1, (hb.cell (World.block_lt_of_cell? w _ (hc j hj).2)).trans (hc j hj).2⟩⟩⟩
theorem Rd.nil (w : World) (A : Option Addr) : Rd w A [] := ⟨by simp, fun h => absurd h (by simp)⟩
theorem Rd.alloc {w : World} {A : Option Addr} {l : List C} (h : Rd w A l) (o : Obj) : Rd (w.alloc o) A l := h.below ((Below.refl _ _).alloc (Nat.le_refl _) _)
theorem Rd.drew {w : World} {A : Option Addr} {l : List C} (h : Rd w A l) : Rd w.drew A l := h
theorem Rd.drewN {w : World} {A : Option Addr} {l : List C} (h : Rd w A l) (n : Nat) : Rd (w.drewN n) A l := h

/-- A slice of the call's own (from block base on) holds the list l. -/
def Own (w : World) (base : Nat) (v : Value) (l : List C) : Prop := w.ownsRow base 24 2 v l.length (flat l) ∧ l.length ≤ 70368744177664
theorem Own.slice {w : World} {base : Nat} {v : Value} {l : List C} (h : Own w base v l) : ∃ A c, v = .slice A l.length c ∧ Rd w A l := by
  rcases Nat.eq_zero_or_pos l.length with h0 | h0
  · have hl : l = [] := List.eq_nil_of_length_eq_zero h0
    subst hl
    rcases h.1.2 with ⟨rfl, _⟩ | ⟨g, cap, cur, rfl, _⟩
    · exact ⟨none, 0, rfl, Rd.nil _ _⟩
    · exact ⟨_, cap, rfl, Rd.nil _ _⟩
  · obtain ⟨g, cap, rfl, _, _⟩ := h.1.form h0
    refine ⟨_, cap, rfl, h.2, fun _ => ⟨g, 0, rfl, fun j hj => ?_⟩⟩
    have hc := h.1.cells (g := g) rfl
    obtain ⟨h1, h2⟩ := flat_get l j hj
    have e : ∀ k, (⟨g, 0, none⟩ : Addr).add k = ⟨g, 0 + k, none⟩ := by intro k; unfold Addr.add; split <;> simp_all
    refine ⟨?_, ?_⟩
    · rw [← e]; exact hc _ _ h1
    · rw [show 0 + j * 2 + 1 = 0 + (j * 2 + 1) by omega, ← e]; exact hc _ _ h2
theorem Own.below {w w1 : World} {base : Nat} {v : Value} {l : List C} (h : Own w base v l) (hb : Below w.heap.size w w1) : Own w1 base v l :=
  ⟨h.1.kept ⟨hb.os, hb.tape, hb.output, hb.size, fun k hk _ => hb.block k hk⟩ (by cases v.ownBlock <;> simp) (row := none), h.2⟩
theorem Own.mono {w : World} {base base' : Nat} {v : Value} {l : List C} (h : Own w base v l) (hb : base' ≤ base) : Own w base' v l := by
  refine ⟨⟨h.1.1, ?_⟩, h.2⟩
  rcases h.1.2 with h1 | ⟨g, cap, cur, h1, h2, h3⟩
  · exact .inl h1
  · exact .inr ⟨g, cap, cur, h1, by omega, h3⟩
theorem Own.nil (w : World) (base : Nat) : Own w base (.slice none 0 0) [] := ⟨World.ownsRow_nil _ _ _ _, by simp⟩

/-- '==' and '!=' between two clauses. -/
theorem eqC (a b : C) (w : World) : (binOp .eql 24 (.agg #[.int .u32 (un a.1), .int .u32 (un a.2)]) (.agg #[.int .u32 (un b.1), .int .u32 (un b.2)])).run Try.prog w = .ok (.bool (decide (a = b))) w := by
  have u3 := Try.underlying22
  have a3 := Try.isAgg22
  have z3 := Try.sizeOf22
  have hS : Try.prog.underlying 24 = some (.struct (Try.prog.fieldsOf 24)) := by kernel_rfl
  have hp : Try.prog.stoodInHeld 24 = false := by kernel_rfl
  rw [run_eql_struct, show (10000 : Nat) = 9999 + 1 from rfl, run_equalIn_agg w 9999 24 _ _ hS hp]
  simp only [Program.fieldsOf, Try.underlying24]
  go_simp
  obtain ⟨a1, a2⟩ := a
  obtain ⟨b1, b2⟩ := b
  by_cases h1 : a1 = b1 <;> by_cases h2 : a2 = b2 <;> simp [h1, h2, un_inj]
end Go.Proofs.Ytahbmjpgnfgklaa
