/-
The arguments of a variadic function of rows of clauses.
-/
import Derived.Test.YtfbcgjkagdbckaaDoorLst
namespace Go.Proofs.YtfbcgjkagdbckaaDoor
open Go.RowKit H

/-- The arguments of a variadic function of rows: block b holds them. -/
structure ArgsC (w : World) (b : Nat) (L : List (Option Addr × Nat × List C)) : Prop where
  at_ : ∀ j (h : j < L.length), w.cell? ⟨b, j, none⟩ = some (.slice L[j].1 L[j].2.2.length L[j].2.1) ∧ Rd w L[j].1 L[j].2.2 ∧ L[j].2.2.length ≤ L[j].2.1 ∧ L[j].2.2.length ≤ 1000000
theorem ArgsC.below {w w1 : World} {b : Nat} {L : List (Option Addr × Nat × List C)} (h : ArgsC w b L) (hb : Below w.heap.size w w1) : ArgsC w1 b L :=
  ⟨fun j hj => by
    obtain ⟨h1, h2, h3⟩ := h.at_ j hj
    exact ⟨(hb.cell (World.block_lt_of_cell? w _ h1)).trans h1, h2.below hb, h3⟩⟩
/-- Two rows, laid into a block of the call's own. -/
theorem ArgsC.two {w : World} {A0 A1 : Option Addr} {c0 c1 : Nat} {l0 l1 : List C} (h0 : Rd w A0 l0) (h1 : Rd w A1 l1) (k0 : l0.length ≤ c0) (k1 : l1.length ≤ c1) (n0 : l0.length ≤ 1000000) (n1 : l1.length ≤ 1000000) :
    ArgsC (w.alloc (.cells #[.slice A0 l0.length c0, .slice A1 l1.length c1] 26)) w.heap.size [(A0, c0, l0), (A1, c1, l1)] :=
  ⟨fun j hj => by
    match j, hj with
    | 0, _ => exact ⟨World.cell?_alloc_new .., h0.alloc _, k0, n0⟩
    | 1, _ => exact ⟨World.cell?_alloc_new .., h1.alloc _, k1, n1⟩⟩
/-- One row, laid into a block of the call's own. -/
theorem ArgsC.one {w : World} {A0 : Option Addr} {c0 : Nat} {l0 : List C} (h0 : Rd w A0 l0) (k0 : l0.length ≤ c0) (n0 : l0.length ≤ 1000000) :
    ArgsC (w.alloc (.cells #[.slice A0 l0.length c0] 26)) w.heap.size [(A0, c0, l0)] :=
  ⟨fun j hj => by
    match j, hj with
    | 0, _ => exact ⟨World.cell?_alloc_new .., h0.alloc _, k0, n0⟩⟩
end Go.Proofs.YtfbcgjkagdbckaaDoor
