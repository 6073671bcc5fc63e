/-
Walks: 'append(own, more...)' for clauses: a row of the call's own, and any row that reads as a list of clauses.
-/
import Derived.Laws.AppendOwn
import Derived.Laws.OwnMore
import Derived.Tactics
import Derived.Below
import Derived.Test.YtfbcgjkagdbckaaDoorWd
namespace Go.Proofs.YtfbcgjkagdbckaaDoor
open Go.RowKit H

theorem infoC' : ∃ i, Tryd.prog.info? 60 = some i ∧ i.zero = some (.agg #[.int .u32 0, .int .u32 0]) ∧ i.size = 2 ∧ i.bytes = 8 := by
  have h : (Tryd.prog.info? 60).map (fun i => (i.zero, i.size, i.bytes)) = some (some (.agg #[.int .u32 0, .int .u32 0]), 2, 8) := by kernel_rfl
  obtain ⟨i, hi, he⟩ := Option.map_eq_some_iff.1 h
  simp only [Prod.mk.injEq] at he
  exact ⟨i, hi, he.1, he.2.1, he.2.2⟩
/-- The cells of a row that reads as a list of clauses. -/
theorem Rd.cells {w : World} {A : Option Addr} {l : List C} (h : Rd w A l) (hl : 0 < l.length) : ∃ ad, A = some ad ∧ ∀ j u, (flat l)[j]? = some u → w.cell? (ad.add j) = some u := by
  obtain ⟨b, off, rfl, hc⟩ := h.2 hl
  refine ⟨_, rfl, fun j u hj => ?_⟩
  have ea : ∀ n, (⟨b, off, none⟩ : Addr).add n = ⟨b, off + n, none⟩ := fun n => by
    unfold Addr.add
    split <;> simp_all
  rw [ea]
  have hlt : j < (flat l).length := (List.getElem?_eq_some_iff.1 hj).1
  rw [flat_length] at hlt
  have hq : j / 2 < l.length := by omega
  obtain ⟨h0, h1⟩ := flat_get l (j / 2) hq
  obtain ⟨c0, c1⟩ := hc (j / 2) hq
  rcases Nat.mod_two_eq_zero_or_one j with hm | hm
  · have e : j = j / 2 * 2 := by omega
    rw [e] at hj
    rw [h0] at hj
    cases hj
    rw [show off + j = off + j / 2 * 2 by omega]
    exact c0
  · have e : j = j / 2 * 2 + 1 := by omega
    rw [e] at hj
    rw [h1] at hj
    cases hj
    rw [show off + j = off + j / 2 * 2 + 1 by omega]
    exact c1
theorem Own.ne' {w : World} {base : Nat} {v : Value} {l : List C} (h : Own w base v l) {b : Nat} (hb : b < base) : some b ≠ v.ownBlock := by
  rcases h.1.2 with ⟨rfl, _⟩ | ⟨g, cap, cur, rfl, hg, _⟩
  · simp [Value.ownBlock]
  · simp [Value.ownBlock]; omega
theorem Own.grown {w w1 : World} {base : Nat} {v : Value} {l : List C} (h : Own w base v l) (hb : base ≤ w.heap.size) (hg : w.grownBy w1 v.ownBlock) : Below base w w1 :=
  ⟨hg.os, hg.tape, hg.output, hg.size, fun k hk => hg.block k (by omega) (h.ne' hk)⟩
/-- An empty row of the call's own. -/
theorem Own.made {w : World} {base : Nat} (hb : base ≤ w.heap.size) : Own (w.alloc (.cells #[] 60)) base (.slice (some ⟨w.heap.size, 0, none⟩) 0 0) [] :=
  ⟨World.ownsRow_made w #[] 0 hb (Nat.zero_le _) rfl, by simp⟩
/-- A row of one clause. -/
theorem Own.lit {w : World} {base : Nat} (hb : base ≤ w.heap.size) (c : C) : Own (w.alloc (.cells #[.int .u32 (un c.1), .int .u32 (un c.2)] 60)) base (.slice (some ⟨w.heap.size, 0, none⟩) 1 1) [c] :=
  ⟨World.ownsRow_lit w #[.int .u32 (un c.1), .int .u32 (un c.2)] 1 hb (by unfold maxLen; omega) rfl, by simp⟩
theorem run_append_rd {w : World} {base : Nat} {v : Value} {L l : List C} (ty : TypeId) (ho : Own w base v L) {A : Option Addr} {cap : Nat} (hR : Rd w A l) (hlen : L.length + l.length ≤ 1000000) (hbase : base ≤ w.heap.size) :
    ∃ v' w', (Builtin.append_ #[26, 26] ty #[v, .slice A l.length cap]).run Tryd.prog w = .ok v' w' ∧ Own w' base v' (L ++ l) ∧ w.grownBy w' v.ownBlock := by
  obtain ⟨i, hi, hz, hs, hb⟩ := infoC'
  rcases Nat.eq_zero_or_pos l.length with h0 | h0
  · obtain rfl := List.eq_nil_of_length_eq_zero h0
    rw [List.append_nil]
    cases A with
    | none =>
      refine ⟨v, w, ?_, ho, ⟨rfl, rfl, rfl, Nat.le_refl _, fun _ _ _ => rfl⟩⟩
      rcases ho.1.2 with ⟨rfl, h1⟩ | ⟨g, cap', cur, rfl, _, _, hnc, _⟩
      · simp [Builtin.append_, run_underlying Tryd.underlying26, sizeOf, typeInfo, hi, Builtin.lenOf, Builtin.firstCells]
      · simp [Builtin.append_, run_underlying Tryd.underlying26, sizeOf, typeInfo, hi, Builtin.lenOf, Builtin.firstCells, hnc, storeCells]
    | some ad =>
      obtain ⟨v', w', hrun, hown, hg, _⟩ := run_append_own w base 26 ty 60 i _ 2 8 Tryd.underlying26 hi hz hs hb rfl (by decide) v L.length (flat L) ho.1 ad 0 cap [] rfl (by simp) (by simp) (by unfold maxLen; omega) (by omega) hbase
      rw [List.append_nil] at hown
      exact ⟨v', w', hrun, ⟨hown, ho.2⟩, hg⟩
  · obtain ⟨ad, rfl, hc⟩ := hR.cells h0
    obtain ⟨v', w', hrun, hown, hg, _⟩ := run_append_own w base 26 ty 60 i _ 2 8 Tryd.underlying26 hi hz hs hb rfl (by decide) v L.length (flat L) ho.1 ad l.length cap (flat l) (flat_length l) hc (flat_one l) (by unfold maxLen; omega) (by omega) hbase
    exact ⟨v', w', hrun, ⟨by rw [List.length_append, flat_append]; exact hown, by rw [List.length_append]; omega⟩, hg⟩
section
variable {ops : Array Oper} {rest : List Oper} {o : Oper} {a : Act} {Q : Exit → Act → World → Prop} {w : World}
theorem wp_append_rd {K : Act → World → Prop} (s x : Operand) (ho : o.op = .call { callee := .builtin .append, args := #[s, x], argTypes := #[26, 26] })
    {base : Nat} {v : Value} {L l : List C} (hs : a.eval s = v) (hown : Own w base v L) {A : Option Addr} {cap : Nat} (hx : a.eval x = .slice A l.length cap) (hR : Rd w A l) (hlen : L.length + l.length ≤ 1000000) (hbase : base ≤ w.heap.size)
    (h : ∀ v' w', Own w' base v' (L ++ l) → Below base w w' → w.grownBy w' v.ownBlock → K (a.put o.dst v') w') : o.wp Tryd.prog a w K Q := by
  obtain ⟨v', w', hr, h2, h3⟩ := run_append_rd o.type hown hR hlen hbase (cap := cap)
  unfold Oper.wp execOp
  simp only [ho, resolve, invoke, builtin, Sem.run_bind, Sem.run_pure, Result.andThen_ok, List.map_toArray, List.map_cons, List.map_nil, hs, hx, hr]
  exact h v' w' h2 (hown.grown hbase h3) h3
theorem wpList_append_rd (hgd : o.guard = none) (s x : Operand) (ho : o.op = .call { callee := .builtin .append, args := #[s, x], argTypes := #[26, 26] })
    {base : Nat} {v : Value} {L l : List C} (hs : a.eval s = v) (hown : Own w base v L) {A : Option Addr} {cap : Nat} (hx : a.eval x = .slice A l.length cap) (hR : Rd w A l) (hlen : L.length + l.length ≤ 1000000) (hbase : base ≤ w.heap.size)
    (h : ∀ v' w', Own w' base v' (L ++ l) → Below base w w' → w.grownBy w' v.ownBlock → wpList Tryd.prog ops Q rest (a.put o.dst v') w') : wpList Tryd.prog ops Q (o :: rest) a w :=
  wpList_plain hgd fun _ hK => wp_append_rd s x ho hs hown hx hR hlen hbase fun v' w' h2 h3 h4 => hK _ _ (h v' w' h2 h3 h4)
end
end Go.Proofs.YtfbcgjkagdbckaaDoor
