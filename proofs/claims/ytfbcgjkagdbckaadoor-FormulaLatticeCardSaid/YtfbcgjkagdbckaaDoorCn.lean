/-
Walks: append of clauses, told with the block that it leaves.
-/
import Derived.Maps.AppendAt
import Derived.Test.YtfbcgjkagdbckaaDoorLst
import Derived.Test.YtfbcgjkagdbckaaDoorApp
namespace Go.Proofs.YtfbcgjkagdbckaaDoor
open Go.RowKit H
theorem Own.lt' {w : World} {base : Nat} {v : Value} {l : List C} (h : Own w base v l) {k : Nat} (hk : v.ownBlock = some k) : k < w.heap.size := (h.1.lt k hk).2
theorem run_append_rd_at {w : World} {base : Nat} {v : Value} {L l : List C} (ty : TypeId) (ho : Own w base v L) {A : Option Addr} {cap : Nat} (hR : Rd w A l) (hlen : L.length + l.length ≤ 1000000) (hbase : base ≤ w.heap.size) :
    ∃ v' w', (Builtin.append_ #[26, 26] ty #[v, .slice A l.length cap]).run Tryd.prog w = .ok v' w' ∧ Own w' base v' (L ++ l) ∧ w.grownBy w' v.ownBlock ∧ (v'.ownBlock = v.ownBlock ∨ v'.ownBlock = some w.heap.size) := by
  obtain ⟨i, hi, hz, hs, hb⟩ := infoC'
  rcases Nat.eq_zero_or_pos l.length with h0 | h0
  · obtain rfl := List.eq_nil_of_length_eq_zero h0
    rw [List.append_nil]
    cases A with
    | none =>
      refine ⟨v, w, ?_, ho, ⟨rfl, rfl, rfl, Nat.le_refl _, fun _ _ _ => rfl⟩, .inl rfl⟩
      rcases ho.1.2 with ⟨rfl, h1⟩ | ⟨g, cap', cur, rfl, _, _, hnc, _⟩
      · simp [Builtin.append_, run_underlying Tryd.underlying26, sizeOf, typeInfo, hi, Builtin.lenOf, Builtin.firstCells]
      · simp [Builtin.append_, run_underlying Tryd.underlying26, sizeOf, typeInfo, hi, Builtin.lenOf, Builtin.firstCells, hnc, storeCells]
    | some ad =>
      obtain ⟨v', w', hrun, hown, hg, _, hat⟩ := run_append_own_at w base 26 ty 60 i _ 2 8 Tryd.underlying26 hi hz hs hb rfl (by decide) v L.length (flat L) ho.1 ad 0 cap [] rfl (by simp) (by simp) (by unfold maxLen; omega) (by omega) hbase
      rw [List.append_nil] at hown
      exact ⟨v', w', hrun, ⟨hown, ho.2⟩, hg, hat⟩
  · obtain ⟨ad, rfl, hc⟩ := hR.cells h0
    obtain ⟨v', w', hrun, hown, hg, _, hat⟩ := run_append_own_at w base 26 ty 60 i _ 2 8 Tryd.underlying26 hi hz hs hb rfl (by decide) v L.length (flat L) ho.1 ad l.length cap (flat l) (flat_length l) hc (flat_one l) (by unfold maxLen; omega) (by omega) hbase
    exact ⟨v', w', hrun, ⟨by rw [List.length_append, flat_append]; exact hown, by rw [List.length_append]; omega⟩, hg, hat⟩
theorem ne_at {b n : Nat} {u v : Value} (h : some b ≠ u.ownBlock) (hb : b < n) (hat : v.ownBlock = u.ownBlock ∨ v.ownBlock = some n) : some b ≠ v.ownBlock := by
  rcases hat with e | e
  · rw [e]; exact h
  · rw [e]
    intro e'
    have := Option.some.inj e'
    omega
theorem wpList_append_rd_at {ops : Array Oper} {rest : List Oper} {o : Oper} {a : Act} {Q : Exit → Act → World → Prop} {w : World} (hgd : o.guard = none) (s x : Operand) (ho : o.op = .call { callee := .builtin .append, args := #[s, x], argTypes := #[26, 26] })
    {base : Nat} {v : Value} {L l : List C} (hs : a.eval s = v) (hown : Own w base v L) {A : Option Addr} {cap : Nat} (hx : a.eval x = .slice A l.length cap) (hR : Rd w A l) (hlen : L.length + l.length ≤ 1000000) (hbase : base ≤ w.heap.size)
    (h : ∀ v' w', Own w' base v' (L ++ l) → Below base w w' → w.grownBy w' v.ownBlock → (v'.ownBlock = v.ownBlock ∨ v'.ownBlock = some w.heap.size) → wpList Tryd.prog ops Q rest (a.put o.dst v') w') : wpList Tryd.prog ops Q (o :: rest) a w := by
  refine wpList_plain hgd fun K hK => ?_
  obtain ⟨v', w', hr, h2, h3, h4⟩ := run_append_rd_at o.type hown hR hlen hbase (cap := cap)
  unfold Oper.wp execOp
  simp only [ho, resolve, invoke, builtin, Sem.run_bind, Sem.run_pure, Result.andThen_ok, List.map_toArray, List.map_cons, List.map_nil, hs, hx, hr]
  exact hK _ _ (h v' w' h2 (hown.grown hbase h3) h3 h4)
end Go.Proofs.YtfbcgjkagdbckaaDoor
