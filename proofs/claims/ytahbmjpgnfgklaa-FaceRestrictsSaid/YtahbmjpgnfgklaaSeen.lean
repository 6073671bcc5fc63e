/-
A map of the call's own, from clauses to bools, that tells which clauses were seen: its laws at the two operations.
-/
import Derived.Maps.Own
import Derived.Maps.OwnOps
import Derived.Maps.OwnSet
import Derived.Maps.Views
import Derived.DeepKeys4
import Derived.Test.YtahbmjpgnfgklaaPred
namespace Go.Proofs.Ytahbmjpgnfgklaa
open Go.RowKit H
open Go.Maps (Keyed)

theorem laidOutC : laidOutB Try.prog = true := by kernel_rfl
theorem rowC : 24 < Try.prog.types.size := of_decide_eq_true (by kernel_rfl)
theorem wideC : (match Try.prog.underlying 24 with | some (.array _ _) | some (.struct _) => true | _ => false) = true := by kernel_rfl
theorem deepC : Try.prog.keyTypeAt 2 24 = true := by kernel_rfl
set_option maxRecDepth 100000 in
theorem keyLawC : WideMaps.KeyLaw Try.prog 24 := deep_law_laid laidOutC (m := 2) (by omega) rowC deepC wideC
theorem keyedC : Keyed Try.prog 24 := Keyed.of_law keyLawC
def klC (c : C) : Lit := .string (keyBytes [.int .u32 (un c.1), .int .u32 (un c.2)])
theorem wf_un (x : UInt32) : (Lit.int .u32 (un x)).wf = true := by
  have := un_range x
  simp [Lit.wf, IntKind.min, IntKind.max, IntKind.bits, IntKind.signed]
  omega
theorem keyOfC (c : C) : keyOf Try.prog 24 (vC c) = some (klC c) := by
  have hT : Try.prog.keyType 24 = true := by kernel_rfl
  have hc : Try.prog.cellsOf 24 = 2 := by kernel_rfl
  have hc3 : Try.prog.cellsOf 22 = 1 := by kernel_rfl
  obtain ⟨m, hs⟩ : ∃ m, Try.prog.types.size + 1 = m + 1 + 1 := ⟨Try.prog.types.size - 1, by have := rowC; omega⟩
  have hf : (vC c).formed Try.prog 24 = true := by simp [vC, Value.formed, Try.underlying24, hc]
  have k1 : Try.prog.keyLits (m + 1 + 1) 24 (vC c).cells.toList = some [.int .u32 (un c.1), .int .u32 (un c.2)] := by
    unfold vC
    simp [Program.keyLits, Try.underlying24, Value.cells, hc, hc3, wf_un]
  unfold keyOf
  rw [Try.underlying24]
  simp only [hT, hf, hs, k1, Bool.and_self, if_true, Option.map_some]
  rfl
theorem klC_inj {a b : C} (h : klC a = klC b) : a = b := by
  have h1 := keyOfC a
  have h2 := keyOfC b
  rw [h] at h1
  have h3 := keyLawC.inj h1 h2
  unfold vC at h3
  simp [un_inj] at h3
  exact Prod.ext h3.1 h3.2

/-- Block b is a map of at most n entries that tells true of the clauses of l, and false of all others. -/
def Seen (w : World) (b n : Nat) (l : List C) : Prop := ∃ D : DataW Unit, w.ownsMap Try.prog 24 (plainElem Try.prog 4) b n D ∧ (∀ c, D.atKey (klC c) (.lit (.bool false)) = .lit (.bool (decide (c ∈ l)))) ∧ Maps.IsMap D
theorem Seen.made (w : World) : Seen (w.alloc (.map #[] 0)) w.heap.size 0 [] := ⟨.map [], World.ownsMap_made _ _ _ _, fun c => by simp [DataW.atKey], ⟨_, rfl⟩⟩
theorem Seen.below {w w1 : World} {b n : Nat} {l : List C} (h : Seen w b n l) (hb : Below w.heap.size w w1) : Seen w1 b n l := by
  obtain ⟨D, h1, h2, h3⟩ := h
  exact ⟨D, h1.kept ⟨hb.os, hb.tape, hb.output, hb.size, fun k hk _ => hb.block k hk⟩ (row := none) (by simp), h2, h3⟩
theorem Seen.lt {w : World} {b n : Nat} {l : List C} (h : Seen w b n l) : b < w.heap.size := by
  obtain ⟨D, h1, _⟩ := h
  exact h1.lt
theorem zeroB (w : World) : (zeroValue 4).run Try.prog w = .ok (.bool false) w := by kernel_rfl
theorem plainB_inv {v : Value} {x : Bool} {ps : List MemPlace} (hv : plainElem (H := Unit) Try.prog 4 v = some (.lit (.bool x), ps)) : v = .bool x := by
  have u4 := Try.underlying4
  unfold plainElem at hv
  generalize Try.prog.underlying 4 = d at hv u4
  subst u4
  cases v with
  | bool y =>
    simp only [Option.some.injEq, Prod.mk.injEq, DataW.lit.injEq, Lit.bool.injEq] at hv
    rw [hv.1]
  | _ => simp at hv
theorem Seen.look {w : World} {b n : Nat} {l : List C} (h : Seen w b n l) (c : C) : (Instr.lookup 63 (.map (some b)) (vC c) false).run Try.prog w = .ok (.bool (decide (c ∈ l))) w := by
  obtain ⟨D, h1, h2, _⟩ := h
  obtain ⟨v, ps, hrun, hv⟩ := h1.lookup keyedC Try.underlying63 (zeroB w) (plainElem_bool Try.underlying4 false) (keyOfC c)
  rw [h2 c] at hv
  rw [hrun, plainB_inv hv]
theorem Seen.put {w : World} {b n : Nat} {l : List C} (h : Seen w b n l) (hn : n < maxLen) (c : C) : ∃ w', (Instr.mapUpdate 63 (.map (some b)) (vC c) (.bool true)).run Try.prog w = .ok () w' ∧ Seen w' b (n + 1) (l ++ [c]) ∧ w.grownBy w' (some b) := by
  obtain ⟨D, h1, h2, h3⟩ := h
  obtain ⟨w', hrun, ho, hg⟩ := h1.update keyedC Try.underlying63 hn (keyOfC c) (plainElem_bool Try.underlying4 true)
  refine ⟨w', hrun, ⟨_, ho, fun d => ?_, ?_⟩, hg⟩
  · by_cases e : d = c
    · subst e
      rw [Maps.atKey_put_same h3 (keyedC.key (keyOfC d))]
      simp
    · rw [Maps.atKey_put_other (fun h => e (klC_inj h)), h2 d]
      simp [e]
  · exact ho.isMap
end Go.Proofs.Ytahbmjpgnfgklaa
