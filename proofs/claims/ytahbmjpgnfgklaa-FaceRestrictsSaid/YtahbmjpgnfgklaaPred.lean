/-
Walks, for clause.Least: the inner function that tells whether a clause is below another one; slices.IndexFunc and slices.ContainsFunc of it.
-/
import Derived.WalkMore
import Derived.Deep.LoopGhost
import Derived.Lib.Hide
import Derived.Test.YtahbmjpgnfgklaaWordsC
namespace Go.Proofs.Ytahbmjpgnfgklaa
open Go.RowKit H

def vC (c : C) : Value := .agg #[.int .u32 (un c.1), .int .u32 (un c.2)]
/-- What the walk asks of the small functions of the package. -/
structure Small : Prop where
  right : ∀ (c : C) (w : World), Calls Try.prog 13 #[vC c] w fun e w' => e = .returned (.bool (ok c)) ∧ Below w.heap.size w w'
  below : ∀ (a b : C) (w : World), Calls Try.prog 21 #[vC a, vC b] w fun e w' => e = .returned (.bool (H.below a b)) ∧ Below w.heap.size w w'
theorem eqCn (a b : C) (w : World) : (binOp .neq 24 (.agg #[.int .u32 (un a.1), .int .u32 (un a.2)]) (.agg #[.int .u32 (un b.1), .int .u32 (un b.2)])).run Try.prog w = .ok (.bool (!decide (a = b))) w := by
  have u3 := Try.underlying22
  have a3 := Try.isAgg22
  have z3 := Try.sizeOf22
  have hS : Try.prog.underlying 24 = some (.struct (Try.prog.fieldsOf 24)) := by kernel_rfl
  have hp : Try.prog.stoodInHeld 24 = false := by kernel_rfl
  rw [run_neq_struct, show (10000 : Nat) = 9999 + 1 from rfl, run_equalIn_agg w 9999 24 _ _ hS hp]
  simp only [Program.fieldsOf, Try.underlying24]
  go_simp
  obtain ⟨a1, a2⟩ := a
  obtain ⟨b1, b2⟩ := b
  by_cases h1 : a1 = b1 <;> by_cases h2 : a2 = b2 <;> simp [h1, h2, un_inj]
/-- A clause lies at the head of a block. -/
def At2 (w : World) (b : Nat) (c : C) : Prop := w.cell? ⟨b, 0, none⟩ = some (.int .u32 (un c.1)) ∧ w.cell? ⟨b, 1, none⟩ = some (.int .u32 (un c.2))

theorem At2.lt {w : World} {b : Nat} {c : C} (h : At2 w b c) : b < w.heap.size := World.block_lt_of_cell? w _ h.1
theorem At2.below {w w1 : World} {b : Nat} {c : C} (h : At2 w b c) (hb : Below w.heap.size w w1) : At2 w1 b c := ⟨(hb.cell h.lt).trans h.1, (hb.cell h.lt).trans h.2⟩

set_option maxRecDepth 100000 in
theorem least_pred (S : Small) (c d : C) (b : Nat) (w : World) (h : At2 w b c) : Calls Try.prog 48 #[vC d, .pointer (some ⟨b, 0, none⟩)] w fun e w' => e = .returned (.bool (!decide (c = d) && H.below c d)) ∧ Below w.heap.size w w' := by
  have hlt := h.lt
  have hb0 : Below w.heap.size w (w.alloc (.cells #[.int .u32 (un d.1), .int .u32 (un d.2)] 24)) := (Below.refl _ _).alloc (Nat.le_refl _) _
  have h2 := h.below hb0
  have h0 := h2.1
  have h1 := h2.2
  have he := fun w => eqCn c d w
  unfold vC
  by_cases hcd : c = d
  · rw [decide_eq_true hcd] at he ⊢
    go_enter Try.func48, Try.ntmps48
    go_wp2_with (rw [he])
    go_ret
    exact ⟨rfl, hb0⟩
  · have hB := S.below c d (w.alloc (.cells #[.int .u32 (un d.1), .int .u32 (un d.2)] 24))
    unfold vC at hB
    rw [decide_eq_false hcd] at he ⊢
    go_enter Try.func48, Try.ntmps48
    go_wp2_with (first | (go_at_call 21; refine hB.mono ?_; rintro e w' ⟨rfl, hb⟩) | (rw [he]))
    go_ret
    exact ⟨rfl, below_then hb0 (by simp) hb⟩
def predC (c d : C) : Bool := !decide (c = d) && H.below c d
set_option maxRecDepth 100000 in
set_option maxHeartbeats 1000000 in
theorem least_index (S : Small) (c : C) (b cap : Nat) (A : Option Addr) (l : List C) (w : World) (h : At2 w b c) (hR : Rd w A l) :
    Calls Try.prog 73 #[.slice A l.length cap, .func (.func 48) #[] #[.pointer (some ⟨b, 0, none⟩)]] w fun e w' =>
      (∃ i : Int, e = .returned (.int .i64 i) ∧ decide (i ≥ 0) = l.any (predC c)) ∧ Below w.heap.size w w' := by
  go_enter Try.func73, Try.ntmps73
  go_wp2
  go_loopg [8] (l.length + 1) (fun kq v8 w' => ∃ j : Nat, v8 = .int .i64 (j : Int) ∧ j ≤ l.length ∧ kq + j = l.length + 1 ∧ Hid (∀ d ∈ l.take j, predC c d = false) ∧ Below w.heap.size w w')
  case atStart => exact ⟨0, rfl, Nat.zero_le _, rfl, Lib.hid (by simp), Below.refl _ _⟩
  case round =>
    obtain ⟨j, rfl, hj, hk, hno, hb⟩ := hrel
    have hlen := hR.1
    by_cases hlt : j < l.length
    · obtain ⟨b0, off, rfl, h1, h2⟩ := (hR.below hb).at_ hlt
      have hp := least_pred S c l[j] b wr (h.below hb)
      have hsz := hb.size
      change Calls _ _ _ _ (fun e w' => e = .returned (.bool (predC c l[j])) ∧ Below wr.heap.size wr w') at hp
      unfold vC at hp
      have HB := Lib.hid hb
      cases hpr : predC c l[j]
      · rw [hpr] at hp
        have HP := Lib.hid hpr
        have HN := hno
        clear hno hb hpr
        go_wp2_with (go_at_call 48; refine hp.mono ?_; rintro e w2 ⟨rfl, hb2⟩)
        go_roundg (gk - 1)
        case measure => omega
        case rel =>
          refine ⟨j + 1, ?_, by omega, by omega, ?_, below_then HB hsz hb2⟩
          · simp
          · refine Lib.hid fun d hd => ?_
            rw [List.take_succ_eq_append_getElem hlt] at hd
            rcases List.mem_append.1 hd with h3 | h3
            · exact HN d h3
            · rw [List.mem_singleton.1 h3]
              exact HP
      · rw [hpr] at hp
        clear hno hb
        go_wp2_with (go_at_call 48; refine hp.mono ?_; rintro e w2 ⟨rfl, hb2⟩)
        go_ret
        refine ⟨⟨j, rfl, ?_⟩, below_then HB hsz hb2⟩
        rw [decide_eq_true (by omega), List.any_eq_true.2 ⟨l[j], List.getElem_mem _, hpr⟩]
    · have HB := Lib.hid hb
      have hany : Hid (l.any (predC c) = false) := by
        refine Lib.hid ?_
        rw [List.any_eq_false]
        intro d hd
        have e : l.take j = l := List.take_of_length_le (by omega)
        have h3 : predC c d = false := hno d (by rw [e]; exact hd)
        rw [h3]
        exact Bool.false_ne_true
      clear hb hno
      go_wp2
      go_ret
      exact ⟨⟨-1, rfl, by rw [hany]; rfl⟩, HB⟩
end Go.Proofs.Ytahbmjpgnfgklaa
