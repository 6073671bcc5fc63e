/-
Walks: slices.IndexFunc and slices.ContainsFunc of clauses, for any function of one clause whose contract is known: one that captures nothing, one that captures a variable.
-/
import Derived.WalkMore
import Derived.Deep.LoopGhost
import Derived.Lib.Hide
import Derived.Shelf.Abstract
import Derived.Test.YtahbmjpgnfgklaaPred
namespace Go.Proofs.Ytahbmjpgnfgklaa
open Go.RowKit H

set_option maxRecDepth 100000 in
set_option maxHeartbeats 1000000 in
theorem any_plain (F : FuncId) (p : C → Bool) (cap : Nat) (A : Option Addr) (l : List C) (w : World) (hR : Rd w A l)
    (eg : ∀ args w, (callFunc F args).run Try.prog w = .ok (.enter F args) w)
    (hp : ∀ (d : C) (w1 : World), Below w.heap.size w w1 → Calls Try.prog F #[.agg #[.int .u32 (un d.1), .int .u32 (un d.2)]] w1 fun e w' => e = .returned (.bool (p d)) ∧ Below w1.heap.size w1 w') :
    Calls Try.prog 73 #[.slice A l.length cap, .func (.func F) #[] #[]] w fun e w' =>
      (∃ i : Int, e = .returned (.int .i64 i) ∧ decide (i ≥ 0) = l.any p) ∧ Below w.heap.size w w' := by
  go_enter Try.func73, Try.ntmps73
  go_wp2
  go_loopg [8] (l.length + 1) (fun kq v8 w' => ∃ j : Nat, v8 = .int .i64 (j : Int) ∧ j ≤ l.length ∧ kq + j = l.length + 1 ∧ Hid (∀ d ∈ l.take j, p d = false) ∧ Below w.heap.size w w')
  case atStart => exact ⟨0, rfl, Nat.zero_le _, rfl, Lib.hid (by simp), Below.refl _ _⟩
  case round =>
    obtain ⟨j, rfl, hj, hk, hno, hb⟩ := hrel
    have hlen := hR.1
    by_cases hlt : j < l.length
    · obtain ⟨b0, off, rfl, h1, h2⟩ := (hR.below hb).at_ hlt
      have hpj := hp l[j] wr hb
      have hsz := hb.size
      have HB := Lib.hid hb
      cases hpr : p l[j]
      · rw [hpr] at hpj
        have HP := Lib.hid hpr
        have HN := hno
        clear hno hb hpr hp
        go_wp2_with (go_at_fn F; refine hpj.mono ?_; rintro e w2 ⟨rfl, hb2⟩)
        go_roundg (gk - 1)
        case measure => omega
        case rel =>
          refine ⟨j + 1, ?_, by omega, by omega, ?_, below_then HB hsz hb2⟩
          · simp
          · refine Lib.hid fun d hd => ?_
            rw [List.take_succ_eq_append_getElem hlt] at hd
            rcases List.mem_append.1 hd with h3 | h3
            · exact HN d h3
            · rw [List.mem_singleton.1 h3]
              exact HP
      · rw [hpr] at hpj
        clear hno hb hp
        go_wp2_with (go_at_fn F; refine hpj.mono ?_; rintro e w2 ⟨rfl, hb2⟩)
        go_ret
        refine ⟨⟨j, rfl, ?_⟩, below_then HB hsz hb2⟩
        rw [decide_eq_true (by omega), List.any_eq_true.2 ⟨l[j], List.getElem_mem _, hpr⟩]
    · have HB := Lib.hid hb
      have hany : Hid (l.any p = false) := by
        refine Lib.hid ?_
        rw [List.any_eq_false]
        intro d hd
        have e : l.take j = l := List.take_of_length_le (by omega)
        have h3 : p d = false := hno d (by rw [e]; exact hd)
        rw [h3]
        exact Bool.false_ne_true
      clear hb hno hp
      go_wp2
      go_ret
      exact ⟨⟨-1, rfl, by rw [hany]; rfl⟩, HB⟩
set_option maxRecDepth 100000 in
theorem any_plain_c (F : FuncId) (p : C → Bool) (cap : Nat) (A : Option Addr) (l : List C) (w : World) (hR : Rd w A l)
    (eg : ∀ args w, (callFunc F args).run Try.prog w = .ok (.enter F args) w)
    (hp : ∀ (d : C) (w1 : World), Below w.heap.size w w1 → Calls Try.prog F #[.agg #[.int .u32 (un d.1), .int .u32 (un d.2)]] w1 fun e w' => e = .returned (.bool (p d)) ∧ Below w1.heap.size w1 w') :
    Calls Try.prog 47 #[.slice A l.length cap, .func (.func F) #[] #[]] w fun e w' => e = .returned (.bool (l.any p)) ∧ Below w.heap.size w w' := by
  have hi := any_plain F p cap A l w hR eg hp
  clear hp
  go_enter Try.func47, Try.ntmps47
  go_wp2_with (go_at_call 73; refine hi.mono ?_; rintro e w2 ⟨⟨i, rfl, hd⟩, hb2⟩)
  go_ret
  exact ⟨by first | rfl | (rw [← hd]; rfl), hb2⟩
set_option maxRecDepth 100000 in
set_option maxHeartbeats 1000000 in
theorem any_bound (F : FuncId) (pt : Value) (p : C → Bool) (cap : Nat) (A : Option Addr) (l : List C) (w : World) (hR : Rd w A l)
    (eg : ∀ args w, (callFunc F args).run Try.prog w = .ok (.enter F args) w)
    (hp : ∀ (d : C) (w1 : World), Below w.heap.size w w1 → Calls Try.prog F #[.agg #[.int .u32 (un d.1), .int .u32 (un d.2)], pt] w1 fun e w' => e = .returned (.bool (p d)) ∧ Below w1.heap.size w1 w') :
    Calls Try.prog 73 #[.slice A l.length cap, .func (.func F) #[] #[pt]] w fun e w' =>
      (∃ i : Int, e = .returned (.int .i64 i) ∧ decide (i ≥ 0) = l.any p) ∧ Below w.heap.size w w' := by
  go_enter Try.func73, Try.ntmps73
  go_wp2
  go_loopg [8] (l.length + 1) (fun kq v8 w' => ∃ j : Nat, v8 = .int .i64 (j : Int) ∧ j ≤ l.length ∧ kq + j = l.length + 1 ∧ Hid (∀ d ∈ l.take j, p d = false) ∧ Below w.heap.size w w')
  case atStart => exact ⟨0, rfl, Nat.zero_le _, rfl, Lib.hid (by simp), Below.refl _ _⟩
  case round =>
    obtain ⟨j, rfl, hj, hk, hno, hb⟩ := hrel
    have hlen := hR.1
    by_cases hlt : j < l.length
    · obtain ⟨b0, off, rfl, h1, h2⟩ := (hR.below hb).at_ hlt
      have hpj := hp l[j] wr hb
      have hsz := hb.size
      have HB := Lib.hid hb
      cases hpr : p l[j]
      · rw [hpr] at hpj
        have HP := Lib.hid hpr
        have HN := hno
        clear hno hb hpr hp
        go_wp2_with (go_at_fn F; refine hpj.mono ?_; rintro e w2 ⟨rfl, hb2⟩)
        go_roundg (gk - 1)
        case measure => omega
        case rel =>
          refine ⟨j + 1, ?_, by omega, by omega, ?_, below_then HB hsz hb2⟩
          · simp
          · refine Lib.hid fun d hd => ?_
            rw [List.take_succ_eq_append_getElem hlt] at hd
            rcases List.mem_append.1 hd with h3 | h3
            · exact HN d h3
            · rw [List.mem_singleton.1 h3]
              exact HP
      · rw [hpr] at hpj
        clear hno hb hp
        go_wp2_with (go_at_fn F; refine hpj.mono ?_; rintro e w2 ⟨rfl, hb2⟩)
        go_ret
        refine ⟨⟨j, rfl, ?_⟩, below_then HB hsz hb2⟩
        rw [decide_eq_true (by omega), List.any_eq_true.2 ⟨l[j], List.getElem_mem _, hpr⟩]
    · have HB := Lib.hid hb
      have hany : Hid (l.any p = false) := by
        refine Lib.hid ?_
        rw [List.any_eq_false]
        intro d hd
        have e : l.take j = l := List.take_of_length_le (by omega)
        have h3 : p d = false := hno d (by rw [e]; exact hd)
        rw [h3]
        exact Bool.false_ne_true
      clear hb hno hp
      go_wp2
      go_ret
      exact ⟨⟨-1, rfl, by rw [hany]; rfl⟩, HB⟩
set_option maxRecDepth 100000 in
theorem any_bound_c (F : FuncId) (pt : Value) (p : C → Bool) (cap : Nat) (A : Option Addr) (l : List C) (w : World) (hR : Rd w A l)
    (eg : ∀ args w, (callFunc F args).run Try.prog w = .ok (.enter F args) w)
    (hp : ∀ (d : C) (w1 : World), Below w.heap.size w w1 → Calls Try.prog F #[.agg #[.int .u32 (un d.1), .int .u32 (un d.2)], pt] w1 fun e w' => e = .returned (.bool (p d)) ∧ Below w1.heap.size w1 w') :
    Calls Try.prog 47 #[.slice A l.length cap, .func (.func F) #[] #[pt]] w fun e w' => e = .returned (.bool (l.any p)) ∧ Below w.heap.size w w' := by
  have hi := any_bound F pt p cap A l w hR eg hp
  clear hp
  go_enter Try.func47, Try.ntmps47
  go_wp2_with (go_at_call 73; refine hi.mono ?_; rintro e w2 ⟨⟨i, rfl, hd⟩, hb2⟩)
  go_ret
  exact ⟨by first | rfl | (rw [← hd]; rfl), hb2⟩
end Go.Proofs.Ytahbmjpgnfgklaa
