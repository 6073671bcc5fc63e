/-
Walks: slices' functions of a function of a clause; face.Right, face.under, face.keep.
-/
import Derived.WalkMore
import Derived.Deep.LoopGhost
import Derived.Lib.Hide
import Derived.Shelf.Abstract
import Derived.Test.YtahdjajdaggmjaaDoorLst
/-! Walks: slices.IndexFunc and slices.ContainsFunc of clauses, for any function of one clause whose contract is known: one that captures nothing, one that captures a variable. -/
namespace Go.Proofs.YtahdjajdaggmjaaDoor
open Go.RowKit H

set_option maxRecDepth 100000 in
set_option maxHeartbeats 1000000 in
theorem any_plain (F : FuncId) (p : C → Bool) (cap : Nat) (A : Option Addr) (l : List C) (w : World) (hR : Rd w A l)
    (eg : ∀ args w, (callFunc F args).run Tryd.prog w = .ok (.enter F args) w)
    (hp : ∀ (d : C) (w1 : World), Below w.heap.size w w1 → Calls Tryd.prog F #[.agg #[.int .u32 (un d.1), .int .u32 (un d.2)]] w1 fun e w' => e = .returned (.bool (p d)) ∧ Below w1.heap.size w1 w') :
    Calls Tryd.prog 72 #[.slice A l.length cap, .func (.func F) #[] #[]] w fun e w' =>
      (∃ i : Int, e = .returned (.int .i64 i) ∧ decide (i ≥ 0) = l.any p) ∧ Below w.heap.size w w' := by
  go_enter Tryd.func72, Tryd.ntmps72
  go_wp2
  go_loopg [8] (l.length + 1) (fun kq v8 w' => ∃ j : Nat, v8 = .int .i64 (j : Int) ∧ j ≤ l.length ∧ kq + j = l.length + 1 ∧ Hid (∀ d ∈ l.take j, p d = false) ∧ Below w.heap.size w w')
  case atStart => exact ⟨0, rfl, Nat.zero_le _, rfl, Lib.hid (by simp), Below.refl _ _⟩
  case round =>
    obtain ⟨j, rfl, hj, hk, hno, hb⟩ := hrel
    have hlen := hR.1
    by_cases hlt : j < l.length
    · obtain ⟨b0, off, rfl, h1, h2⟩ := (hR.below hb).at_ hlt
      have hpj := hp l[j] wr hb
      have hsz := hb.size
      have HB := Lib.hid hb
      cases hpr : p l[j]
      · rw [hpr] at hpj
        have HP := Lib.hid hpr
        have HN := hno
        clear hno hb hpr hp
        go_wp2_with (go_at_fn F; refine hpj.mono ?_; rintro e w2 ⟨rfl, hb2⟩)
        go_roundg (gk - 1)
        case measure => omega
        case rel =>
          refine ⟨j + 1, ?_, by omega, by omega, ?_, below_then HB hsz hb2⟩
          · simp
          · refine Lib.hid fun d hd => ?_
            rw [List.take_succ_eq_append_getElem hlt] at hd
            rcases List.mem_append.1 hd with h3 | h3
            · exact HN d h3
            · rw [List.mem_singleton.1 h3]
              exact HP
      · rw [hpr] at hpj
        clear hno hb hp
        go_wp2_with (go_at_fn F; refine hpj.mono ?_; rintro e w2 ⟨rfl, hb2⟩)
        go_ret
        refine ⟨⟨j, rfl, ?_⟩, below_then HB hsz hb2⟩
        rw [decide_eq_true (by omega), List.any_eq_true.2 ⟨l[j], List.getElem_mem _, hpr⟩]
    · have HB := Lib.hid hb
      have hany : Hid (l.any p = false) := by
        refine Lib.hid ?_
        rw [List.any_eq_false]
        intro d hd
        have e : l.take j = l := List.take_of_length_le (by omega)
        have h3 : p d = false := hno d (by rw [e]; exact hd)
        rw [h3]
        exact Bool.false_ne_true
      clear hb hno hp
      go_wp2
      go_ret
      exact ⟨⟨-1, rfl, by rw [hany]; rfl⟩, HB⟩
set_option maxRecDepth 100000 in
theorem any_plain_c (F : FuncId) (p : C → Bool) (cap : Nat) (A : Option Addr) (l : List C) (w : World) (hR : Rd w A l)
    (eg : ∀ args w, (callFunc F args).run Tryd.prog w = .ok (.enter F args) w)
    (hp : ∀ (d : C) (w1 : World), Below w.heap.size w w1 → Calls Tryd.prog F #[.agg #[.int .u32 (un d.1), .int .u32 (un d.2)]] w1 fun e w' => e = .returned (.bool (p d)) ∧ Below w1.heap.size w1 w') :
    Calls Tryd.prog 61 #[.slice A l.length cap, .func (.func F) #[] #[]] w fun e w' => e = .returned (.bool (l.any p)) ∧ Below w.heap.size w w' := by
  have hi := any_plain F p cap A l w hR eg hp
  clear hp
  go_enter Tryd.func61, Tryd.ntmps61
  go_wp2_with (go_at_call 72; refine hi.mono ?_; rintro e w2 ⟨⟨i, rfl, hd⟩, hb2⟩)
  go_ret
  exact ⟨by first | rfl | (rw [← hd]; rfl), hb2⟩
end Go.Proofs.YtahdjajdaggmjaaDoor
/-! Walks of face's small functions: face.Right. -/
namespace Go.Proofs.YtahdjajdaggmjaaDoor
open Go.RowKit H

/-- What these walks ask of the functions that the print takes. -/
structure SmallF : Prop extends Small where
  clash : ∀ (c : C) (w : World), Calls Tryd.prog 62 #[.agg #[.int .u32 (un c.1), .int .u32 (un c.2)]] w fun e w' => e = .returned (.bool (H.clash c)) ∧ Below w.heap.size w w'
  meet : ∀ (a b : C) (w : World), Calls Tryd.prog 75 #[.agg #[.int .u32 (un a.1), .int .u32 (un a.2)], .agg #[.int .u32 (un b.1), .int .u32 (un b.2)]] w fun e w' => e = .returned (.agg #[.int .u32 (un (H.meet a b).1), .int .u32 (un (H.meet a b).2)]) ∧ Below w.heap.size w w'
  fright : ∀ (A : Option Addr) (cap : Nat) (l : List C) (w : World), Rd w A l → l.length ≤ cap → l.length ≤ 1000000 → Calls Tryd.prog 48 #[.slice A l.length cap] w fun e w' => e = .returned (.bool (H.right l)) ∧ Below w.heap.size w w'

/-- A face: right, and no clause of it clashes. -/
def faceR (l : List C) : Bool := H.right l && !l.any H.clash
set_option maxRecDepth 100000 in
theorem face_Right (S : SmallF) (A : Option Addr) (cap : Nat) (l : List C) (w : World) (hR : Rd w A l) (hcp : l.length ≤ cap) (hl : l.length ≤ 1000000) :
    Calls Tryd.prog 49 #[.slice A l.length cap] w fun e w' => e = .returned (.bool (faceR l)) ∧ Below w.heap.size w w' := by
  have h1 := S.fright A cap l w hR hcp hl
  have eg : ∀ args w, (callFunc 62 args).run Tryd.prog w = .ok (.enter 62 args) w := enters_of Tryd.func62 (by kernel_rfl) rfl
  have h2 : ∀ w1, Below w.heap.size w w1 → Calls Tryd.prog 61 #[.slice A l.length cap, .func (.func 62) #[] #[]] w1 fun e w' => e = .returned (.bool (l.any H.clash)) ∧ Below w1.heap.size w1 w' :=
    fun w1 hb => any_plain_c 62 H.clash cap A l w1 (hR.below hb) eg fun d w2 _ => S.clash d w2
  clear eg
  unfold faceR
  cases h : H.right l
  · rw [h] at h1
    clear h2
    go_enter Tryd.func49, Tryd.ntmps49
    go_wp2_with (go_at_call 48; refine h1.mono ?_; rintro e w2 ⟨rfl, hb2⟩)
    go_ret
    exact ⟨rfl, hb2⟩
  · rw [h] at h1
    go_enter Tryd.func49, Tryd.ntmps49
    go_wp2_with (first | (go_at_call 48; refine h1.mono ?_; rintro e w2 ⟨rfl, hb2⟩) | (go_at_call 61; refine (h2 _ hb2).mono ?_; rintro e w3 ⟨rfl, hb3⟩))
    go_ret
    exact ⟨rfl, below_then hb2 hb2.size hb3⟩

end Go.Proofs.YtahdjajdaggmjaaDoor
/-! Walk: face.keep, for any function of a clause that captures one variable or none. -/
namespace Go.Proofs.YtahdjajdaggmjaaDoor
open Go.RowKit H

end Go.Proofs.YtahdjajdaggmjaaDoor
