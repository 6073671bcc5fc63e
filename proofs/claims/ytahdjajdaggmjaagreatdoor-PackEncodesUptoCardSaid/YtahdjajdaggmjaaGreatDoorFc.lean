/-
Walk: clause.Least, with its inner functions and its sort.
-/
import Derived.WalkMore
import Derived.Deep.LoopGhost
import Derived.Lib.Hide
import Derived.Test.YtahdjajdaggmjaaGreatDoorSortLay
import Derived.Maps.Own
import Derived.Maps.OwnOps
import Derived.Maps.OwnSet
import Derived.Maps.Views
import Derived.DeepKeys4
import Derived.Sort.OwnSorted
import Derived.Shelf.SlSortCmp.NoneTotal
import Derived.Below
import Derived.RangeFuncBox
import Derived.Deep.AppendLies
import Derived.Shelf.Abstract
section
namespace Go.Proofs.YtahdjajdaggmjaaGreatDoor
open Go.RowKit H
def vC (c : C) : Value := .agg #[.int .u32 (un c.1), .int .u32 (un c.2)]
structure Small : Prop where
 right : ∀ (c : C) (w : World), Calls Tryz.prog 113 #[vC c] w fun e w' => e = .returned (.bool (ok c)) ∧ Below w.heap.size w w'
 below : ∀ (a b : C) (w : World), Calls Tryz.prog 116 #[vC a, vC b] w fun e w' => e = .returned (.bool (H.below a b)) ∧ Below w.heap.size w w'
theorem eqCn (a b : C) (w : World) : (binOp .neq 113 (.agg #[.int .u32 (un a.1), .int .u32 (un a.2)]) (.agg #[.int .u32 (un b.1), .int .u32 (un b.2)])).run Tryz.prog w = .ok (.bool (!decide (a = b))) w := by
 have u3 := Tryz.underlying33
 have a3 := Tryz.isAgg33
 have z3 := Tryz.sizeOf33
 have hS : Tryz.prog.underlying 113 = some (.struct (Tryz.prog.fieldsOf 113)) := by kernel_rfl
 have hp : Tryz.prog.stoodInHeld 113 = false := by kernel_rfl
 rw [run_neq_struct, show (10000 : Nat) = 9999 + 1 from rfl, run_equalIn_agg w 9999 113 _ _ hS hp]
 simp only [Program.fieldsOf, Tryz.underlying113]
 go_simp
 obtain ⟨a1, a2⟩ := a
 obtain ⟨b1, b2⟩ := b
 by_cases h1 : a1 = b1 <;> by_cases h2 : a2 = b2 <;> simp [h1, h2, un_inj]
def At2 (w : World) (b : Nat) (c : C) : Prop := w.cell? ⟨b, 0, none⟩ = some (.int .u32 (un c.1)) ∧ w.cell? ⟨b, 1, none⟩ = some (.int .u32 (un c.2))
theorem At2.lt {w : World} {b : Nat} {c : C} (h : At2 w b c) : b < w.heap.size := World.block_lt_of_cell? w _ h.1
theorem At2.below {w w1 : World} {b : Nat} {c : C} (h : At2 w b c) (hb : Below w.heap.size w w1) : At2 w1 b c := ⟨(hb.cell h.lt).trans h.1, (hb.cell h.lt).trans h.2⟩
set_option maxRecDepth 100000 in
theorem least_pred (S : Small) (c d : C) (b : Nat) (w : World) (h : At2 w b c) : Calls Tryz.prog 115 #[vC d, .pointer (some ⟨b, 0, none⟩)] w fun e w' => e = .returned (.bool (!decide (c = d) && H.below c d)) ∧ Below w.heap.size w w' := by
 have hlt := h.lt
 have hb0 : Below w.heap.size w (w.alloc (.cells #[.int .u32 (un d.1), .int .u32 (un d.2)] 113)) := (Below.refl _ _).alloc (Nat.le_refl _) _
 have h2 := h.below hb0
 have h0 := h2.1
 have h1 := h2.2
 have he := fun w => eqCn c d w
 unfold vC
 by_cases hcd : c = d
 ·rw [decide_eq_true hcd] at he ⊢
  go_enter Tryz.func115, Tryz.ntmps115
  go_wp2_with (rw [he])
  go_ret
  exact ⟨rfl, hb0⟩
 ·have hB := S.below c d (w.alloc (.cells #[.int .u32 (un d.1), .int .u32 (un d.2)] 113))
  unfold vC at hB
  rw [decide_eq_false hcd] at he ⊢
  go_enter Tryz.func115, Tryz.ntmps115
  go_wp2_with (first | (go_at_call 116; refine hB.mono ?_; rintro e w' ⟨rfl, hb⟩) | (rw [he]))
  go_ret
  exact ⟨rfl, below_then hb0 (by simp) hb⟩
def predC (c d : C) : Bool := !decide (c = d) && H.below c d
set_option maxRecDepth 100000 in
set_option maxHeartbeats 1000000 in
theorem least_index (S : Small) (c : C) (b cap : Nat) (A : Option Addr) (l : List C) (w : World) (h : At2 w b c) (hR : Rd w A l) :
  Calls Tryz.prog 119 #[.slice A l.length cap, .func (.func 115) #[] #[.pointer (some ⟨b, 0, none⟩)]] w fun e w' =>
   (∃ i : Int, e = .returned (.int .i64 i) ∧ decide (i ≥ 0) = l.any (predC c)) ∧ Below w.heap.size w w' := by
 go_enter Tryz.func119, Tryz.ntmps119
 go_wp2
 go_loopg [8] (l.length + 1) (fun kq v8 w' => ∃ j : Nat, v8 = .int .i64 (j : Int) ∧ j ≤ l.length ∧ kq + j = l.length + 1 ∧ Hid (∀ d ∈ l.take j, predC c d = false) ∧ Below w.heap.size w w')
 case atStart => exact ⟨0, rfl, Nat.zero_le _, rfl, Lib.hid (by simp), Below.refl _ _⟩
 case round =>
  obtain ⟨j, rfl, hj, hk, hno, hb⟩ := hrel
  have hlen := hR.1
  by_cases hlt : j < l.length
  ·obtain ⟨b0, off, rfl, h1, h2⟩ := (hR.below hb).at_ hlt
   have hp := least_pred S c l[j] b wr (h.below hb)
   have hsz := hb.size
   change Calls _ _ _ _ (fun e w' => e = .returned (.bool (predC c l[j])) ∧ Below wr.heap.size wr w') at hp
   unfold vC at hp
   have HB := Lib.hid hb
   cases hpr : predC c l[j]
   ·rw [hpr] at hp
    have HP := Lib.hid hpr
    have HN := hno
    clear hno hb hpr
    go_wp2_with (go_at_call 115; refine hp.mono ?_; rintro e w2 ⟨rfl, hb2⟩)
    go_roundg (gk - 1)
    case measure => omega
    case rel =>
     refine ⟨j + 1, ?_, by omega, by omega, ?_, below_then HB hsz hb2⟩
     ·simp
     ·refine Lib.hid fun d hd => ?_
      rw [List.take_succ_eq_append_getElem hlt] at hd
      rcases List.mem_append.1 hd with h3 | h3
      ·exact HN d h3
      ·rw [List.mem_singleton.1 h3]
       exact HP
   ·rw [hpr] at hp
    clear hno hb
    go_wp2_with (go_at_call 115; refine hp.mono ?_; rintro e w2 ⟨rfl, hb2⟩)
    go_ret
    refine ⟨⟨j, rfl, ?_⟩, below_then HB hsz hb2⟩
    rw [decide_eq_true (by omega), List.any_eq_true.2 ⟨l[j], List.getElem_mem _, hpr⟩]
  ·have HB := Lib.hid hb
   have hany : Hid (l.any (predC c) = false) := by
    refine Lib.hid ?_
    rw [List.any_eq_false]
    intro d hd
    have e : l.take j = l := List.take_of_length_le (by omega)
    have h3 : predC c d = false := hno d (by rw [e]; exact hd)
    rw [h3]
    exact Bool.false_ne_true
   clear hb hno
   go_wp2
   go_ret
   exact ⟨⟨-1, rfl, by rw [hany]; rfl⟩, HB⟩
end Go.Proofs.YtahdjajdaggmjaaGreatDoor
namespace Go.Proofs.YtahdjajdaggmjaaGreatDoor
open Go.RowKit H
set_option maxRecDepth 100000 in
theorem least_contains (S : Small) (c : C) (b cap : Nat) (A : Option Addr) (l : List C) (w : World) (h : At2 w b c) (hR : Rd w A l) :
  Calls Tryz.prog 105 #[.slice A l.length cap, .func (.func 115) #[] #[.pointer (some ⟨b, 0, none⟩)]] w fun e w' =>
   e = .returned (.bool (l.any (predC c))) ∧ Below w.heap.size w w' := by
 have hi := least_index S c b cap A l w h hR
 go_enter Tryz.func105, Tryz.ntmps105
 go_wp2_with (go_at_call 119; refine hi.mono ?_; rintro e w2 ⟨⟨i, rfl, hd⟩, hb2⟩)
 go_ret
 exact ⟨by first | rfl | (rw [← hd]; rfl), hb2⟩
set_option maxRecDepth 100000 in
theorem least_needless (S : Small) (c : C) (bo cap : Nat) (A : Option Addr) (l : List C) (w : World) (h : w.cell? ⟨bo, 0, none⟩ = some (.slice A l.length cap)) (hR : Rd w A l) :
  Calls Tryz.prog 114 #[vC c, .pointer (some ⟨bo, 0, none⟩)] w fun e w' => e = .returned (.bool (l.any (predC c))) ∧ Below w.heap.size w w' := by
 have hb0 : Below w.heap.size w (w.alloc (.cells #[.int .u32 (un c.1), .int .u32 (un c.2)] 113)) := (Below.refl _ _).alloc (Nat.le_refl _) _
 have hlt := World.block_lt_of_cell? w _ h
 have hc := (hb0.cell hlt).trans h
 have hi := least_contains S c w.heap.size cap A l (w.alloc (.cells #[.int .u32 (un c.1), .int .u32 (un c.2)] 113)) ⟨World.cell?_alloc_new .., World.cell?_alloc_new ..⟩ (hR.below hb0)
 unfold vC
 go_enter Tryz.func114, Tryz.ntmps114
 go_wp2_with (go_at_call 105; refine hi.mono ?_; rintro e w2 ⟨rfl, hb2⟩)
 go_ret
 exact ⟨rfl, below_then hb0 (by simp) hb2⟩
end Go.Proofs.YtahdjajdaggmjaaGreatDoor
namespace Go.Proofs.YtahdjajdaggmjaaGreatDoor
open Go.RowKit H
open Go.Maps (Keyed)
theorem laidOutC : laidOutB Tryz.prog = true := by kernel_rfl
theorem rowC : 113 < Tryz.prog.types.size := of_decide_eq_true (by kernel_rfl)
theorem wideC : (match Tryz.prog.underlying 113 with | some (.array _ _) | some (.struct _) => true | _ => false) = true := by kernel_rfl
theorem deepC : Tryz.prog.keyTypeAt 2 113 = true := by kernel_rfl
set_option maxRecDepth 100000 in
theorem keyLawC : WideMaps.KeyLaw Tryz.prog 113 := deep_law_laid laidOutC (m := 2) (by omega) rowC deepC wideC
theorem keyedC : Keyed Tryz.prog 113 := Keyed.of_law keyLawC
def klC (c : C) : Lit := .string (keyBytes [.int .u32 (un c.1), .int .u32 (un c.2)])
theorem wf_un (x : UInt32) : (Lit.int .u32 (un x)).wf = true := by
 have := un_range x
 simp [Lit.wf, IntKind.min, IntKind.max, IntKind.bits, IntKind.signed]
 omega
theorem keyOfC (c : C) : keyOf Tryz.prog 113 (vC c) = some (klC c) := by
 have hT : Tryz.prog.keyType 113 = true := by kernel_rfl
 have hc : Tryz.prog.cellsOf 113 = 2 := by kernel_rfl
 have hc3 : Tryz.prog.cellsOf 33 = 1 := by kernel_rfl
 obtain ⟨m, hs⟩ : ∃ m, Tryz.prog.types.size + 1 = m + 1 + 1 := ⟨Tryz.prog.types.size - 1, by have := rowC; omega⟩
 have hf : (vC c).formed Tryz.prog 113 = true := by simp [vC, Value.formed, Tryz.underlying113, hc]
 have k1 : Tryz.prog.keyLits (m + 1 + 1) 113 (vC c).cells.toList = some [.int .u32 (un c.1), .int .u32 (un c.2)] := by
  unfold vC
  simp [Program.keyLits, Tryz.underlying113, Value.cells, hc, hc3, wf_un]
 unfold keyOf
 rw [Tryz.underlying113]
 simp only [hT, hf, hs, k1, Bool.and_self, if_true, Option.map_some]
 rfl
theorem klC_inj {a b : C} (h : klC a = klC b) : a = b := by
 have h1 := keyOfC a
 have h2 := keyOfC b
 rw [h] at h1
 have h3 := keyLawC.inj h1 h2
 unfold vC at h3
 simp [un_inj] at h3
 exact Prod.ext h3.1 h3.2
def Seen (w : World) (b n : Nat) (l : List C) : Prop := ∃ D : DataW Unit, w.ownsMap Tryz.prog 113 (plainElem Tryz.prog 4) b n D ∧ (∀ c, D.atKey (klC c) (.lit (.bool false)) = .lit (.bool (decide (c ∈ l)))) ∧ Maps.IsMap D
theorem Seen.made (w : World) : Seen (w.alloc (.map #[] 0)) w.heap.size 0 [] := ⟨.map [], World.ownsMap_made _ _ _ _, fun c => by simp [DataW.atKey], ⟨_, rfl⟩⟩
theorem Seen.below {w w1 : World} {b n : Nat} {l : List C} (h : Seen w b n l) (hb : Below w.heap.size w w1) : Seen w1 b n l := by
 obtain ⟨D, h1, h2, h3⟩ := h
 exact ⟨D, h1.kept ⟨hb.os, hb.tape, hb.output, hb.size, fun k hk _ => hb.block k hk⟩ (row := none) (by simp), h2, h3⟩
theorem Seen.lt {w : World} {b n : Nat} {l : List C} (h : Seen w b n l) : b < w.heap.size := by
 obtain ⟨D, h1, _⟩ := h
 exact h1.lt
theorem zeroB (w : World) : (zeroValue 4).run Tryz.prog w = .ok (.bool false) w := by kernel_rfl
theorem plainB_inv {v : Value} {x : Bool} {ps : List MemPlace} (hv : plainElem (H := Unit) Tryz.prog 4 v = some (.lit (.bool x), ps)) : v = .bool x := by
 have u4 := Tryz.underlying4
 unfold plainElem at hv
 generalize Tryz.prog.underlying 4 = d at hv u4
 subst u4
 cases v with
 | bool y =>
  simp only [Option.some.injEq, Prod.mk.injEq, DataW.lit.injEq, Lit.bool.injEq] at hv
  rw [hv.1]
 | _ => simp at hv
theorem Seen.look {w : World} {b n : Nat} {l : List C} (h : Seen w b n l) (c : C) : (Instr.lookup 153 (.map (some b)) (vC c) false).run Tryz.prog w = .ok (.bool (decide (c ∈ l))) w := by
 obtain ⟨D, h1, h2, _⟩ := h
 obtain ⟨v, ps, hrun, hv⟩ := h1.lookup keyedC Tryz.underlying153 (zeroB w) (plainElem_bool Tryz.underlying4 false) (keyOfC c)
 rw [h2 c] at hv
 rw [hrun, plainB_inv hv]
theorem Seen.put {w : World} {b n : Nat} {l : List C} (h : Seen w b n l) (hn : n < maxLen) (c : C) : ∃ w', (Instr.mapUpdate 153 (.map (some b)) (vC c) (.bool true)).run Tryz.prog w = .ok () w' ∧ Seen w' b (n + 1) (l ++ [c]) ∧ w.grownBy w' (some b) := by
 obtain ⟨D, h1, h2, h3⟩ := h
 obtain ⟨w', hrun, ho, hg⟩ := h1.update keyedC Tryz.underlying153 hn (keyOfC c) (plainElem_bool Tryz.underlying4 true)
 refine ⟨w', hrun, ⟨_, ho, fun d => ?_, ?_⟩, hg⟩
 ·by_cases e : d = c
  ·subst e
   rw [Maps.atKey_put_same h3 (keyedC.key (keyOfC d))]
   simp
  ·rw [Maps.atKey_put_other (fun h => e (klC_inj h)), h2 d]
   simp [e]
 ·exact ho.isMap
end Go.Proofs.YtahdjajdaggmjaaGreatDoor
namespace Go.Proofs.YtahdjajdaggmjaaGreatDoor
open Go.RowKit Go.Sort H
def cmpN (x y : Int) : Int := if x < y then -1 else if y < x then 1 else 0
theorem cmp_compare (x y : Int) (w : World) : Calls Tryz.prog 125 #[.int .u32 x, .int .u32 y] w fun e w' => e = .returned (.int .i64 (cmpN x y)) ∧ w' = w := by
 have hn : ∀ x W, Calls Tryz.prog 137 #[.int .u32 x] W fun e w' => e = .returned (.bool false) ∧ w' = W := fun x W => by
  go_enter Tryz.func137, Tryz.ntmps137
  go_wp2
  go_ret
  exact ⟨by simp, rfl⟩
 unfold cmpN
 by_cases h1 : x < y
 ·rw [if_pos h1]
  go_enter Tryz.func125, Tryz.ntmps125
  go_wp2_with (go_at_call 137; refine (hn _ _).mono ?_; rintro e w' ⟨rfl, rfl⟩)
  go_ret
  exact ⟨rfl, rfl⟩
 ·rw [if_neg h1]
  by_cases h2 : y < x
  ·rw [if_pos h2]
   go_enter Tryz.func125, Tryz.ntmps125
   go_wp2_with (go_at_call 137; refine (hn _ _).mono ?_; rintro e w' ⟨rfl, rfl⟩)
   go_ret
   exact ⟨rfl, rfl⟩
  ·rw [if_neg h2]
   go_enter Tryz.func125, Tryz.ntmps125
   go_wp2_with (go_at_call 137; refine (hn _ _).mono ?_; rintro e w' ⟨rfl, rfl⟩)
   go_ret
   exact ⟨rfl, rfl⟩
def cmpC (a b : C) : Int := if ltC a b = true then -1 else if ltC b a = true then 1 else 0
theorem cmpC_eq (a b : C) : cmpC a b = if a.1 = b.1 then cmpN (un a.2) (un b.2) else cmpN (un a.1) (un b.1) := by
 have e : ∀ x y : UInt32, un x < un y ↔ x.toNat < y.toNat := fun x y => by unfold un; omega
 unfold cmpC cmpN ltC
 simp only [e, decide_eq_true_eq]
 by_cases h : a.1 = b.1
 ·simp [h]
 ·have h' : ¬ b.1 = a.1 := fun h2 => h h2.symm
  simp [h, h']
theorem clause_cmp (a b : C) (w : World) : Calls Tryz.prog 118 #[vC a, vC b] w fun e w' => e = .returned (.int .i64 (cmpC a b)) ∧ ∃ q os', w' = grow (w.drewN q) os' := by
 have hc := cmp_compare
 rw [cmpC_eq]
 unfold vC
 by_cases h : a.1 = b.1
 ·have hn : (un a.1 != un b.1) = false := by rw [h]; simp
  rw [if_pos h]
  have hcon := hc (un a.2) (un b.2)
  generalize cmpN (un a.2) (un b.2) = r at hcon ⊢
  clear hc
  go_enter Tryz.func118, Tryz.ntmps118
  go_wp2_with (go_at_call 125; refine (hcon _).mono ?_; rintro e w' ⟨rfl, rfl⟩)
  go_ret
  exact ⟨rfl, 0, _, by rw [alloc_eq_grow, alloc_eq_grow, grow_grow]; rfl⟩
 ·have hn : (un a.1 != un b.1) = true := by
   rw [bne_iff_ne]
   exact fun e => h (un_inj.1 e)
  rw [if_neg h]
  have hcon := hc (un a.1) (un b.1)
  generalize cmpN (un a.1) (un b.1) = r at hcon ⊢
  clear hc
  go_enter Tryz.func118, Tryz.ntmps118
  go_wp2_with (go_at_call 125; refine (hcon _).mono ?_; rintro e w' ⟨rfl, rfl⟩)
  go_ret
  exact ⟨rfl, 0, _, by rw [alloc_eq_grow, alloc_eq_grow, grow_grow]; rfl⟩
end Go.Proofs.YtahdjajdaggmjaaGreatDoor
namespace Go.Proofs.YtahdjajdaggmjaaGreatDoor
open Go.RowKit H
open Go.Sort hiding Below
theorem ltOf_cmpC : Go.Proofs.ltOf cmpC = ltC := by
 funext a b
 unfold Go.Proofs.ltOf cmpC
 cases h : ltC a b
 ·by_cases h2 : ltC b a = true <;> simp [h2]
 ·simp
theorem flatK_cc (l : List C) : flatK cc 2 l.toArray = (flat l).toArray := by
 apply Array.ext
 ·rw [size_flatK]
  simp [flat_length]
 ·intro i h1 h2
  rw [size_flatK] at h1
  simp only [List.size_toArray] at h1 h2
  have hj : i / 2 < l.length := by omega
  obtain ⟨g0, g1⟩ := flat_get l (i / 2) hj
  have e1 : (flatK cc 2 l.toArray)[i]'(by rw [size_flatK]; simpa using h1) = (cc (l.toArray[i / 2]!))[i % 2]! := by
   unfold flatK
   simp
  rw [e1]
  have e2 : l.toArray[i / 2]! = l[i / 2] := by simp [hj]
  rw [e2]
  simp only [List.getElem_toArray]
  rcases Nat.mod_two_eq_zero_or_one i with h | h
  ·have e : i / 2 * 2 = i := by omega
   rw [e] at g0
   have := (List.getElem?_eq_some_iff.1 g0).2
   rw [this, h]
   rfl
  ·have e : i / 2 * 2 + 1 = i := by omega
   rw [e] at g1
   have := (List.getElem?_eq_some_iff.1 g1).2
   rw [this, h]
   rfl
theorem holdsF {w : World} {g : Nat} {cur : Array Value} {e : TypeId} {F : List Value} (hb : w.heap[g]? = some (.cells cur e (0, 0))) (ht : cur.toList.take F.length = F) : Holds id w g 0 F.toArray := by
 intro j hj
 have hj' : j < F.length := by simpa using hj
 refine ⟨?_, by simp [World.frozen?, hb]⟩
 have h1 : (cur.toList.take F.length)[j]? = F[j]? := by rw [ht]
 rw [List.getElem?_take_of_lt hj'] at h1
 simp only [World.cell?, hb, Nat.zero_add]
 simp only [Option.isSome_none, Bool.false_eq_true, if_false]
 rw [← Array.getElem?_toList, h1]
 simp [hj']
theorem heapF {w : World} {g n : Nat} {os : Array Obj} {cur : Array Value} {e : TypeId} {fr : Nat × Nat} (d : Array Value) (hb : w.heap[g]? = some (.cells cur e fr)) :
  (grow (putRow id (Sort.ahead w n) g 0 d) os).heap[g]? = some (.cells (putCells id 0 d cur) e fr) := by
 have hg : g < w.heap.size := (Array.getElem?_eq_some_iff.1 hb).1
 rw [heap_grow_old _ _ (by simpa using hg)]
 simp [putRow, mapBlock, Sort.ahead, Array.getElem?_modify, hb, onCells]
theorem grownF {w : World} {g n : Nat} {os : Array Obj} (d : Array Value) : w.grownBy (grow (putRow id (Sort.ahead w n) g 0 d) os) (some g) := by
 refine ⟨rfl, rfl, rfl, by simp, fun k hk hne => ?_⟩
 rw [heap_grow_old _ _ (by simpa using hk)]
 have : g ≠ k := fun e => hne (by rw [e])
 simp [putRow, mapBlock, Sort.ahead, Array.getElem?_modify, this]
theorem takeF (cur : Array Value) (F : List Value) (h : F.length ≤ cur.size) : (putCells id 0 F.toArray cur).toList.take F.length = F := by
 apply List.ext_getElem?
 intro j
 by_cases hj : j < F.length
 ·rw [List.getElem?_take_of_lt hj, Array.getElem?_toList]
  simp [putCells, hj, show j < cur.size by omega]
 ·rw [List.getElem?_take_eq_none (by omega), List.getElem?_eq_none (by omega)]
theorem swo_ltC : SWO ltC where
 irrefl := ltC_irrefl
 trans _ _ _ := ltC_trans
 ntrans x y z h1 h2 := by
  cases h3 : ltC x z
  ·rfl
  ·by_cases e : x = y
   ·subst e; rw [h3] at h2; cases h2
   ·rcases ltC_total e with h4 | h4
    ·rw [h4] at h1; cases h1
    ·rw [ltC_trans h4 h3] at h2; cases h2
theorem total_ltC (x y : C) (h1 : ltC x y = false) (h2 : ltC y x = false) : x = y := by
 by_cases e : x = y
 ·exact e
 ·rcases ltC_total e with h | h
  ·rw [h] at h1; cases h1
  ·rw [h] at h2; cases h2
theorem sort_own (l : List C) (v : Value) (base : Nat) (w : World) (h : Own w base v l) :
  Calls Tryz.prog 117 #[v, .func (.func 118) #[] #[]] w fun e w' => e = .returned (.tuple #[]) ∧ Own w' base v (sortC l) ∧ Below base w w' := by
 rcases h.1.2 with ⟨rfl, h0⟩ | ⟨g, cap, cur, rfl, hbase, hb, h1, h2, h3, h4⟩
 ·have hl : l = [] := List.eq_nil_of_length_eq_zero h0
  subst hl
  refine (Go.Proofs.AnyF.slices_SortFunc_none (P := Tryz.prog) (ρ := Tryz.sortC_ren) { Tryz.sortC with } none 0 _ w).mono ?_
  rintro e w' ⟨rfl, rfl⟩
  have e : sortC [] = [] := by simp [sortC]
  rw [e]
  exact ⟨rfl, h, Below.refl _ _⟩
 ·have hglt : g < w.heap.size := (Array.getElem?_eq_some_iff.1 hb).1
  have hH : HoldsK cc 2 w g 0 l.toArray := by
   unfold HoldsK
   rw [flatK_cc]
   exact holdsF hb (by rw [flat_length]; exact h4)
  have eg : ∀ args w, (callFunc 118 args).run Tryz.prog w = .ok (.enter 118 args) w := enters_of Tryz.func118 (by kernel_rfl) rfl
  have hO : SWO (Go.Proofs.ltOf cmpC) := by
   rw [ltOf_cmpC]
   exact swo_ltC
  have hT : ∀ x y, (Go.Proofs.ltOf cmpC) x y = false → (Go.Proofs.ltOf cmpC) y x = false → x = y := by
   rw [ltOf_cmpC]
   exact total_ltC
  have hs := h.2
  refine (Go.Proofs.AnyQ.slices_SortFunc_total (P := Tryz.prog) (ρ := Tryz.sortC_ren) Tryz.sortC 2 Tryz.isAgg113 Tryz.sizeOf113 cc (fun _ => rfl) (fun x u hu => by simp [cc] at hu; rcases hu with rfl | rfl <;> rfl) cmpC hO
   118 #[] g 0 cap l.toArray w eg (fun _ _ _ _ x y => clause_cmp x y _) hH hglt (by simp; omega) hT).mono ?_
  rintro e w' ⟨rfl, n, os, rfl⟩
  rw [ltOf_cmpC]
  have hsl := length_sortC l
  change _ ∧ Own (grow (putRow id (Sort.ahead w n) g 0 (flatK cc 2 (sortC l).toArray)) os) _ _ _ ∧ Below base w (grow (putRow id (Sort.ahead w n) g 0 (flatK cc 2 (sortC l).toArray)) os)
  rw [flatK_cc]
  have hg := grownF (w := w) (g := g) (n := n) (os := os) (flat (sortC l)).toArray
  refine ⟨rfl, ⟨⟨by rw [flat_length], .inr ⟨g, cap, _, by rw [hsl], hbase, heapF _ hb, by omega, h2, by simp [putCells, h3], ?_⟩⟩, by omega⟩, ?_⟩
  ·have := takeF cur (flat (sortC l)) (by rw [flat_length, h3, hsl]; exact Nat.mul_le_mul_right _ h1)
   rw [flat_length] at this
   exact this
  ·exact ⟨hg.os, hg.tape, hg.output, hg.size, fun k hk => hg.block k (by have := hg.size; omega) (by simp; omega)⟩
end Go.Proofs.YtahdjajdaggmjaaGreatDoor
namespace Go.Proofs.YtahdjajdaggmjaaGreatDoor
open Go.RowKit H
theorem Own.kept {w w1 : World} {base : Nat} {v : Value} {l : List C} {row : Option Nat} (h : Own w base v l) (hg : w.grownBy w1 row) (hne : v.ownBlock = none ∨ v.ownBlock ≠ row) : Own w1 base v l := ⟨h.1.kept hg hne, h.2⟩
theorem At2.kept {w w1 : World} {b : Nat} {c : C} {row : Option Nat} (h : At2 w b c) (hg : w.grownBy w1 row) (hne : some b ≠ row) : At2 w1 b c := by
 have e := hg.block b h.lt hne
 exact ⟨(World.cell?_of_block (w := w) e).trans h.1, (World.cell?_of_block (w := w) e).trans h.2⟩
theorem Own.ne_block {w : World} {base : Nat} {v : Value} {l : List C} (h : Own w base v l) {b : Nat} (hb : b < base) : some b ≠ v.ownBlock := by
 rcases h.1.2 with ⟨rfl, _⟩ | ⟨g, cap, cur, rfl, hg, _⟩
 ·simp [Value.ownBlock]
 ·simp [Value.ownBlock]; omega
structure Inv1 (w0 w : World) (l : List C) (j : Nat) : Prop where
 seen : ∃ n, n ≤ j ∧ Seen w w0.heap.size n (dd (l.take j))
 out : ∃ vo, Boxed w (w0.heap.size + 1) 45 vo ∧ Own w (w0.heap.size + 2) vo (dd (l.take j))
 bel : Below w0.heap.size w0 w
 size : w0.heap.size + 2 ≤ w.heap.size
theorem Inv1.below {w0 w w1 : World} {l : List C} {j : Nat} (h : Inv1 w0 w l j) (hb : Below w.heap.size w w1) : Inv1 w0 w1 l j := by
 obtain ⟨⟨n, hn, hs⟩, ⟨vo, hbx, ho⟩, hbel, hsz⟩ := h
 have hbl := hb.size
 exact ⟨⟨n, hn, hs.below hb⟩, ⟨vo, (hb.block _ hbx.lt).trans hbx, ho.below hb⟩, below_then hbel (by omega) hb, by omega⟩
theorem Inv1.start (w : World) (l : List C) : Inv1 w ((w.alloc (.map #[] 0)).alloc (.cells #[.slice none 0 0] 45)) l 0 := by
 have hb1 : Below w.heap.size w (w.alloc (.map #[] 0)) := (Below.refl _ _).alloc (Nat.le_refl _) _
 have hb2 : Below (w.alloc (.map #[] 0)).heap.size (w.alloc (.map #[] 0)) ((w.alloc (.map #[] 0)).alloc (.cells #[.slice none 0 0] 45)) := (Below.refl _ _).alloc (Nat.le_refl _) _
 have bx := Boxed.new (w.alloc (.map #[] 0)) 45 (.slice none 0 0)
 rw [World.size_alloc] at bx
 exact ⟨⟨0, Nat.le_refl _, (Seen.made w).below hb2⟩, ⟨_, bx, Own.nil _ _⟩, below_then hb1 (by simp) hb2, by simp⟩
theorem Inv1.boxed {w0 w w2 : World} {l : List C} {j : Nat} (h : Inv1 w0 w l j) {c : C}
  (hb : Below (w.alloc (.cells #[.int .u32 (un c.1), .int .u32 (un c.2)] 113)).heap.size (w.alloc (.cells #[.int .u32 (un c.1), .int .u32 (un c.2)] 113)) w2) : At2 w2 w.heap.size c ∧ Inv1 w0 w2 l j ∧ w.heap.size < w2.heap.size := by
 have h1 : Below w.heap.size w (w.alloc (.cells #[.int .u32 (un c.1), .int .u32 (un c.2)] 113)) := (Below.refl _ _).alloc (Nat.le_refl _) _
 have h2 : At2 (w.alloc (.cells #[.int .u32 (un c.1), .int .u32 (un c.2)] 113)) w.heap.size c := ⟨World.cell?_alloc_new .., World.cell?_alloc_new ..⟩
 have := hb.size
 exact ⟨h2.below hb, h.below (below_then h1 (by simp) hb), by simp at this; omega⟩
theorem Inv1.look {w0 w : World} {l : List C} {j : Nat} (h : Inv1 w0 w l j) (c : C) : (Instr.lookup 153 (.map (some w0.heap.size)) (.agg #[.int .u32 (un c.1), .int .u32 (un c.2)]) false).run Tryz.prog w = .ok (.bool (decide (c ∈ dd (l.take j)))) w := by
 obtain ⟨⟨n, _, hs⟩, _⟩ := h
 exact hs.look c
theorem Inv1.skip {w0 w : World} {l : List C} {j : Nat} (h : Inv1 w0 w l j) (hj : j < l.length) (hm : l[j] ∈ dd (l.take j)) : Inv1 w0 w l (j + 1) := by
 obtain ⟨⟨n, hn, hs⟩, ⟨vo, hbx, ho⟩, hbel, hsz⟩ := h
 have e : dd (l.take (j + 1)) = dd (l.take j) := by rw [dd_take_succ l j hj, if_pos hm]
 exact ⟨⟨n, by omega, by rw [e]; exact hs⟩, ⟨vo, hbx, by rw [e]; exact ho⟩, hbel, hsz⟩
theorem Inv1.put {w0 w : World} {l : List C} {j b : Nat} (h : Inv1 w0 w l j) (hj : j < 1000000) {c : C} (hA : At2 w b c) (hb : w0.heap.size + 2 ≤ b) :
  ∃ w3 n vo, (Instr.mapUpdate 153 (.map (some w0.heap.size)) (.agg #[.int .u32 (un c.1), .int .u32 (un c.2)]) (.bool true)).run Tryz.prog w = .ok () w3 ∧ n ≤ j + 1 ∧ Seen w3 w0.heap.size n (dd (l.take j) ++ [c]) ∧
   Boxed w3 (w0.heap.size + 1) 45 vo ∧ Own w3 (w0.heap.size + 2) vo (dd (l.take j)) ∧ At2 w3 b c ∧ Below w0.heap.size w0 w3 ∧ w0.heap.size + 2 ≤ w3.heap.size := by
 obtain ⟨⟨n, hn, hs⟩, ⟨vo, hbx, ho⟩, hbel, hsz⟩ := h
 obtain ⟨w3, hrun, hs3, hg⟩ := hs.put (by unfold maxLen; omega) c
 have hsz3 := hg.size
 refine ⟨w3, n + 1, vo, hrun, by omega, hs3, hbx.kept hg (by simp), ho.kept hg (.inr (ho.ne_block (by omega)).symm), hA.kept hg (by simp; omega), hbel.trans ?_, by omega⟩
 exact ⟨hg.os, hg.tape, hg.output, hg.size, fun k hk => hg.block k (by omega) (by simp; omega)⟩
theorem infoC : ∃ i, Tryz.prog.info? 113 = some i ∧ i.zero = some (.agg #[.int .u32 0, .int .u32 0]) ∧ i.size = 2 ∧ i.bytes = 8 := by
 have h : (Tryz.prog.info? 113).map (fun i => (i.zero, i.size, i.bytes)) = some (some (.agg #[.int .u32 0, .int .u32 0]), 2, 8) := by kernel_rfl
 obtain ⟨i, hi, he⟩ := Option.map_eq_some_iff.1 h
 simp only [Prod.mk.injEq] at he
 exact ⟨i, hi, he.1, he.2.1, he.2.2⟩
theorem Inv1.next {w0 w3 w4 : World} {l : List C} {j n : Nat} {vo v' : Value} {tmp : Obj} (hj : j < l.length) (hm : l[j] ∉ dd (l.take j)) (hlen : l.length ≤ 1000000) (hn : n ≤ j + 1) (hs : Seen w3 w0.heap.size n (dd (l.take j) ++ [l[j]]))
  (hbx : Boxed w3 (w0.heap.size + 1) 45 vo) (ho : Own w3 (w0.heap.size + 2) vo (dd (l.take j))) (hbel : Below w0.heap.size w0 w3) (hsz : w0.heap.size + 2 ≤ w3.heap.size)
  (hown : w4.ownsRow (w0.heap.size + 2) 113 2 v' ((dd (l.take j)).length + 1) (flat (dd (l.take j)) ++ [.int .u32 (un l[j].1), .int .u32 (un l[j].2)])) (hg : (w3.alloc tmp).grownBy w4 vo.ownBlock) :
  Boxed w4 (w0.heap.size + 1) 45 vo ∧ Inv1 w0 (w4.setCell ⟨w0.heap.size + 1, 0, none⟩ v') l (j + 1) := by
 have e : dd (l.take (j + 1)) = dd (l.take j) ++ [l[j]] := by rw [dd_take_succ l j hj, if_neg hm]
 have hle : (dd (l.take j)).length ≤ j := Nat.le_trans (length_dd _) (by rw [List.length_take]; omega)
 have hne : some (w0.heap.size + 1) ≠ vo.ownBlock := ho.ne_block (by omega)
 have hne0 : some w0.heap.size ≠ vo.ownBlock := ho.ne_block (by omega)
 have hbx4 : Boxed w4 (w0.heap.size + 1) 45 vo := (hbx.alloc tmp).kept hg hne
 have hs3 : Seen w4 w0.heap.size n (dd (l.take j) ++ [l[j]]) := by
  obtain ⟨D, h1, h2, h3⟩ := hs
  exact ⟨D, (h1.alloc tmp).kept hg hne0, h2, h3⟩
 have hgs := grownBy_setCell' w4 (w0.heap.size + 1) v'
 have hs5 : Seen (w4.setCell ⟨w0.heap.size + 1, 0, none⟩ v') w0.heap.size n (dd (l.take j) ++ [l[j]]) := by
  obtain ⟨D, h1, h2, h3⟩ := hs3
  exact ⟨D, h1.kept hgs (by simp), h2, h3⟩
 have hown4 : Own w4 (w0.heap.size + 2) v' (dd (l.take j) ++ [l[j]]) := ⟨by rw [List.length_append, List.length_singleton, flat_snoc]; exact hown, by rw [List.length_append, List.length_singleton]; omega⟩
 have hb4 := hg.size
 rw [World.size_alloc] at hb4
 have hb5 := hgs.size
 refine ⟨hbx4, ⟨n, hn, by rw [e]; exact hs5⟩, ⟨v', hbx4.set v', by rw [e]; exact hown4.kept hgs (.inr (hown4.ne_block (by omega)).symm)⟩, ?_, by omega⟩
 have b1 : Below w0.heap.size w3 (w3.alloc tmp) := (Below.refl _ _).alloc (by omega) _
 have b2 : Below w0.heap.size (w3.alloc tmp) w4 := ⟨hg.os, hg.tape, hg.output, hg.size, fun k hk => hg.block k (by simp; omega) (ho.ne_block (by omega))⟩
 have b3 : Below w0.heap.size w4 (w4.setCell ⟨w0.heap.size + 1, 0, none⟩ v') := ⟨hgs.os, hgs.tape, hgs.output, hgs.size, fun k hk => hgs.block k (by omega) (by simp; omega)⟩
 exact ((hbel.trans b1).trans b2).trans b3
theorem cells2_new (w : World) (x y : Value) (t : TypeId) : ∀ (j : Nat) (u : Value), ([x, y] : List Value)[j]? = some u → (w.alloc (.cells #[x, y] t)).cell? ((⟨w.heap.size, 0, none⟩ : Addr).add j) = some u := by
 intro j u h
 match j, h with
 | 0, h => cases h; exact World.cell?_alloc_new ..
 | 1, h => cases h; exact World.cell?_alloc_new ..
 | j + 2, h => simp at h
theorem any_predC (l : List C) (c : C) : l.any (predC c) = needless l c := by
 unfold needless predC
 congr 1
 funext d
 by_cases h : c = d <;> simp [h]
def kept2 (D : List C) (j : Nat) : List C := (D.take j).filter fun c => !needless D c
theorem kept2_length (D : List C) (j : Nat) : (kept2 D j).length ≤ D.length := Nat.le_trans (List.length_filter_le _ _) (by rw [List.length_take]; omega)
theorem kept2_all (D : List C) {j : Nat} (h : D.length ≤ j) : kept2 D j = D.filter fun c => !needless D c := by
 unfold kept2
 rw [List.take_of_length_le h]
theorem kept2_skip {D : List C} {j : Nat} (hj : j < D.length) (h : needless D D[j] = true) : kept2 D (j + 1) = kept2 D j := by
 unfold kept2
 rw [List.take_succ_eq_append_getElem hj, List.filter_append]
 simp [h]
theorem kept2_put {D : List C} {j : Nat} (hj : j < D.length) (h : needless D D[j] = false) : kept2 D (j + 1) = kept2 D j ++ [D[j]] := by
 unfold kept2
 rw [List.take_succ_eq_append_getElem hj, List.filter_append]
 simp [h]
structure Inv2 (w1 w : World) (v : Value) (D : List C) (j : Nat) : Prop where
 own : Own w w1.heap.size v (kept2 D j)
 bel : Below w1.heap.size w1 w
theorem Inv2.start (w1 : World) (D : List C) : Inv2 w1 w1 (.slice none 0 0) D 0 := ⟨Own.nil _ _, Below.refl _ _⟩
theorem Inv2.boxed {w1 w w2 : World} {v : Value} {D : List C} {j : Nat} (h : Inv2 w1 w v D j) {c : C}
  (hb : Below (w.alloc (.cells #[.int .u32 (un c.1), .int .u32 (un c.2)] 113)).heap.size (w.alloc (.cells #[.int .u32 (un c.1), .int .u32 (un c.2)] 113)) w2) : At2 w2 w.heap.size c ∧ Inv2 w1 w2 v D j := by
 have h1 : Below w.heap.size w (w.alloc (.cells #[.int .u32 (un c.1), .int .u32 (un c.2)] 113)) := (Below.refl _ _).alloc (Nat.le_refl _) _
 have h2 : At2 (w.alloc (.cells #[.int .u32 (un c.1), .int .u32 (un c.2)] 113)) w.heap.size c := ⟨World.cell?_alloc_new .., World.cell?_alloc_new ..⟩
 have h3 : Below w.heap.size w w2 := below_then h1 (by simp) hb
 exact ⟨h2.below hb, h.own.below h3, below_then h.bel h.bel.size h3⟩
theorem Inv2.skip {w1 w : World} {v : Value} {D : List C} {j : Nat} (h : Inv2 w1 w v D j) (hj : j < D.length) (hn : needless D D[j] = true) : Inv2 w1 w v D (j + 1) := ⟨by rw [kept2_skip hj hn]; exact h.own, h.bel⟩
theorem Inv2.next {w1 w3 w4 : World} {D : List C} {j : Nat} {vo v' : Value} {tmp : Obj} (h : Inv2 w1 w3 vo D j) (hlen : D.length ≤ 1000000) (hj : j < D.length) (hn : needless D D[j] = false)
  (hown : w4.ownsRow w1.heap.size 113 2 v' ((kept2 D j).length + 1) (flat (kept2 D j) ++ [.int .u32 (un D[j].1), .int .u32 (un D[j].2)])) (hg : (w3.alloc tmp).grownBy w4 vo.ownBlock) : Inv2 w1 w4 v' D (j + 1) := by
 have hl := kept2_length D j
 have hsz := h.bel.size
 have b1 : Below w1.heap.size w3 (w3.alloc tmp) := (Below.refl _ _).alloc hsz _
 have b2 : Below w1.heap.size (w3.alloc tmp) w4 := ⟨hg.os, hg.tape, hg.output, hg.size, fun k hk => hg.block k (by simp; omega) (h.own.ne_block hk)⟩
 refine ⟨?_, (h.bel.trans b1).trans b2⟩
 rw [kept2_put hj hn]
 exact ⟨by rw [List.length_append, List.length_singleton, flat_snoc]; exact hown, by rw [List.length_append, List.length_singleton]; omega⟩
theorem Inv2.need (S : Small) {w1 w : World} {v : Value} {D : List C} {j bo c0 : Nat} {A : Option Addr} (h : Inv2 w1 w v D j) (hbx : Boxed w1 bo 45 (.slice A D.length c0)) (hRd : Rd w1 A D) (c : C) :
  Calls Tryz.prog 114 #[.agg #[.int .u32 (un c.1), .int .u32 (un c.2)], .pointer (some ⟨bo, 0, none⟩)] (w.alloc (.cells #[.int .u32 (un c.1), .int .u32 (un c.2)] 113)) fun e w' =>
   e = .returned (.bool (needless D c)) ∧ Below (w.alloc (.cells #[.int .u32 (un c.1), .int .u32 (un c.2)] 113)).heap.size (w.alloc (.cells #[.int .u32 (un c.1), .int .u32 (un c.2)] 113)) w' := by
 have h1 : Below w.heap.size w (w.alloc (.cells #[.int .u32 (un c.1), .int .u32 (un c.2)] 113)) := (Below.refl _ _).alloc (Nat.le_refl _) _
 have h2 := below_then h.bel h.bel.size h1
 have hbx2 : Boxed (w.alloc (.cells #[.int .u32 (un c.1), .int .u32 (un c.2)] 113)) bo 45 (.slice A D.length c0) := (h2.block _ hbx.lt).trans hbx
 have := least_needless S c bo c0 A D _ hbx2.cell (hRd.below h2)
 rw [any_predC] at this
 exact this
end Go.Proofs.YtahdjajdaggmjaaGreatDoor
namespace Go.Proofs.YtahdjajdaggmjaaGreatDoor
open Go.RowKit H
set_option maxRecDepth 100000 in
set_option maxHeartbeats 4000000 in
theorem cl_Least (S : Small) (A : Option Addr) (cap : Nat) (l : List C) (w : World) (hR : Rd w A l) (hlen : l.length ≤ 1000000) :
  Calls Tryz.prog 103 #[.slice A l.length cap] w fun e w' => ∃ v, e = .returned (.tuple #[v, .int .i64 (least l).2]) ∧ Own w' w.heap.size v (least l).1 ∧ Below w.heap.size w w' := by
 have hmm := @run_makeMap Tryz.prog
 go_enter Tryz.func103, Tryz.ntmps103
 go_wp2
 clear hmm
 go_loopg [15] (l.length + 1) (fun kq v15 w' => ∃ j : Nat, v15 = .int .i64 (j : Int) ∧ j ≤ l.length ∧ kq + j = l.length + 1 ∧ Hid (∀ d ∈ l.take j, ok d = true) ∧ Inv1 w w' l j)
 case atStart =>
  exact ⟨0, rfl, Nat.zero_le _, rfl, Lib.hid (by simp), Inv1.start w l⟩
 case round =>
  obtain ⟨j, rfl, hj, hk, hok, hI⟩ := hrel
  by_cases hlt : j < l.length
  ·obtain ⟨b0, off, rfl, h1, h2⟩ := (hR.below hI.bel).at_ hlt
   have hr := S.right l[j]
   unfold vC at hr
   have HI := Lib.hid hI
   have HOK := hok
   have hsz := hI.size
   clear hok hI
   cases hokj : ok l[j]
   ·rw [hokj] at hr
    have hle : Hid (least l = ([], 2)) := by
     refine Lib.hid ?_
     have : l.all ok = false := by
      rw [List.all_eq_false]
      exact ⟨l[j], List.getElem_mem _, by rw [hokj]; exact Bool.false_ne_true⟩
     unfold least
     rw [this]
     rfl
    clear hokj
    go_wp2_with (go_at_call 113; refine (hr _).mono ?_; rintro e w2 ⟨rfl, hb2⟩)
    go_ret2
    rw [hle]
    exact ⟨_, rfl, Own.nil _ _, (HI.boxed hb2).2.1.bel⟩
   ·rw [hokj] at hr
    have HO := Lib.hid hokj
    clear hokj
    by_cases hmem : l[j] ∈ dd (l.take j)
    ·have HM := Lib.hid hmem
     clear hmem
     go_wp2_with (go_at_call 113; refine (hr _).mono ?_; rintro e w2 ⟨rfl, hb2⟩; obtain ⟨hA2, hI2, hlt2⟩ := HI.boxed hb2; have hc0 := hA2.1; have hc1 := hA2.2; have hlook := hI2.look l[j]; rw [decide_eq_true (show l[j] ∈ dd (l.take j) from HM)] at hlook)
     go_roundg (gk - 1)
     case measure => omega
     case rel =>
      refine ⟨j + 1, by simp, by omega, by omega, Lib.hid fun d hd => ?_, hI2.skip hlt HM⟩
      rw [List.take_succ_eq_append_getElem hlt] at hd
      rcases List.mem_append.1 hd with h3 | h3
      ·exact HOK d h3
      ·rw [List.mem_singleton.1 h3]
       exact HO
    ·have HM := Lib.hid hmem
     clear hmem
     obtain ⟨iC, hiC, hzC, hsC, hbC⟩ := infoC
     go_wp2_with (first
      | (go_at_call 113; refine (hr _).mono ?_; rintro e w2 ⟨rfl, hb2⟩; obtain ⟨hA2, hI2, hlt2⟩ := HI.boxed hb2; have hc0 := hA2.1; have hc1 := hA2.2; have hlook := hI2.look l[j]; rw [decide_eq_false (show l[j] ∉ dd (l.take j) from HM)] at hlook; obtain ⟨w3, n, vo, hput, hn, hs3, hbx3, ho3, hA3, hbel3, hsz3⟩ := hI2.put (by omega) hA2 hsz; have hd0 := hA3.1; have hd1 := hA3.2; have hx0 := hbx3.cell)
      | (at_builtin; refine wpList_append_own _ rfl _ _ 45 rfl (w.heap.size + 2) 113 iC (.agg #[.int .u32 0, .int .u32 0]) 2 8 Tryz.underlying45 hiC hzC hsC hbC rfl (by decide) _ _ _ rfl (ho3.1.alloc _) ⟨w3.heap.size, 0, none⟩ 1 1 [.int .u32 (un l[j].1), .int .u32 (un l[j].2)] rfl rfl (cells2_new _ _ _ _) (by simp [Value.oneCell']) (by have := Nat.le_trans (length_dd (l.take j)) (List.length_take_le j l); unfold maxLen; omega) (by have := Nat.le_trans (length_dd (l.take j)) (List.length_take_le j l); omega) (by simp; omega) ?_; intro v' w4 hown hgrow _; obtain ⟨g', cap', rfl⟩ := ownsRow_succ hown; obtain ⟨hbx4, hI4⟩ := Inv1.next hlt HM hlen hn hs3 hbx3 ho3 hbel3 hsz3 hown hgrow; have hc4 := hbx4.cell; have hf4 := hbx4.frozen))
     go_roundg (gk - 1)
     case measure => omega
     case rel =>
      refine ⟨j + 1, by simp, by omega, by omega, Lib.hid fun d hd => ?_, hI4⟩
      rw [List.take_succ_eq_append_getElem hlt] at hd
      rcases List.mem_append.1 hd with h3 | h3
      ·exact HOK d h3
      ·rw [List.mem_singleton.1 h3]
       exact HO
  ·obtain ⟨_, ⟨vo, hbx, ho⟩, hbel, hsz⟩ := hI
   have ejl : l.take j = l := List.take_of_length_le (by omega)
   have hall : l.all ok = true := by
    rw [List.all_eq_true]
    intro d hd
    exact hok d (by rw [ejl]; exact hd)
   rw [ejl] at ho
   have hDlen := Nat.le_trans (length_dd l) hlen
   have hleast : Hid (least l = if (keep l).length ≤ 64 then (sortC (keep l), 0) else ([], 3)) := by
    refine Lib.hid ?_
    unfold least
    rw [hall, if_pos rfl]
   have hkeep : Hid (keep l = (dd l).filter fun c => !needless (dd l) c) := Lib.hid rfl
   obtain ⟨A0, c0, rfl, hRd⟩ := ho.slice
   have hx := hbx.cell
   clear hok ejl hall ho
   generalize dd l = D at *
   generalize keep l = K at *
   go_wp2
   rename World => w1
   go_loopg [9, 36] (D.length + 1) (fun kq v9 v36 w' => ∃ j2 : Nat, v36 = .int .i64 (j2 : Int) ∧ j2 ≤ D.length ∧ kq + j2 = D.length + 1 ∧ Inv2 w1 w' v9 D j2)
   case atStart => exact ⟨0, rfl, Nat.zero_le _, by omega, Inv2.start _ _⟩
   case round =>
    clear hx
    obtain ⟨j2, rfl, hj2, hk2, hI2⟩ := hrel
    by_cases hlt2 : j2 < D.length
    ·obtain ⟨b0, off, rfl, h1, h2⟩ := (hRd.below hI2.bel).at_ hlt2
     have hn := hI2.need S hbx hRd D[j2]
     have HI := Lib.hid hI2
     clear hI2
     cases hneed : needless D D[j2]
     ·rw [hneed] at hn
      have HN := Lib.hid hneed
      clear hneed
      obtain ⟨iC, hiC, hzC, hsC, hbC⟩ := infoC
      have hkl := kept2_length D j2
      go_wp2_with (first
       | (go_at_call 114; refine hn.mono ?_; rintro e w2 ⟨rfl, hb2⟩; obtain ⟨hA2, hI3⟩ := HI.boxed hb2; have hc0 := hA2.1; have hc1 := hA2.2; have hbs := hI3.bel.size)
       | (at_builtin; refine wpList_append_own _ rfl _ _ 45 rfl w1.heap.size 113 iC (.agg #[.int .u32 0, .int .u32 0]) 2 8 Tryz.underlying45 hiC hzC hsC hbC rfl (by decide) _ _ _ rfl (hI3.own.1.alloc _) ⟨w2.heap.size, 0, none⟩ 1 1 [.int .u32 (un D[j2].1), .int .u32 (un D[j2].2)] rfl rfl (cells2_new _ _ _ _) (by simp [Value.oneCell']) (by unfold maxLen; omega) (by omega) (by simp; omega) ?_; intro v' w4 hown hgrow _; have hI4 := Inv2.next hI3 hDlen hlt2 HN hown hgrow))
      go_roundg (gk - 1)
      case measure => omega
      case rel => exact ⟨j2 + 1, by simp, by omega, by omega, hI4⟩
     ·rw [hneed] at hn
      have HN := Lib.hid hneed
      clear hneed
      go_wp2_with (go_at_call 114; refine hn.mono ?_; rintro e w2 ⟨rfl, hb2⟩; obtain ⟨hA2, hI3⟩ := HI.boxed hb2)
      go_roundg (gk - 1)
      case measure => omega
      case rel => exact ⟨j2 + 1, by simp, by omega, by omega, hI3.skip hlt2 HN⟩
    ·have hfin := kept2_all D (j := j2) (by omega)
     obtain ⟨hown, hbel2⟩ := hI2
     rw [hfin, ← (show K = _ from hkeep)] at hown
     obtain ⟨A9, c9, rfl, hR9⟩ := hown.slice
     have hbs := hbel.size
     have hb12 := below_then hbel hbs hbel2
     have hown' := hown.mono (base' := w.heap.size) (by omega)
     clear hfin
     by_cases hbig : K.length ≤ 64
     ·have HB := Lib.hid hbig
      go_wp2_with (go_at_call 117; refine (sort_own _ _ _ _ hown').mono ?_; rintro e w2 ⟨rfl, hown2, hb3⟩)
      go_ret2
      rw [show least l = _ from hleast, if_pos (show K.length ≤ 64 from HB)]
      exact ⟨_, rfl, hown2, hb12.trans hb3⟩
     ·have HB := Lib.hid hbig
      go_wp2
      go_ret2
      rw [show least l = _ from hleast, if_neg (show ¬ K.length ≤ 64 from HB)]
      exact ⟨_, rfl, Own.nil _ _, hb12⟩
set_option maxRecDepth 100000 in
set_option maxHeartbeats 1000000 in
theorem any_plain (F : FuncId) (p : C → Bool) (cap : Nat) (A : Option Addr) (l : List C) (w : World) (hR : Rd w A l)
  (eg : ∀ args w, (callFunc F args).run Tryz.prog w = .ok (.enter F args) w)
  (hp : ∀ (d : C) (w1 : World), Below w.heap.size w w1 → Calls Tryz.prog F #[.agg #[.int .u32 (un d.1), .int .u32 (un d.2)]] w1 fun e w' => e = .returned (.bool (p d)) ∧ Below w1.heap.size w1 w') :
  Calls Tryz.prog 119 #[.slice A l.length cap, .func (.func F) #[] #[]] w fun e w' =>
   (∃ i : Int, e = .returned (.int .i64 i) ∧ decide (i ≥ 0) = l.any p) ∧ Below w.heap.size w w' := by
 go_enter Tryz.func119, Tryz.ntmps119
 go_wp2
 go_loopg [8] (l.length + 1) (fun kq v8 w' => ∃ j : Nat, v8 = .int .i64 (j : Int) ∧ j ≤ l.length ∧ kq + j = l.length + 1 ∧ Hid (∀ d ∈ l.take j, p d = false) ∧ Below w.heap.size w w')
 case atStart => exact ⟨0, rfl, Nat.zero_le _, rfl, Lib.hid (by simp), Below.refl _ _⟩
 case round =>
  obtain ⟨j, rfl, hj, hk, hno, hb⟩ := hrel
  have hlen := hR.1
  by_cases hlt : j < l.length
  ·obtain ⟨b0, off, rfl, h1, h2⟩ := (hR.below hb).at_ hlt
   have hpj := hp l[j] wr hb
   have hsz := hb.size
   have HB := Lib.hid hb
   cases hpr : p l[j]
   ·rw [hpr] at hpj
    have HP := Lib.hid hpr
    have HN := hno
    clear hno hb hpr hp
    go_wp2_with (go_at_fn F; refine hpj.mono ?_; rintro e w2 ⟨rfl, hb2⟩)
    go_roundg (gk - 1)
    case measure => omega
    case rel =>
     refine ⟨j + 1, ?_, by omega, by omega, ?_, below_then HB hsz hb2⟩
     ·simp
     ·refine Lib.hid fun d hd => ?_
      rw [List.take_succ_eq_append_getElem hlt] at hd
      rcases List.mem_append.1 hd with h3 | h3
      ·exact HN d h3
      ·rw [List.mem_singleton.1 h3]
       exact HP
   ·rw [hpr] at hpj
    clear hno hb hp
    go_wp2_with (go_at_fn F; refine hpj.mono ?_; rintro e w2 ⟨rfl, hb2⟩)
    go_ret
    refine ⟨⟨j, rfl, ?_⟩, below_then HB hsz hb2⟩
    rw [decide_eq_true (by omega), List.any_eq_true.2 ⟨l[j], List.getElem_mem _, hpr⟩]
  ·have HB := Lib.hid hb
   have hany : Hid (l.any p = false) := by
    refine Lib.hid ?_
    rw [List.any_eq_false]
    intro d hd
    have e : l.take j = l := List.take_of_length_le (by omega)
    have h3 : p d = false := hno d (by rw [e]; exact hd)
    rw [h3]
    exact Bool.false_ne_true
   clear hb hno hp
   go_wp2
   go_ret
   exact ⟨⟨-1, rfl, by rw [hany]; rfl⟩, HB⟩
set_option maxRecDepth 100000 in
theorem any_plain_c (F : FuncId) (p : C → Bool) (cap : Nat) (A : Option Addr) (l : List C) (w : World) (hR : Rd w A l)
  (eg : ∀ args w, (callFunc F args).run Tryz.prog w = .ok (.enter F args) w)
  (hp : ∀ (d : C) (w1 : World), Below w.heap.size w w1 → Calls Tryz.prog F #[.agg #[.int .u32 (un d.1), .int .u32 (un d.2)]] w1 fun e w' => e = .returned (.bool (p d)) ∧ Below w1.heap.size w1 w') :
  Calls Tryz.prog 105 #[.slice A l.length cap, .func (.func F) #[] #[]] w fun e w' => e = .returned (.bool (l.any p)) ∧ Below w.heap.size w w' := by
 have hi := any_plain F p cap A l w hR eg hp
 clear hp
 go_enter Tryz.func105, Tryz.ntmps105
 go_wp2_with (go_at_call 119; refine hi.mono ?_; rintro e w2 ⟨⟨i, rfl, hd⟩, hb2⟩)
 go_ret
 exact ⟨by first | rfl | (rw [← hd]; rfl), hb2⟩
end Go.Proofs.YtahdjajdaggmjaaGreatDoor
namespace Go.Proofs.YtahdjajdaggmjaaGreatDoor
open Go.RowKit H
structure SmallF : Prop extends Small where
 clash : ∀ (c : C) (w : World), Calls Tryz.prog 106 #[.agg #[.int .u32 (un c.1), .int .u32 (un c.2)]] w fun e w' => e = .returned (.bool (H.clash c)) ∧ Below w.heap.size w w'
 meet : ∀ (a b : C) (w : World), Calls Tryz.prog 122 #[.agg #[.int .u32 (un a.1), .int .u32 (un a.2)], .agg #[.int .u32 (un b.1), .int .u32 (un b.2)]] w fun e w' => e = .returned (.agg #[.int .u32 (un (H.meet a b).1), .int .u32 (un (H.meet a b).2)]) ∧ Below w.heap.size w w'
 fright : ∀ (A : Option Addr) (cap : Nat) (l : List C) (w : World), Rd w A l → l.length ≤ cap → l.length ≤ 1000000 → Calls Tryz.prog 87 #[.slice A l.length cap] w fun e w' => e = .returned (.bool (H.right l)) ∧ Below w.heap.size w w'
def faceR (l : List C) : Bool := H.right l && !l.any H.clash
set_option maxRecDepth 100000 in
theorem fa_Right (S : SmallF) (A : Option Addr) (cap : Nat) (l : List C) (w : World) (hR : Rd w A l) (hcp : l.length ≤ cap) (hl : l.length ≤ 1000000) :
  Calls Tryz.prog 88 #[.slice A l.length cap] w fun e w' => e = .returned (.bool (faceR l)) ∧ Below w.heap.size w w' := by
 have h1 := S.fright A cap l w hR hcp hl
 have eg : ∀ args w, (callFunc 106 args).run Tryz.prog w = .ok (.enter 106 args) w := enters_of Tryz.func106 (by kernel_rfl) rfl
 have h2 : ∀ w1, Below w.heap.size w w1 → Calls Tryz.prog 105 #[.slice A l.length cap, .func (.func 106) #[] #[]] w1 fun e w' => e = .returned (.bool (l.any H.clash)) ∧ Below w1.heap.size w1 w' :=
  fun w1 hb => any_plain_c 106 H.clash cap A l w1 (hR.below hb) eg fun d w2 _ => S.clash d w2
 clear eg
 unfold faceR
 cases h : H.right l
 ·rw [h] at h1
  clear h2
  go_enter Tryz.func88, Tryz.ntmps88
  go_wp2_with (go_at_call 87; refine h1.mono ?_; rintro e w2 ⟨rfl, hb2⟩)
  go_ret
  exact ⟨rfl, hb2⟩
 ·rw [h] at h1
  go_enter Tryz.func88, Tryz.ntmps88
  go_wp2_with (first | (go_at_call 87; refine h1.mono ?_; rintro e w2 ⟨rfl, hb2⟩) | (go_at_call 105; refine (h2 _ hb2).mono ?_; rintro e w3 ⟨rfl, hb3⟩))
  go_ret
  exact ⟨rfl, below_then hb2 hb2.size hb3⟩
end Go.Proofs.YtahdjajdaggmjaaGreatDoor
namespace Go.Proofs.YtahdjajdaggmjaaGreatDoor
open Go.RowKit H
end Go.Proofs.YtahdjajdaggmjaaGreatDoor
end
