/-
Walks: mask.in and its iterator (the set's dimensions, the lowest first; its state is in the captured variable), for every loop body.
-/
import Derived.RangeFuncNested
import Derived.RangeFuncBox
import Derived.RangeFuncCalls
import Derived.RangeFuncLeaves
import Derived.Shelf.Abstract
import Derived.OwnWalkIn
import Derived.TacticsInMore
import Derived.LoopNIn
import Derived.LoopIn
import Derived.Lib.Hide
import Derived.Test.YtidpieakofhmiaaDoorTz
namespace Go.Proofs.YtidpieakofhmiaaDoor
open Go.RowKit Go.Shelf H
attribute [local go_sem] Oper.semAt_some

/-- How many dimensions are still to come, read off the captured variable. -/
def toCome (Bs : Nat) (W : World) : Nat :=
  match W.cell? ⟨Bs, 0, none⟩ with
  | some (.int _ v) => (dims (UInt32.ofNat v.toNat)).length
  | _ => 0
theorem toCome_eq {Bs : Nat} {W : World} {t : UInt32} (h : W.cell? ⟨Bs, 0, none⟩ = some (.int .u32 (un t))) : toCome Bs W = (dims t).length := by
  unfold toCome
  rw [h]
  show (dims (UInt32.ofNat (un t).toNat)).length = _
  congr 2
  unfold un
  rw [Int.toNat_natCast]
  exact UInt32.ofNat_toNat

set_option maxRecDepth 100000 in
set_option maxHeartbeats 1000000 in
theorem in_iter (n l Bs : Nat) (s : UInt32) (hn : 1 ≤ n) (J : List Nat → World → Prop)
    (hJs : ∀ pre W v, J pre W → J pre (W.setCell ⟨Bs, 0, none⟩ v))
    (hY : ∀ pre x W, J pre W → (∃ post, dims s = pre ++ x :: post) → YieldAt Fence.wide (n - 1) Tryd.prog l #[.int .i64 (x : Nat)] W fun e W' =>
      e = .returned (.bool true) ∧ J (pre ++ [x]) W' ∧ W'.heap[Bs]? = W.heap[Bs]? ∧ W'.heap[0]? = W.heap[0]?)
    (W : World) (hB : Boxed W Bs 22 (.int .u32 (un s))) (hT : Tab W) (hne : Bs ≠ 0) (h0 : J [] W) :
    CallsIn Fence.wide n Tryd.prog 36 #[.func (.yield l) #[] #[], .pointer (some ⟨Bs, 0, none⟩)] W fun e W' => (∃ v, e = .returned v) ∧ J (dims s) W' := by
  have hc := hB.cell
  have hf := hB.frozen
  have h1 : bits .and .u32 (un s) 16777215 = un (s &&& 16777215) := by rw [un_all, un_and]
  refine callsIn_of_wp Tryd.func36 rfl trivial ?_ rfl
  simp only [Tryd.ntmps36, List.size_toArray, List.length_cons, List.length_nil, Nat.reduceAdd, Nat.reduceSub, Array.replicate_succ, Array.replicate_zero, List.push_toArray, List.append_toArray, List.nil_append, List.cons_append]
  gi_wp2
  gi_loopw [5] (fun _ wr => ∃ (pre : List Nat) (t : UInt32), r1 t = true ∧ dims s = pre ++ dims t ∧ J pre wr ∧ Boxed wr Bs 22 (.int .u32 (un t)) ∧ Tab wr)
    (fun _ wr => toCome Bs wr)
  case atStart =>
    exact ⟨[], s &&& 16777215, r1_mask s, by rw [dims_mask]; rfl, hJs _ _ _ h0, hB.set _, hT.of_block (Below.heap_setCell _ _ _ _ (Ne.symm hne))⟩
  case round =>
    obtain ⟨pre, t, hr, hd, hJ, hB1, hT1⟩ := hrel
    have hc1 := hB1.cell
    have hf1 := hB1.frozen
    by_cases ht : t = 0
    · have hz : (un t != 0) = false := by rw [ht]; decide
      have hfin : dims s = pre := by rw [hd, ht, dims_zero, List.append_nil]
      clear hd hY
      subst ht
      gi_wp2
      go_end0
      exact ⟨⟨_, rfl⟩, by rw [hfin]; exact hJ⟩
    · have hz : (un t != 0) = true := by
        rw [bne_iff_ne]
        intro e
        exact ht (un_inj.1 (e.trans un_zero))
      have hdl := dims_low ht hr
      obtain ⟨fn, tmps, assign, body, hy, hR⟩ := hY pre (low t) wr hJ ⟨dims (t &&& (t - 1)), by rw [hd, hdl]⟩
      have hsub : un t - 1 = un (t - 1) := by
        have h2 := un_range t
        have h3 : 1 ≤ t.toNat := by
          rcases Nat.eq_zero_or_pos t.toNat with e | e
          · exact absurd (UInt32.toNat_inj.1 (by rw [e]; rfl)) ht
          · exact e
        unfold un
        rw [UInt32.toNat_sub_of_le _ _ h3]
        show (t.toNat : Int) - 1 = ((t.toNat - 1 : Nat) : Int)
        omega
      have hand : bits .and .u32 (un t) (un (t - 1)) = un (t &&& (t - 1)) := un_and _ _
      have hrg := un_range t
      have hrg' : 1 ≤ un t := by
        have h2 := un_range (t - 1)
        omega
      have Hd := Lib.hid hd
      clear hd hY
      gi_wp2_with (first | (refine ⟨trivial, ?_⟩; gi_at_call 34; refine (callsIn_wide.2 (bits_tz32 t ht _ hT1)).mono ?_; rintro e w' ⟨rfl, rfl⟩))
      refine hR.mono ?_
      rintro e W3 ⟨rfl, hJ3, hk1, hk2⟩
      have hB3 : Boxed W3 Bs 22 (.int .u32 (un t)) := hk1.trans hB1
      have hT3 : Tab W3 := hT1.of_block hk2
      have hc3 := hB3.cell
      have hf3 := hB3.frozen
      clear hy hR hk1 hk2
      gi_wp2
      go_roundw
      case rel => exact ⟨pre ++ [low t], t &&& (t - 1), r1_drop_low hr, by rw [Hd.out, hdl]; simp, hJs _ _ _ hJ3, hB3.set _, hT3.of_block (Below.heap_setCell _ _ _ _ (Ne.symm hne))⟩
      case measure =>
        rw [toCome_eq (hB3.set _).cell, toCome_eq hc1, hdl]
        simp
end Go.Proofs.YtidpieakofhmiaaDoor
