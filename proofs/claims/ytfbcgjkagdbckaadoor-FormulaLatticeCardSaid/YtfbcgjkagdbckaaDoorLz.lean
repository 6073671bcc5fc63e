/-
Walk: mask.List.
-/
import Derived.Laws.Bits64b
import Derived.Laws.DeepNot64
import Derived.Test.YtfbcgjkagdbckaaDoorWd
import Derived.RangeFuncNested
import Derived.RangeFuncBox
import Derived.RangeFuncCalls
import Derived.RangeFuncLeaves
import Derived.Shelf.Abstract
import Derived.OwnWalkIn
import Derived.TacticsInMore
import Derived.LoopNIn
import Derived.LoopIn
import Derived.Lib.Hide
import Derived.RangeFuncWrites
/-! Walks: math/bits.TrailingZeros32 (the table as its initialiser lays it); mask.Free. -/
namespace Go.Proofs.YtfbcgjkagdbckaaDoor
open Go.RowKit H

/-- The library's table lies in its variable. -/
def Tab (w : World) : Prop := ∀ j, j < 32 → w.cell? ⟨3, j, none⟩ = some (.int .u8 (Lib.deBruijn32tab.getD j 0 : Nat))
theorem Tab.below {w w1 : World} (h : Tab w) (hb : Below w.heap.size w w1) : Tab w1 := fun j hj => (hb.cell (World.block_lt_of_cell? w _ (h j hj))).trans (h j hj)
theorem Tab.of_block {w w1 : World} (h : Tab w) (hb : w1.heap[3]? = w.heap[3]?) : Tab w1 := fun j hj => (World.cell?_of_block (w := w) hb).trans (h j hj)
theorem Tab.lt {w : World} (h : Tab w) : 3 < w.heap.size := World.block_lt_of_cell? w _ (h 0 (by omega))

theorem tz_key (x a : Nat) (hx : x < 4294967296) (hx0 : x ≠ 0) (hlow : x &&& (4294967296 - x) = a) :
    bits BinOp.and IntKind.u32 (x : Int) (-(x : Int) % 4294967296) * 125613361 % 4294967296 / 134217728 = ((a * 125613361 % 4294967296 / 134217728 : Nat) : Int) := by
  have e1 : -(x : Int) % 4294967296 = ((4294967296 - x : Nat) : Int) := by omega
  rw [e1, u32_and_nat x _ hx (by omega), hlow]
  omega

set_option maxHeartbeats 1000000 in
theorem tz_core (x : Int) (k idx : Nat) (w : World) (hx0 : (x == 0) = false)
    (key : bits BinOp.and IntKind.u32 x (-x % 4294967296) * 125613361 % 4294967296 / 134217728 = (idx : Int))
    (hi : idx < 32) (hk : k < 32) (hcell : w.cell? ⟨3, idx, none⟩ = some (.int .u8 k)) :
    Calls Tryd.prog 118 #[.int .u32 x] w fun e w' => e = .returned (.int .i64 k) ∧ w = w' := by
  go_enter Tryd.func118, Tryd.ntmps118
  go_wp2_with (simp only [key])
  go_ret
  exact ⟨rfl, rfl⟩

theorem bits_tz32 (s : UInt32) (hs : s ≠ 0) (w : World) (hT : Tab w) : Calls Tryd.prog 118 #[.int .u32 (un s)] w fun e w' => e = .returned (.int .i64 (low s : Nat)) ∧ w = w' := by
  have hx0 : s.toNat ≠ 0 := fun e => hs (UInt32.toNat_inj.1 (by rw [e]; rfl))
  obtain ⟨hlow, hk⟩ := Lib.lowest_bit 32 s.toNat hx0 s.toNat_lt
  obtain ⟨hi, htab⟩ := Lib.deBruijn32_at _ hk
  have hcell := hT _ hi
  rw [htab] at hcell
  have hc : Lib.ctz 32 s.toNat = low s := by unfold Lib.ctz low; rw [if_neg hx0]
  rw [← hc]
  refine tz_core (un s) _ _ w ?_ (tz_key _ _ s.toNat_lt hx0 hlow) hi hk hcell
  unfold un
  simp
  omega
end Go.Proofs.YtfbcgjkagdbckaaDoor
/-! Walks: mask.in and its iterator (the set's dimensions, the lowest first; its state is in the captured variable), for every loop body. -/
namespace Go.Proofs.YtfbcgjkagdbckaaDoor
open Go.RowKit Go.Shelf H
attribute [local go_sem] Oper.semAt_some

/-- How many dimensions are still to come, read off the captured variable. -/
def toCome (Bs : Nat) (W : World) : Nat :=
  match W.cell? ⟨Bs, 0, none⟩ with
  | some (.int _ v) => (dims (UInt32.ofNat v.toNat)).length
  | _ => 0
theorem toCome_eq {Bs : Nat} {W : World} {t : UInt32} (h : W.cell? ⟨Bs, 0, none⟩ = some (.int .u32 (un t))) : toCome Bs W = (dims t).length := by
  unfold toCome
  rw [h]
  show (dims (UInt32.ofNat (un t).toNat)).length = _
  congr 2
  unfold un
  rw [Int.toNat_natCast]
  exact UInt32.ofNat_toNat

set_option maxRecDepth 100000 in
set_option maxHeartbeats 1000000 in
theorem in_iter (n l Bs : Nat) (s : UInt32) (hn : 1 ≤ n) (J : List Nat → World → Prop)
    (hJs : ∀ pre W v, J pre W → J pre (W.setCell ⟨Bs, 0, none⟩ v))
    (hY : ∀ pre x W, J pre W → (∃ post, dims s = pre ++ x :: post) → YieldAt Fence.wide (n - 1) Tryd.prog l #[.int .i64 (x : Nat)] W fun e W' =>
      e = .returned (.bool true) ∧ J (pre ++ [x]) W' ∧ W'.heap[Bs]? = W.heap[Bs]? ∧ W'.heap[3]? = W.heap[3]?)
    (W : World) (hB : Boxed W Bs 58 (.int .u32 (un s))) (hT : Tab W) (hne : Bs ≠ 3) (h0 : J [] W) :
    CallsIn Fence.wide n Tryd.prog 117 #[.func (.yield l) #[] #[], .pointer (some ⟨Bs, 0, none⟩)] W fun e W' => (∃ v, e = .returned v) ∧ J (dims s) W' := by
  have hc := hB.cell
  have hf := hB.frozen
  have h1 : bits .and .u32 (un s) 16777215 = un (s &&& 16777215) := by rw [un_all, un_and]
  refine callsIn_of_wp Tryd.func117 rfl trivial ?_ rfl
  simp only [Tryd.ntmps117, List.size_toArray, List.length_cons, List.length_nil, Nat.reduceAdd, Nat.reduceSub, Array.replicate_succ, Array.replicate_zero, List.push_toArray, List.append_toArray, List.nil_append, List.cons_append]
  gi_wp2
  gi_loopw [5] (fun _ wr => ∃ (pre : List Nat) (t : UInt32), r1 t = true ∧ dims s = pre ++ dims t ∧ J pre wr ∧ Boxed wr Bs 58 (.int .u32 (un t)) ∧ Tab wr)
    (fun _ wr => toCome Bs wr)
  case atStart =>
    exact ⟨[], s &&& 16777215, r1_mask s, by rw [dims_mask]; rfl, hJs _ _ _ h0, hB.set _, hT.of_block (Below.heap_setCell _ _ _ _ (Ne.symm hne))⟩
  case round =>
    obtain ⟨pre, t, hr, hd, hJ, hB1, hT1⟩ := hrel
    have hc1 := hB1.cell
    have hf1 := hB1.frozen
    by_cases ht : t = 0
    · have hz : (un t != 0) = false := by rw [ht]; decide
      have hfin : dims s = pre := by rw [hd, ht, dims_zero, List.append_nil]
      clear hd hY
      subst ht
      gi_wp2
      go_end0
      exact ⟨⟨_, rfl⟩, by rw [hfin]; exact hJ⟩
    · have hz : (un t != 0) = true := by
        rw [bne_iff_ne]
        intro e
        exact ht (un_inj.1 (e.trans un_zero))
      have hdl := dims_low ht hr
      obtain ⟨fn, tmps, assign, body, hy, hR⟩ := hY pre (low t) wr hJ ⟨dims (t &&& (t - 1)), by rw [hd, hdl]⟩
      have hsub : un t - 1 = un (t - 1) := by
        have h2 := un_range t
        have h3 : 1 ≤ t.toNat := by
          rcases Nat.eq_zero_or_pos t.toNat with e | e
          · exact absurd (UInt32.toNat_inj.1 (by rw [e]; rfl)) ht
          · exact e
        unfold un
        rw [UInt32.toNat_sub_of_le _ _ h3]
        show (t.toNat : Int) - 1 = ((t.toNat - 1 : Nat) : Int)
        omega
      have hand : bits .and .u32 (un t) (un (t - 1)) = un (t &&& (t - 1)) := un_and _ _
      have hrg := un_range t
      have hrg' : 1 ≤ un t := by
        have h2 := un_range (t - 1)
        omega
      have Hd := Lib.hid hd
      clear hd hY
      gi_wp2_with (first | (refine ⟨trivial, ?_⟩; gi_at_call 118; refine (callsIn_wide.2 (bits_tz32 t ht _ hT1)).mono ?_; rintro e w' ⟨rfl, rfl⟩))
      refine hR.mono ?_
      rintro e W3 ⟨rfl, hJ3, hk1, hk2⟩
      have hB3 : Boxed W3 Bs 58 (.int .u32 (un t)) := hk1.trans hB1
      have hT3 : Tab W3 := hT1.of_block hk2
      have hc3 := hB3.cell
      have hf3 := hB3.frozen
      clear hy hR hk1 hk2
      gi_wp2
      go_roundw
      case rel => exact ⟨pre ++ [low t], t &&& (t - 1), r1_drop_low hr, by rw [Hd.out, hdl]; simp, hJs _ _ _ hJ3, hB3.set _, hT3.of_block (Below.heap_setCell _ _ _ _ (Ne.symm hne))⟩
      case measure =>
        rw [toCome_eq (hB3.set _).cell, toCome_eq hc1, hdl]
        simp
end Go.Proofs.YtfbcgjkagdbckaaDoor
/-! A loop over mask.in's iterator, for a body that never leaves; mask.in; mask.List: a slice of the call's own that holds the set's dimensions, rising. -/
namespace Go.Proofs.YtfbcgjkagdbckaaDoor
open Go.RowKit Go.Shelf H
attribute [local go_sem] Oper.semAt_some

/-- How the body of a round ends. -/
def roundEnd (B Bs : Nat) (I : List Nat → World → Prop) (xs : List Nat) (W : World) : Exit → Act → World → Prop
  | .normal, _, W' => KeepsFrom B W W' ∧ W'.heap[Bs]? = W.heap[Bs]? ∧ W'.heap[3]? = W.heap[3]? ∧ I xs W'
  | .ret, _, _ => False
  | .exit _, _, _ => False
  | .goto _, _, _ => False
  | .panic _, _, _ => False
  | .outgrown, _, _ => False

theorem range_bits {g : Operand} {ps : Array Tmp} {assign body : Code} {Q : Exit → Act → World → Prop} {a : Act} {w : World} {n Bs : Nat} {s : UInt32}
    (h2 : 2 ≤ n) (hg : a.eval g = .func (.func 117) #[] #[.pointer (some ⟨Bs, 0, none⟩)])
    (hB : Boxed w Bs 58 (.int .u32 (un s))) (hT : Tab w) (hne : Bs ≠ 3) (hps : ps.size = 1)
    (I : List Nat → World → Prop) (hI : OwnFrom w.heap.size I) (hIs : ∀ pre W v, I pre W → I pre (W.setCell ⟨Bs, 0, none⟩ v)) (h0 : I [] w) (a₁ : Nat → Act)
    (hassign : ∀ (l x : Nat) (W : World) (K : Act → World → Prop), K (a₁ x) W →
      assign.wpIn (Fence.wide.inRound l) (n - 1 - 1) Tryd.prog (Exit.then K (fun _ _ _ => False)) { tmps := (ps.zip #[.int .i64 (x : Nat)]).foldl (fun t (p, v) => t.setIfInBounds p v) a.tmps, defers := [] } W)
    (hbody : ∀ (l : Nat) (pre : List Nat) (x : Nat) (W : World), I pre W → (∃ post, dims s = pre ++ x :: post) → body.wpIn (Fence.wide.inRound l) (n - 1 - 1) Tryd.prog (roundEnd w.heap.size Bs I (pre ++ [x]) W) (a₁ x) W)
    (hdone : ∀ (D : Nat) (W : World), w.heap.size ≤ D → I (dims s) W → W.heap[D]? = some (.deferred (some [])) → Q .normal { a with defers := { target := .collected D, args := #[] } :: a.defers } W) :
    (Code.rangeFunc g ps assign body).wpIn Fence.wide n Tryd.prog Q a w := by
  refine wpIn_rangeFunc fun fn hfn => ?_
  -- the loop's record, as it stands between two rounds, in one, and behind them
  obtain ⟨rec, hrec⟩ : ∃ rec : LoopState → Loop, rec = fun st => { state := st, pending := none, fn, tmps := a.tmps, params := ps, assign, body, defers := w.heap.size } := ⟨_, rfl⟩
  obtain ⟨W1, hW1⟩ : ∃ W1, (w.alloc (.deferred (some []))).alloc (.loop (rec .ready)) = W1 := ⟨_, rfl⟩
  have hbw : Below w.heap.size w W1 := by rw [← hW1]; exact ((Below.refl _ w).alloc (Nat.le_refl _) _).alloc (by simp) _
  have hlt := hB.lt
  have hs1 : W1.heap.size = w.heap.size + 1 + 1 := by rw [← hW1]; simp
  refine ⟨w.heap.size + 1, [{ target := .collected w.heap.size, args := #[] }], W1, { target := .fn (.func 117) #[.pointer (some ⟨Bs, 0, none⟩)], args := #[.func (.yield (w.heap.size + 1)) #[] #[]] }, W1, 117,
    #[.func (.yield (w.heap.size + 1)) #[] #[]] ++ #[.pointer (some ⟨Bs, 0, none⟩)], W1, ?_, ?_, fun _ _ => trivial, ?_, fun _ => by omega, ?_⟩
  · rw [← hW1, hrec]
    exact run_enterLoop_outer _ _ _ _ _
  · simp only [resolve, hg]
    simp [go_sem]
  · simp [invoke, go_sem]
  · refine (in_iter (n - 1) (w.heap.size + 1) Bs s (by omega)
      (fun pre W => I pre W ∧ W.heap[w.heap.size + 1]? = some (.loop (rec .ready)) ∧ W.heap[w.heap.size]? = some (.deferred (some [])))
      (fun pre W v h => ⟨hIs _ _ _ h.1, (Below.heap_setCell _ _ _ _ (by show w.heap.size + 1 ≠ Bs; omega)).trans h.2.1, (Below.heap_setCell _ _ _ _ (by show w.heap.size ≠ Bs; omega)).trans h.2.2⟩)
      ?round W1 ((hbw.block Bs hlt).trans hB) (hT.below hbw) hne ⟨?_, ?_, ?_⟩).mono ?_
    case round =>
      rintro pre x W ⟨hi, hl, hk⟩ hx
      have hsz : w.heap.size + 1 < W.heap.size := (Array.getElem?_eq_some_iff.1 hl).1
      have hy := run_yield (P := Tryd.prog) (args := #[.int .i64 (x : Nat)]) hl (by rw [hrec]; exact hps.symm)
      rw [hrec] at hy
      refine ⟨fn, _, assign, body, hy, roundIn_of_wpIn hfn (hassign _ x W _ ⟨_, run_beginRound hl (by rw [hrec]), ?_⟩)⟩
      have hl2 : (W.putObj (w.heap.size + 1) (.loop { rec .ready with state := .busy })).heap[w.heap.size + 1]? = some (.loop { rec .ready with state := .busy }) := World.putObj_heap_same hsz
      refine wpIn_mono (hbody _ pre x _ (hI.putObj _ hi (by omega) hl rfl) hx) ?_
      intro e a3 W3 hp
      cases e with
      | normal =>
        obtain ⟨hk3, hs3, ht3, hi3⟩ := hp
        have hl3 := hk3.same _ _ (by omega) hl2 rfl
        have hd3 := hk3.same _ _ (Nat.le_refl _) ((World.putObj_heap_other (by omega)).trans hk) rfl
        have hT0 := hT.lt
        have hend := run_endRound (P := Tryd.prog) none hl3
        refine ⟨_, _, hend, rfl, ⟨hI.putObj _ hi3 (by omega) hl3 rfl, ?_, ?_⟩, ?_, ?_⟩
        · rw [World.putObj_heap_same (Array.getElem?_eq_some_iff.1 hl3).1, hrec]
          rfl
        · exact (World.putObj_heap_other (by omega)).trans hd3
        · rw [World.putObj_heap_other (by omega), hs3, World.putObj_heap_other (by omega)]
        · rw [World.putObj_heap_other (by omega), ht3, World.putObj_heap_other (by omega)]
      | ret => exact hp.elim
      | exit id => exact hp.elim
      | goto t => exact hp.elim
      | panic ch => exact hp.elim
      | outgrown => exact hp.elim
    · rw [← hW1]
      exact hI.alloc _ (hI.alloc _ h0)
    · rw [← hW1]
      have := World.alloc_heap_new (w.alloc (.deferred (some []))) (.loop (rec .ready))
      rwa [World.size_alloc] at this
    · rw [← hW1]
      exact (Below.heap_alloc _ _ _ (by simp)).trans (World.alloc_heap_new w _)
    · rintro e W2 ⟨⟨v, rfl⟩, hi, hl, hk⟩
      have hend := run_endLoop (P := Tryd.prog) hl (by rw [hrec]; simp)
      rw [show (rec .ready).pending = none by rw [hrec]] at hend
      exact ⟨none, _, hend, hdone _ _ (Nat.le_refl _) (hI.putObj _ hi (by omega) hl rfl) ((World.putObj_heap_other (by omega)).trans hk)⟩

theorem mask_in (s : UInt32) (n : Nat) (w : World) : CallsIn Fence.wide n Tryd.prog 93 #[.int .u32 (un s)] w fun e w' =>
    e = .returned (.func (.func 117) #[] #[.pointer (some ⟨w.heap.size, 0, none⟩)]) ∧ w' = w.alloc (.cells #[.int .u32 (un s)] 58) := by
  refine callsIn_of_wp Tryd.func93 rfl trivial ?_ rfl
  simp only [Tryd.ntmps93, List.size_toArray, List.length_cons, List.length_nil, Nat.reduceAdd, Nat.reduceSub, Array.replicate_succ, Array.replicate_zero, List.push_toArray, List.append_toArray, List.nil_append, List.cons_append]
  gi_wp2
  go_ret
  exact ⟨rfl, rfl⟩

theorem info_int : (Tryd.prog.info? 3).map (fun i => (i.zero, i.size, i.bytes)) = some (some (.int .i64 0), 1, 8) := by kernel_rfl
/-- Dimensions as values. -/
def dv (l : List Nat) : List Value := l.map fun i => .int .i64 (i : Nat)

set_option maxRecDepth 100000 in
set_option maxHeartbeats 2000000 in
theorem mask_List (s : UInt32) (w : World) (hT : Tab w) : Calls Tryd.prog 59 #[.int .u32 (un s)] w fun e w' =>
    ∃ v, e = .returned v ∧ w'.ownsRow w.heap.size 3 1 v (dims s).length (dv (dims s)) ∧ Below w.heap.size w w' := by
  obtain ⟨i0, hi, hz0, hz1, hz2⟩ := info_parts info_int
  have hlt := hT.lt
  refine (callsIn_wide (n := 4)).1 ?_
  refine callsIn_of_wp_marks Tryd.func59 rfl trivial ?_ rfl
  simp only [Tryd.ntmps59, List.size_toArray, List.length_cons, List.length_nil, Nat.reduceAdd, Nat.reduceSub, Array.replicate_succ, Array.replicate_zero, List.push_toArray, List.append_toArray, List.nil_append, List.cons_append]
  gi_wp2_with (refine ⟨trivial, ?_⟩; gi_at_call 93; refine (mask_in s _ _).mono ?_; rintro e w' ⟨rfl, rfl⟩)
  have bO := Boxed.new w 27 (.slice none 0 0)
  have bS := Boxed.new (w.alloc (.cells #[.slice none 0 0] 27)) 58 (.int .u32 (un s))
  rw [World.size_alloc] at bS
  have hB0 : Below w.heap.size w ((w.alloc (.cells #[.slice none 0 0] 27)).alloc (.cells #[.int .u32 (un s)] 58)) := ((Below.refl _ w).alloc (Nat.le_refl _) _).alloc (by simp) _
  refine range_bits (n := 4) (Bs := w.heap.size + 1) (s := s) (by omega) rfl bS (hT.below hB0) (by omega) ?hps
    (fun pre W => ((∃ v, Boxed W w.heap.size 27 v ∧ W.ownsRow w.heap.size 3 1 v pre.length (dv pre) ∧ True) ∧ ∃ t, Boxed W (w.heap.size + 1) 58 t) ∧ Below w.heap.size w W)
    ?own ?ownS ?start
    (fun x => { tmps := #[.int .u32 (un s), undef, .slice none 0 0, .pointer (some ⟨w.heap.size, 0, none⟩), .int .i64 (x : Nat), .int .u32 (un s), .func (.func 117) #[] #[.pointer (some ⟨w.heap.size + 1, 0, none⟩)], .int .i64 (x : Nat), undef, undef, undef, undef, undef], defers := [] }) ?assign ?body ?done
  case hps => rfl
  case own =>
    refine OwnFrom.and (OwnFrom.and (Own.from (holdsRow_own w.heap.size w.heap.size 27 3 1 (fun pre => pre.length) (fun pre => dv pre) (fun _ _ => True)) _) ?_) (ownFrom_below (Nat.le_refl _) (by simp; omega))
    rintro pre X Y row ⟨t, ht⟩ hg hr
    refine ⟨t, ht.kept hg fun e => ?_⟩
    obtain ⟨_, o, ho, hc⟩ := hr _ e.symm
    rw [show X.heap[w.heap.size + 1]? = _ from ht] at ho
    cases ho
    cases hc
  case ownS =>
    rintro pre W v ⟨⟨⟨u, hu, hr, _⟩, t, ht⟩, hb⟩
    have hg := grownBy_setCell' W (w.heap.size + 1) v
    exact ⟨⟨⟨u, hu.kept hg (by simp), hr.kept hg (.inr (ht.not_row (by decide) hr).symm), trivial⟩, v, ht.set v⟩, hb.setCell (p := ⟨w.heap.size + 1, 0, none⟩) (by simp) _⟩
  case start => exact ⟨⟨⟨_, bO.alloc _, World.ownsRow_nil _ _ _ _, trivial⟩, _, bS⟩, hB0⟩
  case assign =>
    intro l x W K hK
    gi_wp2
    exact hK
  case body =>
    rintro l pre x W ⟨⟨⟨v, hv, hrow, _⟩, t, ht⟩, hB⟩ ⟨post, hx⟩
    have hc := hv.cell
    have hpl : pre.length < 24 := by
      have h1 := length_dims s
      have h2 := congrArg List.length hx
      simp at h2
      omega
    clear hx
    gi_wp2_with (gi_at_builtin; refine wpListIn_append_own _ rfl _ _ 27 rfl w.heap.size 3 i0 (.int .i64 0) 1 8 Tryd.underlying27 hi hz0 hz1 hz2 rfl (by decide) _ _ _ rfl (hrow.alloc _) ⟨W.heap.size, 0, none⟩ 1 1 [.int .i64 (x : Nat)] rfl rfl (cell_one_new _ _ _) (by simp [Value.oneCell']) (by unfold maxLen; omega) (by omega) (by have := hB.size; simp; omega) ?_; intro v' w1 hown' hgrow _; obtain ⟨g', cap', rfl⟩ := ownsRow_succ hown'; obtain ⟨hv1, hv2, hr2, hk2, hb2⟩ := hv.appended (by decide) hrow hB.size (Nat.le_refl _) hown' hgrow; have hc1 := hv1.cell; have hf1 := hv1.frozen)
    have hg' : (W.alloc (.cells #[.int .i64 (x : Nat)] 3)).grownBy w1 v.ownBlock := hgrow
    have hbs : (w1.setCell ⟨w.heap.size, 0, none⟩ (.slice (some ⟨g', 0, none⟩) (pre.length + 1) cap')).heap[w.heap.size + 1]? = W.heap[w.heap.size + 1]? :=
      (Below.heap_setCell _ _ _ _ (by simp)).trans ((hg'.block _ (by have := ht.lt; simp; omega) (ht.not_row (by decide) hrow)).trans (Below.heap_alloc _ _ _ ht.lt))
    exact ⟨hk2.from _, hbs, hb2.block _ hlt, ⟨⟨⟨_, hv2, by simpa [dv] using hr2, trivial⟩, t, hbs.trans ht⟩, hB.trans hb2⟩⟩
  case done =>
    rintro D W hD ⟨⟨⟨v, hv, hrow, _⟩, _⟩, hB⟩ hK
    have hc := hv.cell
    gi_wp2
    refine ⟨by simp, .inl ⟨_, _, rfl, run_takeDeferred hK, ?_⟩⟩
    exact ⟨_, results_tmp rfl _ _ _, v, rfl, ownsRow_putObj hrow _ hK rfl, hB.trans (belowK_b (w := w) (Nat.le_refl _) W D _ _ (by simp at hD; omega) hK rfl rfl)⟩
end Go.Proofs.YtfbcgjkagdbckaaDoor
