/-
A loop over mask.in's iterator, for a body that never leaves; mask.in; mask.List: a slice of the call's own that holds the set's dimensions, rising.
-/
import Derived.RangeFuncWrites
import Derived.Test.YtidpieakofhmiaaDoorIter
namespace Go.Proofs.YtidpieakofhmiaaDoor
open Go.RowKit Go.Shelf H
attribute [local go_sem] Oper.semAt_some

/-- How the body of a round ends. -/
def roundEnd (B Bs : Nat) (I : List Nat → World → Prop) (xs : List Nat) (W : World) : Exit → Act → World → Prop
  | .normal, _, W' => KeepsFrom B W W' ∧ W'.heap[Bs]? = W.heap[Bs]? ∧ W'.heap[0]? = W.heap[0]? ∧ I xs W'
  | .ret, _, _ => False
  | .exit _, _, _ => False
  | .goto _, _, _ => False
  | .panic _, _, _ => False
  | .outgrown, _, _ => False

theorem range_bits {g : Operand} {ps : Array Tmp} {assign body : Code} {Q : Exit → Act → World → Prop} {a : Act} {w : World} {n Bs : Nat} {s : UInt32}
    (h2 : 2 ≤ n) (hg : a.eval g = .func (.func 36) #[] #[.pointer (some ⟨Bs, 0, none⟩)])
    (hB : Boxed w Bs 22 (.int .u32 (un s))) (hT : Tab w) (hne : Bs ≠ 0) (hps : ps.size = 1)
    (I : List Nat → World → Prop) (hI : OwnFrom w.heap.size I) (hIs : ∀ pre W v, I pre W → I pre (W.setCell ⟨Bs, 0, none⟩ v)) (h0 : I [] w) (a₁ : Nat → Act)
    (hassign : ∀ (l x : Nat) (W : World) (K : Act → World → Prop), K (a₁ x) W →
      assign.wpIn (Fence.wide.inRound l) (n - 1 - 1) Tryd.prog (Exit.then K (fun _ _ _ => False)) { tmps := (ps.zip #[.int .i64 (x : Nat)]).foldl (fun t (p, v) => t.setIfInBounds p v) a.tmps, defers := [] } W)
    (hbody : ∀ (l : Nat) (pre : List Nat) (x : Nat) (W : World), I pre W → (∃ post, dims s = pre ++ x :: post) → body.wpIn (Fence.wide.inRound l) (n - 1 - 1) Tryd.prog (roundEnd w.heap.size Bs I (pre ++ [x]) W) (a₁ x) W)
    (hdone : ∀ (D : Nat) (W : World), w.heap.size ≤ D → I (dims s) W → W.heap[D]? = some (.deferred (some [])) → Q .normal { a with defers := { target := .collected D, args := #[] } :: a.defers } W) :
    (Code.rangeFunc g ps assign body).wpIn Fence.wide n Tryd.prog Q a w := by
  refine wpIn_rangeFunc fun fn hfn => ?_
  -- the loop's record, as it stands between two rounds, in one, and behind them
  obtain ⟨rec, hrec⟩ : ∃ rec : LoopState → Loop, rec = fun st => { state := st, pending := none, fn, tmps := a.tmps, params := ps, assign, body, defers := w.heap.size } := ⟨_, rfl⟩
  obtain ⟨W1, hW1⟩ : ∃ W1, (w.alloc (.deferred (some []))).alloc (.loop (rec .ready)) = W1 := ⟨_, rfl⟩
  have hbw : Below w.heap.size w W1 := by rw [← hW1]; exact ((Below.refl _ w).alloc (Nat.le_refl _) _).alloc (by simp) _
  have hlt := hB.lt
  have hs1 : W1.heap.size = w.heap.size + 1 + 1 := by rw [← hW1]; simp
  refine ⟨w.heap.size + 1, [{ target := .collected w.heap.size, args := #[] }], W1, { target := .fn (.func 36) #[.pointer (some ⟨Bs, 0, none⟩)], args := #[.func (.yield (w.heap.size + 1)) #[] #[]] }, W1, 36,
    #[.func (.yield (w.heap.size + 1)) #[] #[]] ++ #[.pointer (some ⟨Bs, 0, none⟩)], W1, ?_, ?_, fun _ _ => trivial, ?_, fun _ => by omega, ?_⟩
  · rw [← hW1, hrec]
    exact run_enterLoop_outer _ _ _ _ _
  · simp only [resolve, hg]
    simp [go_sem]
  · simp [invoke, go_sem]
  · refine (in_iter (n - 1) (w.heap.size + 1) Bs s (by omega)
      (fun pre W => I pre W ∧ W.heap[w.heap.size + 1]? = some (.loop (rec .ready)) ∧ W.heap[w.heap.size]? = some (.deferred (some [])))
      (fun pre W v h => ⟨hIs _ _ _ h.1, (Below.heap_setCell _ _ _ _ (by show w.heap.size + 1 ≠ Bs; omega)).trans h.2.1, (Below.heap_setCell _ _ _ _ (by show w.heap.size ≠ Bs; omega)).trans h.2.2⟩)
      ?round W1 ((hbw.block Bs hlt).trans hB) (hT.below hbw) hne ⟨?_, ?_, ?_⟩).mono ?_
    case round =>
      rintro pre x W ⟨hi, hl, hk⟩ hx
      have hsz : w.heap.size + 1 < W.heap.size := (Array.getElem?_eq_some_iff.1 hl).1
      have hy := run_yield (P := Tryd.prog) (args := #[.int .i64 (x : Nat)]) hl (by rw [hrec]; exact hps.symm)
      rw [hrec] at hy
      refine ⟨fn, _, assign, body, hy, roundIn_of_wpIn hfn (hassign _ x W _ ⟨_, run_beginRound hl (by rw [hrec]), ?_⟩)⟩
      have hl2 : (W.putObj (w.heap.size + 1) (.loop { rec .ready with state := .busy })).heap[w.heap.size + 1]? = some (.loop { rec .ready with state := .busy }) := World.putObj_heap_same hsz
      refine wpIn_mono (hbody _ pre x _ (hI.putObj _ hi (by omega) hl rfl) hx) ?_
      intro e a3 W3 hp
      cases e with
      | normal =>
        obtain ⟨hk3, hs3, ht3, hi3⟩ := hp
        have hl3 := hk3.same _ _ (by omega) hl2 rfl
        have hd3 := hk3.same _ _ (Nat.le_refl _) ((World.putObj_heap_other (by omega)).trans hk) rfl
        have hT0 := hT.lt
        have hend := run_endRound (P := Tryd.prog) none hl3
        refine ⟨_, _, hend, rfl, ⟨hI.putObj _ hi3 (by omega) hl3 rfl, ?_, ?_⟩, ?_, ?_⟩
        · rw [World.putObj_heap_same (Array.getElem?_eq_some_iff.1 hl3).1, hrec]
          rfl
        · exact (World.putObj_heap_other (by omega)).trans hd3
        · rw [World.putObj_heap_other (by omega), hs3, World.putObj_heap_other (by omega)]
        · rw [World.putObj_heap_other (by omega), ht3, World.putObj_heap_other (by omega)]
      | ret => exact hp.elim
      | exit id => exact hp.elim
      | goto t => exact hp.elim
      | panic ch => exact hp.elim
      | outgrown => exact hp.elim
    · rw [← hW1]
      exact hI.alloc _ (hI.alloc _ h0)
    · rw [← hW1]
      have := World.alloc_heap_new (w.alloc (.deferred (some []))) (.loop (rec .ready))
      rwa [World.size_alloc] at this
    · rw [← hW1]
      exact (Below.heap_alloc _ _ _ (by simp)).trans (World.alloc_heap_new w _)
    · rintro e W2 ⟨⟨v, rfl⟩, hi, hl, hk⟩
      have hend := run_endLoop (P := Tryd.prog) hl (by rw [hrec]; simp)
      rw [show (rec .ready).pending = none by rw [hrec]] at hend
      exact ⟨none, _, hend, hdone _ _ (Nat.le_refl _) (hI.putObj _ hi (by omega) hl rfl) ((World.putObj_heap_other (by omega)).trans hk)⟩

theorem mask_in (s : UInt32) (n : Nat) (w : World) : CallsIn Fence.wide n Tryd.prog 33 #[.int .u32 (un s)] w fun e w' =>
    e = .returned (.func (.func 36) #[] #[.pointer (some ⟨w.heap.size, 0, none⟩)]) ∧ w' = w.alloc (.cells #[.int .u32 (un s)] 22) := by
  refine callsIn_of_wp Tryd.func33 rfl trivial ?_ rfl
  simp only [Tryd.ntmps33, List.size_toArray, List.length_cons, List.length_nil, Nat.reduceAdd, Nat.reduceSub, Array.replicate_succ, Array.replicate_zero, List.push_toArray, List.append_toArray, List.nil_append, List.cons_append]
  gi_wp2
  go_ret
  exact ⟨rfl, rfl⟩

theorem info_int : (Tryd.prog.info? 3).map (fun i => (i.zero, i.size, i.bytes)) = some (some (.int .i64 0), 1, 8) := by kernel_rfl
/-- Dimensions as values. -/
def dv (l : List Nat) : List Value := l.map fun i => .int .i64 (i : Nat)

set_option maxRecDepth 100000 in
set_option maxHeartbeats 2000000 in
theorem mask_List (s : UInt32) (w : World) (hT : Tab w) : Calls Tryd.prog 18 #[.int .u32 (un s)] w fun e w' =>
    ∃ v, e = .returned v ∧ w'.ownsRow w.heap.size 3 1 v (dims s).length (dv (dims s)) ∧ Below w.heap.size w w' := by
  obtain ⟨i0, hi, hz0, hz1, hz2⟩ := info_parts info_int
  have hlt := hT.lt
  refine (callsIn_wide (n := 4)).1 ?_
  refine callsIn_of_wp_marks Tryd.func18 rfl trivial ?_ rfl
  simp only [Tryd.ntmps18, List.size_toArray, List.length_cons, List.length_nil, Nat.reduceAdd, Nat.reduceSub, Array.replicate_succ, Array.replicate_zero, List.push_toArray, List.append_toArray, List.nil_append, List.cons_append]
  gi_wp2_with (refine ⟨trivial, ?_⟩; gi_at_call 33; refine (mask_in s _ _).mono ?_; rintro e w' ⟨rfl, rfl⟩)
  have bO := Boxed.new w 33 (.slice none 0 0)
  have bS := Boxed.new (w.alloc (.cells #[.slice none 0 0] 33)) 22 (.int .u32 (un s))
  rw [World.size_alloc] at bS
  have hB0 : Below w.heap.size w ((w.alloc (.cells #[.slice none 0 0] 33)).alloc (.cells #[.int .u32 (un s)] 22)) := ((Below.refl _ w).alloc (Nat.le_refl _) _).alloc (by simp) _
  refine range_bits (n := 4) (Bs := w.heap.size + 1) (s := s) (by omega) rfl bS (hT.below hB0) (by omega) ?hps
    (fun pre W => ((∃ v, Boxed W w.heap.size 33 v ∧ W.ownsRow w.heap.size 3 1 v pre.length (dv pre) ∧ True) ∧ ∃ t, Boxed W (w.heap.size + 1) 22 t) ∧ Below w.heap.size w W)
    ?own ?ownS ?start
    (fun x => { tmps := #[.int .u32 (un s), undef, .slice none 0 0, .pointer (some ⟨w.heap.size, 0, none⟩), .int .i64 (x : Nat), .int .u32 (un s), .func (.func 36) #[] #[.pointer (some ⟨w.heap.size + 1, 0, none⟩)], .int .i64 (x : Nat), undef, undef, undef, undef, undef], defers := [] }) ?assign ?body ?done
  case hps => rfl
  case own =>
    refine OwnFrom.and (OwnFrom.and (Own.from (holdsRow_own w.heap.size w.heap.size 33 3 1 (fun pre => pre.length) (fun pre => dv pre) (fun _ _ => True)) _) ?_) (ownFrom_below (Nat.le_refl _) (by simp; omega))
    rintro pre X Y row ⟨t, ht⟩ hg hr
    refine ⟨t, ht.kept hg fun e => ?_⟩
    obtain ⟨_, o, ho, hc⟩ := hr _ e.symm
    rw [show X.heap[w.heap.size + 1]? = _ from ht] at ho
    cases ho
    cases hc
  case ownS =>
    rintro pre W v ⟨⟨⟨u, hu, hr, _⟩, t, ht⟩, hb⟩
    have hg := grownBy_setCell' W (w.heap.size + 1) v
    exact ⟨⟨⟨u, hu.kept hg (by simp), hr.kept hg (.inr (ht.not_row (by decide) hr).symm), trivial⟩, v, ht.set v⟩, hb.setCell (p := ⟨w.heap.size + 1, 0, none⟩) (by simp) _⟩
  case start => exact ⟨⟨⟨_, bO.alloc _, World.ownsRow_nil _ _ _ _, trivial⟩, _, bS⟩, hB0⟩
  case assign =>
    intro l x W K hK
    gi_wp2
    exact hK
  case body =>
    rintro l pre x W ⟨⟨⟨v, hv, hrow, _⟩, t, ht⟩, hB⟩ ⟨post, hx⟩
    have hc := hv.cell
    have hpl : pre.length < 24 := by
      have h1 := length_dims s
      have h2 := congrArg List.length hx
      simp at h2
      omega
    clear hx
    gi_wp2_with (gi_at_builtin; refine wpListIn_append_own _ rfl _ _ 33 rfl w.heap.size 3 i0 (.int .i64 0) 1 8 Tryd.underlying33 hi hz0 hz1 hz2 rfl (by decide) _ _ _ rfl (hrow.alloc _) ⟨W.heap.size, 0, none⟩ 1 1 [.int .i64 (x : Nat)] rfl rfl (cell_one_new _ _ _) (by simp [Value.oneCell']) (by unfold maxLen; omega) (by omega) (by have := hB.size; simp; omega) ?_; intro v' w1 hown' hgrow _; obtain ⟨g', cap', rfl⟩ := ownsRow_succ hown'; obtain ⟨hv1, hv2, hr2, hk2, hb2⟩ := hv.appended (by decide) hrow hB.size (Nat.le_refl _) hown' hgrow; have hc1 := hv1.cell; have hf1 := hv1.frozen)
    have hg' : (W.alloc (.cells #[.int .i64 (x : Nat)] 3)).grownBy w1 v.ownBlock := hgrow
    have hbs : (w1.setCell ⟨w.heap.size, 0, none⟩ (.slice (some ⟨g', 0, none⟩) (pre.length + 1) cap')).heap[w.heap.size + 1]? = W.heap[w.heap.size + 1]? :=
      (Below.heap_setCell _ _ _ _ (by simp)).trans ((hg'.block _ (by have := ht.lt; simp; omega) (ht.not_row (by decide) hrow)).trans (Below.heap_alloc _ _ _ ht.lt))
    exact ⟨hk2.from _, hbs, hb2.block _ hlt, ⟨⟨⟨_, hv2, by simpa [dv] using hr2, trivial⟩, t, hbs.trans ht⟩, hB.trans hb2⟩⟩
  case done =>
    rintro D W hD ⟨⟨⟨v, hv, hrow, _⟩, _⟩, hB⟩ hK
    have hc := hv.cell
    gi_wp2
    refine ⟨by simp, .inl ⟨_, _, rfl, run_takeDeferred hK, ?_⟩⟩
    exact ⟨_, results_tmp rfl _ _ _, v, rfl, ownsRow_putObj hrow _ hK rfl, hB.trans (belowK_b (w := w) (Nat.le_refl _) W D _ _ (by simp at hD; omega) hK rfl rfl)⟩
end Go.Proofs.YtidpieakofhmiaaDoor
