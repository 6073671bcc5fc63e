/-
Walks: what Decode defers.
-/
import Derived.Test.YtahdjajdaggmjaaDoorYsrc
import Derived.Tactics
import Derived.Tactics2
import Derived.Defers
import Derived.Recover
import Derived.Laws.Pointers
set_option linter.unusedVariables false
set_option linter.unusedSimpArgs false
namespace Go.Proofs.YtahdjajdaggmjaaDoor.XPo
open Go.RowKit Go.Proofs.YtahdjajdaggmjaaDoorW.PrintWords Go.Proofs.YtahdjajdaggmjaaDoorW.PrintLast Go.Proofs.YtahdjajdaggmjaaDoorW.PrintMore

/-- Blocks g, g+1, g+2: the three results. -/
def Res3 (w : World) (g : Nat) (v : Value) (at_ e : Int) : Prop :=
  w.heap[g]? = some (.cells #[v] 29 (0, 0)) ∧ w.heap[g + 1]? = some (.cells #[.int .i64 at_] 3 (0, 0)) ∧ w.heap[g + 2]? = some (.cells #[.int .i64 e] 26 (0, 0))
theorem Res3.kept {w w1 : World} {g : Nat} {v : Value} {at_ e : Int} {S : Nat → Prop} (h : Res3 w g v at_ e) (hk : Kept w w1 S) (hS : ¬ S g ∧ ¬ S (g + 1) ∧ ¬ S (g + 2)) : Res3 w1 g v at_ e :=
  ⟨blk_kept h.1 hk hS.1, blk_kept h.2.1 hk hS.2.1, blk_kept h.2.2 hk hS.2.2⟩
theorem Res3.below {w w1 : World} {g : Nat} {v : Value} {at_ e : Int} (h : Res3 w g v at_ e) (hb : Below w.heap.size w w1) : Res3 w1 g v at_ e := h.kept (Kept.of_below hb (fun _ => False)) ⟨id, id, id⟩
theorem blk_set {w : World} {k p j : Nat} {o : Obj} (h : w.heap[k]? = some o) (hk : k ≠ p) (u : Value) : (w.setCell ⟨p, j, none⟩ u).heap[k]? = some o := (Below.heap_setCell w ⟨p, j, none⟩ u k hk).trans h
theorem Res3.set0 {w : World} {g : Nat} {v : Value} {at_ e : Int} (h : Res3 w g v at_ e) (u : Value) : Res3 (w.setCell ⟨g, 0, none⟩ u) g u at_ e := ⟨one_setCell h.1, blk_set h.2.1 (by omega) u, blk_set h.2.2 (by omega) u⟩
theorem Res3.set1 {w : World} {g : Nat} {v : Value} {at_ e : Int} (h : Res3 w g v at_ e) (a : Int) : Res3 (w.setCell ⟨g + 1, 0, none⟩ (.int .i64 a)) g v a e := ⟨blk_set h.1 (by omega) _, one_setCell h.2.1, blk_set h.2.2 (by omega) _⟩
theorem Res3.set2 {w : World} {g : Nat} {v : Value} {at_ e : Int} (h : Res3 w g v at_ e) (c : Int) : Res3 (w.setCell ⟨g + 2, 0, none⟩ (.int .i64 c)) g v at_ c := ⟨blk_set h.1 (by omega) _, blk_set h.2.1 (by omega) _, one_setCell h.2.2⟩
theorem assert_yes (W : World) (v : Value) : (Instr.typeAssert (.iface 59 v) 20 59 true).run Tryd.prog W = .ok (.tuple #[v, .bool true]) W := by kernel_rfl
set_option maxHeartbeats 1000000 in
set_option maxRecDepth 100000 in
theorem decode_idle (g : Nat) (w : World) :
    CallsD Tryd.prog 20 #[.pointer (some ⟨g, 0, none⟩), .pointer (some ⟨g + 1, 0, none⟩), .pointer (some ⟨g + 2, 0, none⟩)] .returning w fun e u' w' => e = .returned (.tuple #[]) ∧ u' = .returning ∧ w' = w := by
  refine callsD_of_wpS Tryd.func20 rfl fun c₀ cs hu => ?_
  rw [show (#[Value.pointer (some ⟨g, 0, none⟩), Value.pointer (some ⟨g + 1, 0, none⟩), Value.pointer (some ⟨g + 2, 0, none⟩)] ++ Array.replicate (Tryd.f20.ntmps - (#[Value.pointer (some ⟨g, 0, none⟩), Value.pointer (some ⟨g + 1, 0, none⟩), Value.pointer (some ⟨g + 2, 0, none⟩)] : Array Value).size) undef : Array Value) = #[.pointer (some ⟨g, 0, none⟩), .pointer (some ⟨g + 1, 0, none⟩), .pointer (some ⟨g + 2, 0, none⟩), undef, undef, undef, undef, undef, undef, undef, undef, undef, undef, undef, undef, undef, undef, undef, undef] by rw [Tryd.ntmps20]; rfl]
  apply wpS_seq
  apply wpS_region
  simp [wpOpsS, go_sem, recoverD, hu, Tryd.ntmps20, Exit.thenS]
  refine wpS_of_wp ?_
  go_wp2
  cases c₀
  simp_all [bodyPostS, results, Tryd.results20]
set_option maxHeartbeats 1000000 in
set_option maxRecDepth 100000 in
theorem decode_catch (g : Nat) (v : Value) (a0 e0 at_ c : Int) (w : World) (h : Res3 w g v a0 e0) :
    CallsD Tryd.prog 20 #[.pointer (some ⟨g, 0, none⟩), .pointer (some ⟨g + 1, 0, none⟩), .pointer (some ⟨g + 2, 0, none⟩)] (.panicking [{ v := .iface 59 (.agg #[.int .i64 at_, .int .i64 c]), recovered := false }]) w fun e u' w' =>
      e = .returned (.tuple #[]) ∧ u' = .panicking [{ v := .iface 59 (.agg #[.int .i64 at_, .int .i64 c]), recovered := true }] ∧ Res3 w' g (.slice none 0 0) at_ c ∧ Kept w w' (fun k => g ≤ k ∧ k ≤ g + 2) ∧ Below g w w' := by
  have hc0 := cell_of_one h.1
  have hc1 := cell_of_one h.2.1
  have hc2 := cell_of_one h.2.2
  have hf0 := free_of_one h.1
  have hf1 := free_of_one h.2.1
  have hf2 := free_of_one h.2.2
  have HR := Aside0.mk h
  clear h
  have hta := assert_yes
  refine callsD_of_wpS Tryd.func20 rfl fun c₀ cs hu => ?_
  rw [show (#[Value.pointer (some ⟨g, 0, none⟩), Value.pointer (some ⟨g + 1, 0, none⟩), Value.pointer (some ⟨g + 2, 0, none⟩)] ++ Array.replicate (Tryd.f20.ntmps - (#[Value.pointer (some ⟨g, 0, none⟩), Value.pointer (some ⟨g + 1, 0, none⟩), Value.pointer (some ⟨g + 2, 0, none⟩)] : Array Value).size) undef : Array Value) = #[.pointer (some ⟨g, 0, none⟩), .pointer (some ⟨g + 1, 0, none⟩), .pointer (some ⟨g + 2, 0, none⟩), undef, undef, undef, undef, undef, undef, undef, undef, undef, undef, undef, undef, undef, undef, undef, undef] by rw [Tryd.ntmps20]; rfl]
  apply wpS_seq
  apply wpS_region
  simp [wpOpsS, go_sem, recoverD, hu, Tryd.ntmps20, Exit.thenS]
  refine wpS_of_wp ?_
  go_wp2
  have hR1 := (((HR.out.set0 (.slice none 0 0)).set1 0).set2 61).below (below_alloc (Below.refl _ _) (.cells #[.int .i64 at_, .int .i64 c] 59))
  have hK1 := ((((Kept.refl w (fun k => g ≤ k ∧ k ≤ g + 2)).setCell (p := ⟨g, 0, none⟩) (.inl ⟨Nat.le_refl _, Nat.le_add_right _ _⟩) (.slice none 0 0)).setCell (p := ⟨g + 1, 0, none⟩) (.inl ⟨Nat.le_add_right _ _, Nat.le_succ _⟩) (.int .i64 0)).setCell (p := ⟨g + 2, 0, none⟩) (.inl ⟨Nat.le_add_right _ _, Nat.le_refl _⟩) (.int .i64 61)).alloc (.cells #[.int .i64 at_, .int .i64 c] 59)
  have hgs : g ≤ (((w.setCell ⟨g, 0, none⟩ (.slice none 0 0)).setCell ⟨g + 1, 0, none⟩ (.int .i64 0)).setCell ⟨g + 2, 0, none⟩ (.int .i64 61)).heap.size := by
    have h0 := blk_lt HR.out.1
    simp only [World.size_setCell]
    omega
  have hL1 := ((((Below.refl g w).setCell (p := ⟨g, 0, none⟩) (Nat.le_refl _) (.slice none 0 0)).setCell (p := ⟨g + 1, 0, none⟩) (Nat.le_add_right _ _) (.int .i64 0)).setCell (p := ⟨g + 2, 0, none⟩) (Nat.le_add_right _ _) (.int .i64 61)).alloc hgs (.cells #[.int .i64 at_, .int .i64 c] 59)
  have hF := heap_alloc_new (((w.setCell ⟨g, 0, none⟩ (.slice none 0 0)).setCell ⟨g + 1, 0, none⟩ (.int .i64 0)).setCell ⟨g + 2, 0, none⟩ (.int .i64 61)) (.cells #[.int .i64 at_, .int .i64 c] 59)
  simp only [World.size_setCell] at hF
  have hN : ¬ (g ≤ w.heap.size ∧ w.heap.size ≤ g + 2) := fun e => by
    have h0 := blk_lt HR.out.1
    have h1 := blk_lt HR.out.2.2
    omega
  clear HR hc0 hc1 hc2 hf0 hf1 hf2
  clear hgs
  revert hR1 hK1 hF hL1
  generalize (((w.setCell ⟨g, 0, none⟩ (.slice none 0 0)).setCell ⟨g + 1, 0, none⟩ (.int .i64 0)).setCell ⟨g + 2, 0, none⟩ (.int .i64 61)).alloc (.cells #[.int .i64 at_, .int .i64 c] 59) = W
  intro hR1 hK1 hL1 hF
  have HL := Aside0.mk hL1
  generalize w.heap.size = q at *
  have hc1 := cell_of_one hR1.2.1
  have hc2 := cell_of_one hR1.2.2
  have hf1 := free_of_one hR1.2.1
  have hf2 := free_of_one hR1.2.2
  have hq0 : W.cell? ⟨q, 0, none⟩ = some (.int .i64 at_) := by simp [World.cell?, hF]
  have hq1 : W.cell? ⟨q, 1, none⟩ = some (.int .i64 c) := by simp [World.cell?, hF]
  have HK := Aside0.mk hK1
  have HR := Aside0.mk hR1
  have hn1 : ¬ q = g + 1 := by omega
  have hn2 : ¬ q = g + 2 := by omega
  have hn3 : ¬ g + 1 = q := by omega
  have hn4 : ¬ g + 2 = q := by omega
  clear hR1 hK1 hF hN hL1
  go_region
  refine ⟨rfl, _, rfl, .tuple #[], ?_, rfl, rfl, (((HR.out.set1 at_).set2 c).kept (w1 := (((W.setCell ⟨g + 1, 0, none⟩ (.int .i64 at_)).setCell ⟨g + 2, 0, none⟩ (.int .i64 c)).drew)) ((Kept.refl _ (fun _ => False)).drew) ⟨id, id, id⟩), ((HK.out.setCell (p := ⟨g + 1, 0, none⟩) (.inl ⟨Nat.le_add_right _ _, Nat.le_succ _⟩) _).setCell (p := ⟨g + 2, 0, none⟩) (.inl ⟨Nat.le_add_right _ _, Nat.le_refl _⟩) _).drew, ((HL.out.setCell (p := ⟨g + 1, 0, none⟩) (Nat.le_add_right _ _) _).setCell (p := ⟨g + 2, 0, none⟩) (Nat.le_add_right _ _) _).drew⟩
  simp [results, Tryd.results20]
end Go.Proofs.YtahdjajdaggmjaaDoor.XPo
