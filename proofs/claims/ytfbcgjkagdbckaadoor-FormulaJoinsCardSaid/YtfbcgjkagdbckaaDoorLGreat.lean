/-
Walk: law03's great.
-/
import Derived.Test.YtfbcgjkagdbckaaDoorXFnx
namespace Go.Proofs.YtfbcgjkagdbckaaDoor.XFn
open Go.RowKit Go.Proofs.YtfbcgjkagdbckaaDoorW.PrintWords Go.Proofs.YtfbcgjkagdbckaaDoorW.PrintLast Go.Proofs.YtfbcgjkagdbckaaDoorW.PrintMore

/-- The arguments of 'great': rows of any kind, by their lengths. -/
structure ArgsN (w : World) (b : Nat) (L : List (Option Addr × Nat × Nat)) : Prop where
  at_ : ∀ j (h : j < L.length), w.cell? ⟨b, j, none⟩ = some (.slice L[j].1 L[j].2.1 L[j].2.2)
theorem ArgsN.below {w w1 : World} {b : Nat} {L : List (Option Addr × Nat × Nat)} (h : ArgsN w b L) (hb : Below w.heap.size w w1) : ArgsN w1 b L :=
  ⟨fun j hj => (hb.cell (World.block_lt_of_cell? w _ (h.at_ j hj))).trans (h.at_ j hj)⟩
theorem ArgsN.one (w : World) (A : Option Addr) (n c : Nat) : ArgsN (w.alloc (.cells #[.slice A n c] 26)) w.heap.size [(A, n, c)] :=
  ⟨fun j hj => by
    match j, hj with
    | 0, _ => exact World.cell?_alloc_new ..⟩
theorem ArgsN.two (w : World) (A B : Option Addr) (n c m d : Nat) : ArgsN (w.alloc (.cells #[.slice A n c, .slice B m d] 26)) w.heap.size [(A, n, c), (B, m, d)] :=
  ⟨fun j hj => by
    match j, hj with
    | 0, _ => exact World.cell?_alloc_new ..
    | 1, _ => exact World.cell?_alloc_new ..⟩
def greatB (L : List (Option Addr × Nat × Nat)) : Bool := L.any fun x => decide (24 < x.2.1)
set_option maxRecDepth 100000 in
set_option maxHeartbeats 1000000 in
theorem law_great (b : Nat) (L : List (Option Addr × Nat × Nat)) (w : World) (hA : ArgsN w b L) (hlen : L.length ≤ 1000) :
    Calls Tryd.prog 28 #[.slice (some ⟨b, 0, none⟩) L.length L.length] w fun e w' => e = .returned (.bool (greatB L)) ∧ Below w.heap.size w w' := by
  go_enter Tryd.func28, Tryd.ntmps28
  go_wp2
  go_loopg [7] (L.length + 1) (fun kq v7 w' => ∃ j : Nat, v7 = .int .i64 (j : Int) ∧ j ≤ L.length ∧ kq + j = L.length + 1 ∧ Hid (∀ x ∈ L.take j, ¬ 24 < x.2.1) ∧ Below w.heap.size w w')
  case atStart => exact ⟨0, rfl, Nat.zero_le _, rfl, Lib.hid (by simp), Below.refl _ _⟩
  case round =>
    obtain ⟨j, rfl, hj, hk, hno, hb⟩ := hrel
    by_cases hlt : j < L.length
    · have h1 := (hA.below hb).at_ j hlt
      have HB := Lib.hid hb
      by_cases hp : 24 < L[j].2.1
      · have HP := Lib.hid hp
        have hpi : (24 : Int) < (L[j].2.1 : Int) := by omega
        clear hno hb hp
        go_wp2
        go_ret
        have hf : greatB L = true := by
          unfold greatB
          rw [List.any_eq_true]
          exact ⟨L[j], List.getElem_mem _, decide_eq_true HP⟩
        exact ⟨by rw [hf]; rfl, HB⟩
      · have HP := Lib.hid hp
        have hpi : ¬ (24 : Int) < (L[j].2.1 : Int) := by omega
        have HN := hno
        clear hno hb hp
        go_wp2
        go_roundg (gk - 1)
        case measure => omega
        case rel =>
          refine ⟨j + 1, by simp, by omega, by omega, Lib.hid fun d hd => ?_, HB⟩
          rw [List.take_succ_eq_append_getElem hlt] at hd
          rcases List.mem_append.1 hd with h3 | h3
          · exact HN d h3
          · rw [List.mem_singleton.1 h3]
            exact HP
    · have HB := Lib.hid hb
      have hany : Hid (greatB L = false) := by
        refine Lib.hid ?_
        unfold greatB
        rw [List.any_eq_false]
        intro x hx
        rw [decide_eq_true_iff]
        exact hno x (by rw [List.take_of_length_le (by omega)]; exact hx)
      clear hb hno
      go_wp2
      go_ret
      exact ⟨by rw [hany]; rfl, HB⟩
end Go.Proofs.YtfbcgjkagdbckaaDoor.XFn
