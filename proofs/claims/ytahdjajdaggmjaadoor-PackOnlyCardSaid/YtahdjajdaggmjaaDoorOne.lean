/-
Walk: lex.one.
-/
import Derived.Laws.Rows
import Derived.Test.YtahdjajdaggmjaaDoorUtab
namespace Go.Proofs.YtahdjajdaggmjaaDoor
open Go.RowKit

/-- The first sign with which a text begins, from one on. -/
def signFrom (s : ByteArray) : Nat → Nat → Option Nat
  | 0, _ => none
  | k + 1, j => if hpre s (signV j) then some j else signFrom s k (j + 1)
/-- The token with which a text begins, whose name is so long. -/
def oneT (n : Nat) (s : ByteArray) : Int × ByteArray :=
  if 0 < n then (1, s.extract 0 n) else match signFrom s 20 0 with
    | some j => (2, signV j)
    | none => (0, ⟨#[]⟩)
theorem sign_index : ∀ (j : Nat), j < 20 → ∀ (w : World), (Instr.index 104 (.agg signArr) (.int .i64 (j : Int))).run Tryd.prog w = .ok (.string (signV j)) w
  | 0, _, _ => by kernel_rfl
  | 1, _, _ => by kernel_rfl
  | 2, _, _ => by kernel_rfl
  | 3, _, _ => by kernel_rfl
  | 4, _, _ => by kernel_rfl
  | 5, _, _ => by kernel_rfl
  | 6, _, _ => by kernel_rfl
  | 7, _, _ => by kernel_rfl
  | 8, _, _ => by kernel_rfl
  | 9, _, _ => by kernel_rfl
  | 10, _, _ => by kernel_rfl
  | 11, _, _ => by kernel_rfl
  | 12, _, _ => by kernel_rfl
  | 13, _, _ => by kernel_rfl
  | 14, _, _ => by kernel_rfl
  | 15, _, _ => by kernel_rfl
  | 16, _, _ => by kernel_rfl
  | 17, _, _ => by kernel_rfl
  | 18, _, _ => by kernel_rfl
  | 19, _, _ => by kernel_rfl
  | n + 20, h, _ => absurd h (by omega)
set_option maxRecDepth 100000 in
set_option maxHeartbeats 4000000 in
theorem lex_one_walk (HP : ∀ (a b : ByteArray) (w : World), Calls Tryd.prog 51 #[.string a, .string b] w fun e w' => e = .returned (.bool (hpre a b)) ∧ Below w.heap.size w w')
    (s : ByteArray) (n : Nat) (w : World) (HT : Tab w) (hn : n ≤ s.size)
    (HN : ∀ (w : World), Calls Tryd.prog 52 #[.string s] w fun e w' => e = .returned (.int .i64 (n : Int)) ∧ Below w.heap.size w w') :
    Calls Tryd.prog 40 #[.string s] w fun e w' => e = .returned (.agg #[.int .i64 (oneT n s).1, .string (oneT n s).2, .int .i64 0]) ∧ Below w.heap.size w w' := by
  have HP' := Lib.hid HP
  have HN' := Lib.hid HN
  have HT' := Lib.hid HT
  clear HP HN HT
  by_cases h0 : 0 < n
  · have hO : oneT n s = (1, s.extract 0 n) := by unfold oneT; rw [if_pos h0]
    rw [hO]
    clear hO
    go_enter Tryd.func40, Tryd.ntmps40
    go_wp2_with (go_at_call 52; refine (HN'.out _).mono ?_; rintro e w2 ⟨rfl, hb2⟩; obtain ⟨hc0, hf0⟩ := own_at (own_cell hb2) 0 _ rfl; obtain ⟨hc1, hf1⟩ := own_at (own_cell hb2) 1 _ rfl; obtain ⟨hc2, hf2⟩ := own_at (own_cell hb2) 2 _ rfl; have HB2 := Lib.hid hb2; clear hb2)
    exact bodyPost_ret (v := .agg #[.int .i64 1, .string (s.extract 0 n), .int .i64 0]) (by simp [results, Tryd.results40, hc0, hc1, hc2, go_sem]) rfl ⟨rfl, ((((below_then ((Below.refl _ _).alloc (Nat.le_refl _) _) (by simp) HB2.out).setCell (by simp) _).setCell (by simp) _).setCell (by simp) _)⟩
  · go_enter Tryd.func40, Tryd.ntmps40
    go_wp2_with (first
      | (go_at_call 52; refine (HN'.out _).mono ?_; rintro e w2 ⟨rfl, hb2⟩; obtain ⟨tS, frS, hS⟩ := (HT'.out.below (below_then ((Below.refl _ _).alloc (Nat.le_refl _) _) (by simp) hb2)).signs; have HO := Lib.hid (own_cell hb2); have HB2 := Lib.hid hb2; clear hb2)
      | (refine wpList_load_row rfl _ _ rfl 0 rfl tS signArr frS _ hS Tryd.underlying104 rfl (by kernel_rfl) ?_))
    have HB3 := Lib.hid (below_then ((Below.refl _ _).alloc (Nat.le_refl _) _) (by simp) HB2.out : Below w.heap.size w w2)
    clear HB2
    go_loopg [15] 21 (fun kq v15 w' => ∃ j : Nat, v15 = .int .i64 (j : Int) ∧ j ≤ 20 ∧ kq + j = 21 ∧ Hid (oneT n s = match signFrom s (20 - j) j with | some i => (2, signV i) | none => (0, ⟨#[]⟩)) ∧ Hid (w'.heap[w.heap.size]? = some (.cells #[.int .i64 0, .string ⟨#[]⟩, .int .i64 0] 87 (0, 0))) ∧ Below w.heap.size w w')
    case atStart => exact ⟨0, rfl, by omega, rfl, Lib.hid (by unfold oneT; rw [if_neg h0]), HO, HB3.out⟩
    case round =>
      obtain ⟨j, rfl, hj, hk, hR, hO, hb⟩ := hrel
      have HB := Lib.hid hb
      have hBs := hb.size
      clear hb
      by_cases hlt : j < 20
      · have hidx := sign_index j hlt
        have hstep : 20 - j = (20 - (j + 1)) + 1 := by omega
        have hjw : IntKind.i64.wrap ((j : Int) + 1) = ((j + 1 : Nat) : Int) := by rw [IntKind.wrap_i64]; omega
        have HP2 := HP'.out s (signV j) wr
        have hOl := (Array.getElem?_eq_some_iff.1 hO.out).1
        by_cases hp : hpre s (signV j) = true
        · rw [hp] at HP2
          have hR' : Hid (oneT n s = (2, signV j)) := by
            refine Lib.hid ?_
            rw [hR.out, hstep]
            simp only [signFrom, hp, if_true]
          have HPh := Lib.hid hp
          clear hR hp
          go_wp2_with (go_at_call 51; refine HP2.mono ?_; rintro e w3 ⟨rfl, hb3⟩; have HO3 := (hb3.block _ (by omega)).trans hO.out; obtain ⟨hc0, hf0⟩ := own_at HO3 0 _ rfl; obtain ⟨hc1, hf1⟩ := own_at HO3 1 _ rfl; obtain ⟨hc2, hf2⟩ := own_at HO3 2 _ rfl; have HB4 := Lib.hid (below_then HB.out hBs hb3); clear HO3 hb3)
          exact bodyPost_ret (v := .agg #[.int .i64 2, .string (signV j), .int .i64 0]) (by simp [results, Tryd.results40, hc0, hc1, hc2, go_sem]) rfl ⟨by rw [hR'.out], (((HB4.out.setCell (by simp) _).setCell (by simp) _).setCell (by simp) _)⟩
        · have hp' := Bool.eq_false_iff.2 hp
          rw [hp'] at HP2
          have hR' : Hid (oneT n s = match signFrom s (20 - (j + 1)) (j + 1) with | some i => (2, signV i) | none => (0, ⟨#[]⟩)) := by
            refine Lib.hid ?_
            rw [hR.out, hstep]
            simp only [signFrom, hp', Bool.false_eq_true, if_false]
          clear hR hp hp'
          go_wp2_with (go_at_call 51; refine HP2.mono ?_; rintro e w3 ⟨rfl, hb3⟩; have HO3 := Lib.hid ((hb3.block _ (by omega)).trans hO.out); have HB4 := Lib.hid (below_then HB.out hBs hb3); clear hb3)
          go_roundg (gk - 1)
          case measure => omega
          case rel => exact ⟨j + 1, by simp, by omega, by omega, hR', HO3, HB4.out⟩
      · obtain rfl : j = 20 := by omega
        have hR' : Hid (oneT n s = (0, ⟨#[]⟩)) := hR
        clear hR
        obtain ⟨hc0, hf0⟩ := own_at hO.out 0 _ rfl
        obtain ⟨hc1, hf1⟩ := own_at hO.out 1 _ rfl
        obtain ⟨hc2, hf2⟩ := own_at hO.out 2 _ rfl
        go_wp2
        exact bodyPost_ret (v := .agg #[.int .i64 0, .string ⟨#[]⟩, .int .i64 0]) (by simp [results, Tryd.results40, hc0, hc1, hc2, go_sem]) rfl ⟨by rw [hR'.out], (((HB.out.setCell (by simp) _).setCell (by simp) _).setCell (by simp) _)⟩
end Go.Proofs.YtahdjajdaggmjaaDoor
