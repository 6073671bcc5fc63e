/-
Walks: truth.Meet, truth.Join, truth.Not (the tables as their initialisers lay them).
-/
import Derived.Laws.BitsLemmas
import Derived.Test.YtfbcgjkagdbckaaDoorLz
namespace Go.Proofs.YtfbcgjkagdbckaaDoor
open Go.RowKit H

theorem i64_and3 (n : Int) : bits .and .i64 n 3 = n % 4 := by
  have h3 : (BitVec.ofInt 64 3).toNat = 2 ^ 2 - 1 := by decide
  have key : (BitVec.ofInt 64 n &&& BitVec.ofInt 64 3).toNat = (n % ((2 ^ 64 : Nat) : Int)).toNat % 2 ^ 2 := by
    rw [BitVec.toNat_and, BitVec.toNat_ofInt, h3, Nat.and_two_pow_sub_one_eq_mod]
  show IntKind.i64.wrap ((BitVec.ofInt 64 n &&& BitVec.ofInt 64 3).toNat : Nat) = n % 4
  rw [key, IntKind.wrap_i64]
  omega
def meetTab : List Int := [0, 0, 0, 0, 0, 1, 2, 3, 0, 2, 2, 0, 0, 3, 0, 3]
def joinTab : List Int := [0, 1, 2, 3, 1, 1, 1, 1, 2, 1, 2, 1, 3, 1, 1, 3]
def notTab : List Int := [1, 0, 2, 3]
/-- The library's table and the three of truth lie in their variables. -/
structure TabT (w : World) : Prop where
  lib : Tab w
  meets : ∀ j, j < 16 → w.cell? ⟨0, j, none⟩ = some (.int .i64 (meetTab.getD j 0))
  joins : ∀ j, j < 16 → w.cell? ⟨1, j, none⟩ = some (.int .i64 (joinTab.getD j 0))
  nots : ∀ j, j < 4 → w.cell? ⟨2, j, none⟩ = some (.int .i64 (notTab.getD j 0))
theorem TabT.below {w w1 : World} (h : TabT w) (hb : Below w.heap.size w w1) : TabT w1 :=
  ⟨h.lib.below hb, fun j hj => (hb.cell (World.block_lt_of_cell? w _ (h.meets j hj))).trans (h.meets j hj), fun j hj => (hb.cell (World.block_lt_of_cell? w _ (h.joins j hj))).trans (h.joins j hj), fun j hj => (hb.cell (World.block_lt_of_cell? w _ (h.nots j hj))).trans (h.nots j hj)⟩
def tMeet (a b : Int) : Int := meetTab.getD ((a % 4).toNat * 4 + (b % 4).toNat) 0
def tJoin (a b : Int) : Int := joinTab.getD ((a % 4).toNat * 4 + (b % 4).toNat) 0
def tNot (a : Int) : Int := notTab.getD (a % 4).toNat 0
set_option maxHeartbeats 1000000 in
theorem truth_meet_core (a b z : Int) (i j : Nat) (w : World) (hi : i < 4) (hj : j < 4) (ka : bits BinOp.and IntKind.i64 a 3 = (i : Int)) (kb : bits BinOp.and IntKind.i64 b 3 = (j : Int)) (hc : w.cell? ⟨0, i * 4 + j, none⟩ = some (.int .i64 z)) :
    Calls Tryd.prog 14 #[.int .i64 a, .int .i64 b] w fun e w' => e = .returned (.int .i64 z) ∧ w = w' := by
  go_enter Tryd.func14, Tryd.ntmps14
  go_wp2_with (simp only [ka, kb])
  go_ret
  exact ⟨rfl, rfl⟩
set_option maxHeartbeats 1000000 in
theorem truth_join_core (a b z : Int) (i j : Nat) (w : World) (hi : i < 4) (hj : j < 4) (ka : bits BinOp.and IntKind.i64 a 3 = (i : Int)) (kb : bits BinOp.and IntKind.i64 b 3 = (j : Int)) (hc : w.cell? ⟨1, i * 4 + j, none⟩ = some (.int .i64 z)) :
    Calls Tryd.prog 16 #[.int .i64 a, .int .i64 b] w fun e w' => e = .returned (.int .i64 z) ∧ w = w' := by
  go_enter Tryd.func16, Tryd.ntmps16
  go_wp2_with (simp only [ka, kb])
  go_ret
  exact ⟨rfl, rfl⟩
set_option maxHeartbeats 1000000 in
theorem truth_not_core (a z : Int) (i : Nat) (w : World) (hi : i < 4) (ka : bits BinOp.and IntKind.i64 a 3 = (i : Int)) (hc : w.cell? ⟨2, i, none⟩ = some (.int .i64 z)) :
    Calls Tryd.prog 18 #[.int .i64 a] w fun e w' => e = .returned (.int .i64 z) ∧ w = w' := by
  go_enter Tryd.func18, Tryd.ntmps18
  go_wp2_with (simp only [ka])
  go_ret
  exact ⟨rfl, rfl⟩
theorem truth_Meet (a b : Int) (w : World) (hT : TabT w) : Calls Tryd.prog 14 #[.int .i64 a, .int .i64 b] w fun e w' => e = .returned (.int .i64 (tMeet a b)) ∧ w = w' :=
  truth_meet_core a b _ (a % 4).toNat (b % 4).toNat w (by omega) (by omega) (by rw [i64_and3]; omega) (by rw [i64_and3]; omega) (hT.meets _ (by omega))
theorem truth_Join (a b : Int) (w : World) (hT : TabT w) : Calls Tryd.prog 16 #[.int .i64 a, .int .i64 b] w fun e w' => e = .returned (.int .i64 (tJoin a b)) ∧ w = w' :=
  truth_join_core a b _ (a % 4).toNat (b % 4).toNat w (by omega) (by omega) (by rw [i64_and3]; omega) (by rw [i64_and3]; omega) (hT.joins _ (by omega))
theorem truth_Not (a : Int) (w : World) (hT : TabT w) : Calls Tryd.prog 18 #[.int .i64 a] w fun e w' => e = .returned (.int .i64 (tNot a)) ∧ w = w' :=
  truth_not_core a _ (a % 4).toNat w (by omega) (by rw [i64_and3]; omega) (hT.nots _ (by omega))
end Go.Proofs.YtfbcgjkagdbckaaDoor
