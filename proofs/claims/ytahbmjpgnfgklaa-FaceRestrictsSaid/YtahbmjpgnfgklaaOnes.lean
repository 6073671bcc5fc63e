/-
Walks: math/bits.OnesCount32.
-/
import Derived.Lib.BitFns
import Derived.Lib.Tables
import Derived.Deep.QuietTactic
import Derived.BigQuiet
import Derived.WalkKit
import Derived.Test.YtahbmjpgnfgklaaWords
import Derived.Test.YtahbmjpgnfgklaaBits
namespace Go.Proofs.Ytahbmjpgnfgklaa
open Go.RowKit H

theorem pop_fold : (⟨(List.append (List.append [0, 1, 1, 2, 1, 2, 2, 3, 1, 2, 2, 3, 2, 3, 3, 4, 1, 2, 2, 3, 2, 3, 3, 4, 2, 3, 3, 4, 3, 4, 4, 5, 1, 2, 2, 3, 2, 3, 3, 4, 2, 3, 3, 4, 3, 4, 4, 5, 2, 3, 3, 4, 3, 4, 4, 5, 3, 4, 4, 5, 4, 5, 5, 6] [1, 2, 2, 3, 2, 3, 3, 4, 2, 3, 3, 4, 3, 4, 4, 5, 2, 3, 3, 4, 3, 4, 4, 5, 3, 4, 4, 5, 4, 5, 5, 6, 2, 3, 3, 4, 3, 4, 4, 5, 3, 4, 4, 5, 4, 5, 5, 6, 3, 4, 4, 5, 4, 5, 5, 6, 4, 5, 5, 6, 5, 6, 6, 7]) (List.append [1, 2, 2, 3, 2, 3, 3, 4, 2, 3, 3, 4, 3, 4, 4, 5, 2, 3, 3, 4, 3, 4, 4, 5, 3, 4, 4, 5, 4, 5, 5, 6, 2, 3, 3, 4, 3, 4, 4, 5, 3, 4, 4, 5, 4, 5, 5, 6, 3, 4, 4, 5, 4, 5, 5, 6, 4, 5, 5, 6, 5, 6, 6, 7] [2, 3, 3, 4, 3, 4, 4, 5, 3, 4, 4, 5, 4, 5, 5, 6, 3, 4, 4, 5, 4, 5, 5, 6, 4, 5, 5, 6, 5, 6, 6, 7, 3, 4, 4, 5, 4, 5, 5, 6, 4, 5, 5, 6, 5, 6, 6, 7, 4, 5, 5, 6, 5, 6, 6, 7, 5, 6, 6, 7, 6, 7, 7, 8])).toArray⟩ : ByteArray) = Lib.pop8tab := by rfl
theorem and255 (x : Int) (h0 : 0 ≤ x) (h1 : x < 4294967296) : bits .and .u32 x 255 = x % 256 := by
  obtain ⟨n, rfl⟩ := Int.eq_ofNat_of_zero_le h0
  have := u32_and_nat n 255 (by omega) (by omega)
  rw [show ((255 : Nat) : Int) = 255 from rfl] at this
  rw [this, Nat.and_two_pow_sub_one_eq_mod n 8]
  omega

def pops (x : Nat) (l : List Nat) : Nat := (l.filter fun i => x.testBit i).length
theorem pop8_bits : ∀ b : Fin 256, Lib.pop8 (b.val : Int) = ((pops b.val (List.range 8) : Nat) : Int) := by decide +kernel
theorem pops_le (x : Nat) (l : List Nat) : pops x l ≤ l.length := List.length_filter_le _ _
theorem pops_byte (x k : Nat) : Lib.pop8 ((x / 2 ^ k % 256 : Nat) : Int) = ((pops x ((List.range 8).map (k + ·)) : Nat) : Int) := by
  rw [pop8_bits ⟨x / 2 ^ k % 256, by omega⟩]
  unfold pops
  rw [List.filter_map, List.length_map]
  congr 2
  refine List.filter_congr fun i hi => ?_
  have : i < 8 := by simpa using hi
  show (x / 2 ^ k % 2 ^ 8).testBit i = x.testBit (k + i)
  rw [Nat.testBit_mod_two_pow, Nat.testBit_div_two_pow, Nat.add_comm]
  simp [this]
theorem pops_split (x : Nat) : pops x (List.range 32) = pops x ((List.range 8).map (24 + ·)) + pops x ((List.range 8).map (16 + ·)) + pops x ((List.range 8).map (8 + ·)) + pops x ((List.range 8).map (0 + ·)) := by
  unfold pops
  rw [show List.range 32 = (List.range 8).map (0 + ·) ++ ((List.range 8).map (8 + ·) ++ ((List.range 8).map (16 + ·) ++ (List.range 8).map (24 + ·))) from by decide]
  simp only [List.filter_append, List.length_append]
  omega
theorem pops_sum (x : Nat) (h : x < 4294967296) :
    ((Lib.pop8 ((x : Int) / 16777216) + Lib.pop8 ((x : Int) / 65536 % 256) + Lib.pop8 ((x : Int) / 256 % 256) + Lib.pop8 ((x : Int) % 256)) % 256) = ((pops x (List.range 32) : Nat) : Int) := by
  have e3 : (x : Int) / 16777216 = ((x / 2 ^ 24 % 256 : Nat) : Int) := by omega
  have e2 : (x : Int) / 65536 % 256 = ((x / 2 ^ 16 % 256 : Nat) : Int) := by omega
  have e1 : (x : Int) / 256 % 256 = ((x / 2 ^ 8 % 256 : Nat) : Int) := by omega
  have e0 : (x : Int) % 256 = ((x / 2 ^ 0 % 256 : Nat) : Int) := by omega
  rw [e3, e2, e1, e0, pops_byte, pops_byte, pops_byte, pops_byte, pops_split]
  have b3 := pops_le x ((List.range 8).map (24 + ·))
  have b2 := pops_le x ((List.range 8).map (16 + ·))
  have b1 := pops_le x ((List.range 8).map (8 + ·))
  have b0 := pops_le x ((List.range 8).map (0 + ·))
  rw [List.length_map, List.length_range] at b3 b2 b1 b0
  omega

set_option maxHeartbeats 8000000 in
set_option maxRecDepth 100000 in
attribute [local go_sem high] pop_fold in
theorem bits_ones_walk (x : Int) (w : World) (h0 : 0 ≤ x) (h1 : x < 4294967296) : Calls Try.prog 96 #[.int .u32 x] w fun e w' => e = .returned (.int .i64 ((Lib.pop8 (x / 16777216) + Lib.pop8 (x / 65536 % 256) + Lib.pop8 (x / 256 % 256) + Lib.pop8 (x % 256)) % 256)) ∧ Below w.heap.size w w' := by
  have a1 := and255 (x / 65536) (by omega) (by omega)
  have a2 := and255 (x / 256) (by omega) (by omega)
  have a3 := and255 x (by omega) (by omega)
  have b0 : 0 ≤ x / 16777216 := by omega
  have b1 : x / 16777216 ≤ 255 := by omega
  go_enter Try.func96, Try.ntmps96
  go_wp2
  go_quiet (fail)
  go_wp2
  go_ret
  exact ⟨rfl, (Below.refl w.heap.size w).trans ⟨rfl, rfl, rfl, Nat.le_refl _, fun _ _ => rfl⟩⟩
theorem bits_ones (x : Nat) (w : World) (h1 : x < 4294967296) : Calls Try.prog 96 #[.int .u32 x] w fun e w' => e = .returned (.int .i64 (pops x (List.range 32) : Nat)) ∧ Below w.heap.size w w' := by
  rw [← pops_sum x h1]
  exact bits_ones_walk x w (by omega) (by omega)
end Go.Proofs.Ytahbmjpgnfgklaa
