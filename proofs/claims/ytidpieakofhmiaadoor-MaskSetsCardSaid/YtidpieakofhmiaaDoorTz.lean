/-
Walks: math/bits.TrailingZeros32 (the table as its initialiser lays it); mask.Free.
-/
import Derived.Laws.Bits64b
import Derived.Laws.DeepNot64
import Derived.Test.YtidpieakofhmiaaDoorWords
import Derived.Test.YtidpieakofhmiaaDoorBits
namespace Go.Proofs.YtidpieakofhmiaaDoor
open Go.RowKit H

/-- The library's table lies in its variable. -/
def Tab (w : World) : Prop := ∀ j, j < 32 → w.cell? ⟨0, j, none⟩ = some (.int .u8 (Lib.deBruijn32tab.getD j 0 : Nat))
theorem Tab.below {w w1 : World} (h : Tab w) (hb : Below w.heap.size w w1) : Tab w1 := fun j hj => (hb.cell (World.block_lt_of_cell? w _ (h j hj))).trans (h j hj)
theorem Tab.of_block {w w1 : World} (h : Tab w) (hb : w1.heap[0]? = w.heap[0]?) : Tab w1 := fun j hj => (World.cell?_of_block (w := w) hb).trans (h j hj)
theorem Tab.lt {w : World} (h : Tab w) : 0 < w.heap.size := World.block_lt_of_cell? w _ (h 0 (by omega))

theorem tz_key (x a : Nat) (hx : x < 4294967296) (hx0 : x ≠ 0) (hlow : x &&& (4294967296 - x) = a) :
    bits BinOp.and IntKind.u32 (x : Int) (-(x : Int) % 4294967296) * 125613361 % 4294967296 / 134217728 = ((a * 125613361 % 4294967296 / 134217728 : Nat) : Int) := by
  have e1 : -(x : Int) % 4294967296 = ((4294967296 - x : Nat) : Int) := by omega
  rw [e1, u32_and_nat x _ hx (by omega), hlow]
  omega

set_option maxHeartbeats 1000000 in
theorem tz_core (x : Int) (k idx : Nat) (w : World) (hx0 : (x == 0) = false)
    (key : bits BinOp.and IntKind.u32 x (-x % 4294967296) * 125613361 % 4294967296 / 134217728 = (idx : Int))
    (hi : idx < 32) (hk : k < 32) (hcell : w.cell? ⟨0, idx, none⟩ = some (.int .u8 k)) :
    Calls Tryd.prog 34 #[.int .u32 x] w fun e w' => e = .returned (.int .i64 k) ∧ w = w' := by
  go_enter Tryd.func34, Tryd.ntmps34
  go_wp2_with (simp only [key])
  go_ret
  exact ⟨rfl, rfl⟩

theorem bits_tz32 (s : UInt32) (hs : s ≠ 0) (w : World) (hT : Tab w) : Calls Tryd.prog 34 #[.int .u32 (un s)] w fun e w' => e = .returned (.int .i64 (low s : Nat)) ∧ w = w' := by
  have hx0 : s.toNat ≠ 0 := fun e => hs (UInt32.toNat_inj.1 (by rw [e]; rfl))
  obtain ⟨hlow, hk⟩ := Lib.lowest_bit 32 s.toNat hx0 s.toNat_lt
  obtain ⟨hi, htab⟩ := Lib.deBruijn32_at _ hk
  have hcell := hT _ hi
  rw [htab] at hcell
  have hc : Lib.ctz 32 s.toNat = low s := by unfold Lib.ctz low; rw [if_neg hx0]
  rw [← hc]
  refine tz_core (un s) _ _ w ?_ (tz_key _ _ s.toNat_lt hx0 hlow) hi hk hcell
  unfold un
  simp
  omega
end Go.Proofs.YtidpieakofhmiaaDoor
