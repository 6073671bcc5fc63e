/-
Walk: mask.Has, at a dimension.
-/
import Derived.Test.YtahbmjpgnfgklaaFaceE
namespace Go.Proofs.Ytahbmjpgnfgklaa
open Go.RowKit H
set_option maxRecDepth 100000 in
set_option maxHeartbeats 2000000 in
theorem mask_Has_hand (hdim : ∀ (i : Int) (w : World), Calls Try.prog 83 #[.int .i64 i] w fun e w' => e = .returned (.bool (dimI i)) ∧ Below w.heap.size w w') (x : UInt32) (i : Int) (hi : dimI i = true) (w : World) :
    Calls Try.prog 61 #[.int .u32 (un x), .int .i64 i] w fun e w' => e = .returned (.bool (hasI x i)) ∧ Below w.heap.size w w' := by
  have h1 := hdim i
  rw [hi] at h1
  have hr := of_decide_eq_true hi
  have hw : IntKind.u64.wrap i = i := by rw [IntKind.wrap_u64]; omega
  go_enter Try.func61, Try.ntmps61
  go_wp2_with (go_at_call 83; refine (h1 _).mono ?_; rintro e w2 ⟨rfl, hb2⟩)
  go_ret
  refine ⟨?_, hb2⟩
  unfold hasI
  rw [hi, Bool.true_and]
  have hlt : x.toNat / 2 ^ i.toNat < 4294967296 := Nat.lt_of_le_of_lt (Nat.div_le_self _ _) x.toNat_lt
  have hx : un x / 2 ^ i.toNat = un (UInt32.ofNat (x.toNat / 2 ^ i.toNat)) := by
    unfold un
    rw [UInt32.toNat_ofNat', Nat.mod_eq_of_lt hlt]
    simp
  have hb : (bits .and .u32 (un x / 2 ^ i.toNat) 1 == 1) = x.toNat.testBit i.toNat := by
    have e1 : (1 : Int) = un 1 := rfl
    rw [hx, e1, un_and, un_beq, Nat.testBit_eq_decide_div_mod_eq, Bool.eq_iff_iff]
    simp only [decide_eq_true_eq]
    rw [← UInt32.toNat_inj, UInt32.toNat_and, UInt32.toNat_ofNat', Nat.mod_eq_of_lt hlt]
    show _ &&& 1 = 1 ↔ _
    rw [Nat.and_one_is_mod]
  rw [← hb]
  rfl
end Go.Proofs.Ytahbmjpgnfgklaa
