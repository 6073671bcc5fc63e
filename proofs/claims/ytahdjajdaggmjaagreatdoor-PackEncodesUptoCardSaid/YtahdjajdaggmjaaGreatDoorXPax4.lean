-- Written for this claim by a program of ours (wip/xp.py), out of the translation and of hand-written contracts.
import Derived.Test.YtahdjajdaggmjaaGreatDoorSx
import Derived.Test.YtahdjajdaggmjaaGreatDoorYrec
import Derived.Test.YtahdjajdaggmjaaGreatDoorYdec
import Derived.Test.YtahdjajdaggmjaaGreatDoorZrall
import Derived.Test.YtahdjajdaggmjaaGreatDoorZwr
import Derived.Test.YtahdjajdaggmjaaGreatDoorXPax3
namespace Go.Proofs.YtahdjajdaggmjaaGreatDoor.XPa
noncomputable section
open Go.RowKit Go.Proofs.YtahdjajdaggmjaaGreatDoorW.PrintWords Go.Proofs.YtahdjajdaggmjaaGreatDoorW.PrintLast Go.Proofs.YtahdjajdaggmjaaGreatDoorW.PrintMore
attribute [local go_sem] max2_int min2_int max_two min_two max_three min_three max_four min_four
set_option linter.unusedVariables false
set_option linter.unusedSimpArgs false
def pa_sealed.f (k : Nat) (l0 : List Int) : Option (List Int) := (pack_Sum.f k l0).bind fun t115 => ((some (([(t115 / 16777216) % 256, (t115 / 65536) % 256, (t115 / 256) % 256, (t115) % 256] : List Int) : List Int)).bind fun y116 => (if l0.length + y116.length < 140737488355328 then (some (l0 ++ y116)) else (none)))
theorem pa_sealed.mono : ∀ a0 k, LeO (pa_sealed.f k a0) (pa_sealed.f (k + 1) a0) := by
  intro a0 k
  unfold pa_sealed.f
  have m0_ := @pack_Sum.mono
  exact tMo
set_option maxHeartbeats 8000000 in
set_option maxRecDepth 100000 in
theorem pa_sealed.calls (k : Nat) (P0_ : Nat → Prop) (u9000_ : Value) (l0 : List Int) (r : List Int) (w0 w : World) (hB : Below w0.heap.size w0 w) (ho0 : Kd.R (Kd.int .u8) 5 w w0.heap.size P0_ u9000_ l0) (h : pa_sealed.f k l0 = some r) :
  Calls Tryz.prog 22 #[u9000_] w fun e w' => ∃ v0_ : Value, e = .returned (v0_) ∧ Kd.R (Kd.int .u8) 5 w' w0.heap.size (fun k_ => (P0_ k_ ∨ w.heap.size ≤ k_)) v0_ r ∧ Below w0.heap.size w0 w' ∧ Kept w w' (fun k_ => P0_ k_) := by
 have HO0 := Aside0.mk (show Kd.R (Kd.int .u8) 5 w w0.heap.size (fun k_ => (P0_ k_ ∨ w.heap.size ≤ k_)) u9000_ l0 from Kd.R_mono ho0 (fun k_ hk => (.inl hk)))
 have HK := Aside0.mk (Kept.refl w (fun k_ => P0_ k_))
 have HW0 := Aside0.mk hB.size
 have HB := Aside0.mk hB
 clear hB
 have H : ((pack_Sum.f k l0).bind fun t115 => ((some (([(t115 / 16777216) % 256, (t115 / 65536) % 256, (t115 / 256) % 256, (t115) % 256] : List Int) : List Int)).bind fun y116 => (if l0.length + y116.length < 140737488355328 then (some (l0 ++ y116)) else (none)))) = some r := h
 clear h
 replace H := iX H
 obtain ⟨t115, A2, H⟩ := H
 obtain ⟨y116, hy116⟩ : ∃ y_ : List Int, y_ = (([(t115 / 16777216) % 256, (t115 / 65536) % 256, (t115 / 256) % 256, (t115) % 256] : List Int)) := ⟨_, rfl⟩
 replace H : (if l0.length + y116.length < 140737488355328 then (some (l0 ++ y116)) else (none)) = some r := tY hy116 H
 have Ny116 := Aside0.mk hy116
 clear hy116
 replace H := niC H
 obtain ⟨c3, H⟩ := H
 have LMc3 := Aside0.mk c3
 clear c3
 obtain ⟨y119, hy119⟩ : ∃ y_ : List Int, y_ = (l0 ++ y116) := ⟨_, rfl⟩
 replace H : (some y119) = some r := tY hy119 H
 have Ny119 := Aside0.mk hy119
 clear hy119
 obtain rfl := Option.some.inj H
 obtain ⟨Aoh0, coh0, eoh0⟩ := Kd.R_slice HO0.out
 subst eoh0
 go_enter Tryz.func22, Tryz.ntmps22
 go_wp2_with (first | ((with_reducible refine gf_ 11 rfl ?_); refine gC_ (some 5) Tryz.func11 #[.slice Aoh0 l0.length coh0] ?_; (with_reducible refine (pack_Sum.calls k _ _ l0 t115 _ ?side1 ?side2 A2.out).mono ?_); (case side1 => exact tCr HO0); (case side2 => exact (Kd.R_reads' HO0.out).2.1); rintro e w' ⟨rfl, ⟨nd, rfl⟩⟩; refine ⟨_, rfl, ?_⟩) | ((with_reducible refine gate_dst (N := 18) rfl ?_); refine Kd.R_lit (Kd.int .u8) _ 5 ?hg (N := 18) ?hd (xs := ([(t115 / 16777216) % 256, (t115 / 65536) % 256, (t115 / 256) % 256, (t115) % 256] : List Int)) (inner := [.int .u8 ((t115 / 16777216) % 256), .int .u8 ((t115 / 65536) % 256), .int .u8 ((t115 / 256) % 256), .int .u8 ((t115) % 256)]) (ok := fun _ => True) (okp := fun _ => True) ?hr ?hp (fun _ hk => hk) trivial (Below.refl _ _) (Nat.le_refl _) (by simp) ?_; (case hd => rfl); (case hg => rfl); (case hr => first | (go_simp; done) | (go_simp; rfl)); (case hp => exact (Reps.one (show Kd.M (Kd.int .u8) _ _ _ ((t115 / 16777216) % 256) [.int .u8 ((t115 / 16777216) % 256)] from rfl) (Reps.one (show Kd.M (Kd.int .u8) _ _ _ ((t115 / 65536) % 256) [.int .u8 ((t115 / 65536) % 256)] from rfl) (Reps.one (show Kd.M (Kd.int .u8) _ _ _ ((t115 / 256) % 256) [.int .u8 ((t115 / 256) % 256)] from rfl) (Reps.one (show Kd.M (Kd.int .u8) _ _ _ ((t115) % 256) [.int .u8 ((t115) % 256)] from rfl) (Reps.none _ _)))))); intro v117 w5 ho6 hb hg_ hnew_; clear hg_ hnew_; (first | rw [← Ny116.out] at ho6 | (simp only [Int.reduceToNat] at ho6; rw [← Ny116.out] at ho6)); have HO118 := Aside0.mk (Kd.R_lower (Kd.R_new' (Kd.R_newM (M := fun k_ => (P0_ k_ ∨ w.heap.size ≤ k_)) ho6 (by first | exact HK.out.1 | exact (show Kept w _ (fun k_ => P0_ k_) from tKe).1) (fun k_ h_ => .inr h_)) (Kd.R_lt (tR HO0))) (below_size tB)); replace HO0 := Aside0.mk (Kd.R_elder' (tR HO0) (Kd.R_base ho6) hb); replace HK := Aside0.mk (Kept.below (S := (fun k_ => P0_ k_)) tKe hb); replace HB := Aside0.mk (below_step tB hb); clear hb ho6; obtain ⟨Aoh118, coh118, eoh118⟩ := Kd.R_slice HO118.out; subst eoh118) | ((with_reducible refine gate_builtin (b := .append) (xs := #[.tmp 6, .tmp 18]) rfl ?_); at_builtin; refine Kd.R_append_rows (Kd.int .u8) (w0 := w0) w0.heap.size rfl (.tmp 6) (.tmp 18) 23 5 (.int .u8 0) 1 rfl Tryz.underlying23 info5 rfl (by decide) (by omega) (.slice Aoh0 l0.length coh0) l0 y116 _ _ _ (fun k_ => (P0_ k_ ∨ w.heap.size ≤ k_) ∧ some k_ ≠ (.slice Aoh118 y116.length coh118 : Value).ownBlock) (fun _ => False) rfl rfl ?aO ?aR (fun _ _ h => h) (fun _ h => h.elim) ?aF ?aB ?aS ?aL ?_; (case aR => exact tCr HO118); (case aB => exact tB); (case aF => exact (fun k_ hk => ⟨(.inr (Nat.le_trans (by first | exact HK.out.1 | exact (show Kept w _ (fun k_ => P0_ k_) from tKe).1) hk)), Kd.fresh' (Kd.R_lt (tR HO118)) k_ hk⟩)); (case aO => exact (tR HO0)); (case aS => exact (below_size tB)); (case aL => have := LMc3.out; omega); intro v120 w7 ho hb hg hat; rw [← Ny119.out] at ho; replace HO118 := Aside0.mk (Kd.R_after (ok := (fun k_ => (P0_ k_ ∨ w.heap.size ≤ k_))) (by (with_reducible repeat (first | apply Kd.R_alloc | apply Kd.R_drewN | apply Kd.R_drew)); exact Kd.R_mono HO118.out (fun _ hk => ⟨hk.1.1, hk.2⟩)) hg hat); replace HB := Aside0.mk (hb); replace HK := Aside0.mk (Kept.of_grown (S := (fun k_ => P0_ k_)) hg tKe (fun k_ e_ => (HO0.out.1 k_ e_).1)); have HO121 := Aside0.mk (ho); clear HO0 ho hb hg hat))
 go_ret
 exact ⟨_, tE, by (with_reducible repeat (first | apply Kd.R_alloc | apply Kd.R_drewN | apply Kd.R_drew)); exact Kd.R_mono HO121.out (fun _ hk => hk.1), tB, tKe⟩
def ut_Decode1.f (a0 : ByteArray) : Option (Int × Int) := some (((Lib.decodeGo a0).1 : Int), ((Lib.decodeGo a0).2 : Int))
theorem ut_Decode1.calls (a0 : ByteArray) (r1 : Int) (r2 : Int) (w : World) (HT : Aside0 (Tab w)) (h : ut_Decode1.f a0 = some (r1, r2)) :
    Calls Tryz.prog 72 #[.string a0] w fun e w' => e = .returned (.tuple #[.int .i32 r1, .int .i64 r2]) ∧ Below w.heap.size w w' := by
 have h' := Option.some.inj h
 obtain ⟨rfl, rfl⟩ := Prod.mk.inj h'
 exact ut_Decode a0 w HT.out
def st_HasPre1.f (a0 : ByteArray) (a1 : ByteArray) : Option (Bool) := if (a0.size : Int) ≥ (a1.size : Int) then (if 0 ≤ (a1.size : Int) then (if (a1.size : Int) ≤ (a0.size : Int) then (some ((a0.extract 0 ((a1.size : Int) : Int).toNat).toList == a1.toList)) else (none)) else (none)) else (some false)
set_option maxHeartbeats 8000000 in
set_option maxRecDepth 100000 in
theorem st_HasPre1.calls (a0 : ByteArray) (a1 : ByteArray) (r : Bool) (w : World) (h : st_HasPre1.f a0 a1 = some r) :
  Calls Tryz.prog 107 #[.string a0, .string a1] w fun e w' => e = .returned (.bool r) ∧ Drawn0 w w' := by
 have H : (if (a0.size : Int) ≥ (a1.size : Int) then (if 0 ≤ (a1.size : Int) then (if (a1.size : Int) ≤ (a0.size : Int) then (some ((a0.extract 0 ((a1.size : Int) : Int).toNat).toList == a1.toList)) else (none)) else (none)) else (some false)) = some r := h
 clear h
 replace H := iGkk H
 rcases H with ⟨c3, c3b0, H⟩ | ⟨c3, c3b0, H⟩
 ·have c3b1 : decide (a1.size ≤ a0.size) = true := decide_eq_true (Int.ofNat_le.mp c3)
  clear c3
  replace H := niT H
  obtain ⟨c4b0, c4b1, H⟩ := H
  replace H := niT H
  obtain ⟨c5b0, c5b1, H⟩ := H
  obtain rfl := Option.some.inj H
  go_enter Tryz.func107, Tryz.ntmps107
  exact zz0
 have c3b1 : decide (a1.size ≤ a0.size) = false := decide_eq_false (fun h => c3 (Int.ofNat_le.mpr h))
 clear c3
 obtain rfl := Option.some.inj H
 go_enter Tryz.func107, Tryz.ntmps107
 exact zz0
def st_HasPre.f (a0 : ByteArray) (a1 : ByteArray) : Option (Bool) := (st_HasPre1.f a0 a1).bind fun t122 => (some t122)
set_option maxHeartbeats 8000000 in
set_option maxRecDepth 100000 in
theorem st_HasPre.calls (a0 : ByteArray) (a1 : ByteArray) (r : Bool) (w : World) (h : st_HasPre.f a0 a1 = some r) :
  Calls Tryz.prog 90 #[.string a0, .string a1] w fun e w' => e = .returned (.bool r) ∧ Drawn0 w w' := by
 have H : ((st_HasPre1.f a0 a1).bind fun t122 => (some t122)) = some r := h
 clear h
 replace H := iX H
 obtain ⟨t122, A3, H⟩ := H
 obtain rfl := Option.some.inj H
 go_enter Tryz.func90, Tryz.ntmps90
 go_wp2_with (first | ((with_reducible refine gf_ 107 rfl ?_); refine gC_ (some 7) Tryz.func107 #[.string a0, .string a1] ?_; (with_reducible refine (st_HasPre1.calls a0 a1 t122 _ A3.out).mono ?_); rintro e w' ⟨rfl, ⟨nd, rfl⟩⟩; refine ⟨_, rfl, ?_⟩))
 go_ret
 exact ⟨tS, tD⟩
theorem hpre_f (a b : ByteArray) : st_HasPre.f a b = some (hpre a b) := by
  unfold st_HasPre.f st_HasPre1.f
  by_cases h : b.size ≤ a.size
  · rw [if_pos (by omega), if_pos (by omega), if_pos (by omega), Int.toNat_natCast, hpre_eq a b]
    rfl
  · rw [if_neg (by omega), hpre_short a b h]
    rfl
theorem hpre_calls (a b : ByteArray) (w : World) : Calls Tryz.prog 90 #[.string a, .string b] w fun e w' => e = .returned (.bool (hpre a b)) ∧ Below w.heap.size w w' := by
  refine (st_HasPre.calls a b _ w (hpre_f a b)).mono ?_
  rintro e w' ⟨rfl, hd⟩
  exact ⟨rfl, hd.below⟩
def le_past.f (a0 : ByteArray) (a1 : Int) : Option Int := if a0.size ≤ 1000000 ∧ 0 ≤ a1 ∧ a1 ≤ a0.size then some ((a1.toNat + skip false (a0.data.toList.drop a1.toNat) : Nat) : Int) else none
theorem le_past.calls (a0 : ByteArray) (a1 : Int) (r : Int) (w : World) (h : le_past.f a0 a1 = some r) :
    Calls Tryz.prog 73 #[.string a0, .int .i64 a1] w fun e w' => e = .returned (.int .i64 r) ∧ Below w.heap.size w w' := by
 unfold le_past.f at h
 by_cases hr : a0.size ≤ 1000000 ∧ 0 ≤ a1 ∧ a1 ≤ a0.size
 ·rw [if_pos hr] at h
  obtain rfl := Option.some.inj h
  have hc := le_past1 hpre_calls a0 a1.toNat w hr.1 (by omega)
  rw [show ((a1.toNat : Nat) : Int) = a1 by omega] at hc
  exact hc
 ·rw [if_neg hr] at h
  exact absurd h (by simp)
def le_letter.f (a0 : Int) : Option (Bool) := if a0 ≥ 97 then (if a0 ≤ 122 then (some true) else (if a0 ≥ 65 then (if a0 ≤ 90 then (some true) else (some (a0 == 95))) else (some (a0 == 95)))) else (if a0 ≥ 65 then (if a0 ≤ 90 then (some true) else (some (a0 == 95))) else (some (a0 == 95)))
set_option maxHeartbeats 8000000 in
set_option maxRecDepth 100000 in
theorem le_letter.calls (a0 : Int) (r : Bool) (w : World) (h : le_letter.f a0 = some r) :
  Calls Tryz.prog 108 #[.int .u8 a0] w fun e w' => e = .returned (.bool r) ∧ Drawn0 w w' := by
 have H : (if a0 ≥ 97 then (if a0 ≤ 122 then (some true) else (if a0 ≥ 65 then (if a0 ≤ 90 then (some true) else (some (a0 == 95))) else (some (a0 == 95)))) else (if a0 ≥ 65 then (if a0 ≤ 90 then (some true) else (some (a0 == 95))) else (some (a0 == 95)))) = some r := h
 clear h
 replace H := iG H
 rcases H with ⟨c2b0, H⟩ | ⟨c2b0, H⟩
 ·replace H := iD H
  rcases H with ⟨c3b0, H⟩ | ⟨c3b0, H⟩
  ·obtain rfl := Option.some.inj H
   go_enter Tryz.func108, Tryz.ntmps108
   exact zz0
  replace H := iG H
  rcases H with ⟨c4b0, H⟩ | ⟨c4b0, H⟩
  ·replace H := iD H
   rcases H with ⟨c5b0, H⟩ | ⟨c5b0, H⟩
   ·obtain rfl := Option.some.inj H
    go_enter Tryz.func108, Tryz.ntmps108
    exact zz0
   obtain rfl := Option.some.inj H
   go_enter Tryz.func108, Tryz.ntmps108
   exact zz0
  obtain rfl := Option.some.inj H
  go_enter Tryz.func108, Tryz.ntmps108
  exact zz0
 replace H := iG H
 rcases H with ⟨c6b0, H⟩ | ⟨c6b0, H⟩
 ·replace H := iD H
  rcases H with ⟨c7b0, H⟩ | ⟨c7b0, H⟩
  ·obtain rfl := Option.some.inj H
   go_enter Tryz.func108, Tryz.ntmps108
   exact zz0
  obtain rfl := Option.some.inj H
  go_enter Tryz.func108, Tryz.ntmps108
  exact zz0
 obtain rfl := Option.some.inj H
 go_enter Tryz.func108, Tryz.ntmps108
 exact zz0
def le_name.l0 : Nat → ByteArray → Int → Option (Int)
  | 0, _, _ => none
  | k + 1, x0, x3 => if x3 < (x0.size : Int) then (if 0 ≤ x3 then ((le_letter.f (bt x0 x3)).bind fun t123 => (if t123 = true then (le_name.l0 k x0 (wrap64 (x3 + 1))) else (if x3 > 0 then (if (bt x0 x3) ≥ 48 then (if (bt x0 x3) ≤ 57 then (le_name.l0 k x0 (wrap64 (x3 + 1))) else (some x3)) else (some x3)) else (some x3)))) else (none)) else (some x3)
def le_name.f (k : Nat) (a0 : ByteArray) : Option (Int) := le_name.l0 k a0 0
theorem le_name.z0 {p : Prop} (h_ : p := by (first | (obtain rfl := Option.some.inj H) | (have H' := Aside0.mk H; clear H)); (try (have p4 : 0 ≤ (x3_1 : Int) := tA; have q4 : x3_1 < (a0.size : Int) := tA; have hx4 := bt_at a0 x3_1; replace p4 := eq_true p4; replace q4 := eq_true q4)); go_wp2_with (first | (go_at_call 108; (with_reducible refine (le_letter.calls (bt a0 x3_1) false _ A5.out).mono ?_); rintro e w' ⟨rfl, ⟨nd, rfl⟩⟩; have p8 : 0 ≤ (x3_1 : Int) := tA; have q8 : x3_1 < (a0.size : Int) := tA; have hx8 := bt_at a0 x3_1; replace p8 := eq_true p8; replace q8 := eq_true q8; have p10 : 0 ≤ (x3_1 : Int) := tA; have q10 : x3_1 < (a0.size : Int) := tA; have hx10 := bt_at a0 x3_1; replace p10 := eq_true p10; replace q10 := eq_true q10)); first | (go_ret; exact ⟨tS, tD⟩) | (go_roundg k1; (case measure => have := HK1.out; omega); (case rel => exact ⟨(wrap64 (x3_1 + 1)), tS, H', ⟨by have := HK1.out; omega⟩, tD⟩))) : p := h_
set_option maxHeartbeats 8000000 in
set_option maxRecDepth 100000 in
theorem le_name.calls (k : Nat) (a0 : ByteArray) (r : Int) (w : World) (h : le_name.f k a0 = some r) :
  Calls Tryz.prog 91 #[.string a0] w fun e w' => e = .returned (.int .i64 r) ∧ Drawn0 w w' := by
 have H : (le_name.l0 k a0 0) = some r := h
 clear h
 have H' := Aside0.mk H
 clear H
 go_enter Tryz.func91, Tryz.ntmps91
 go_wp2
 go_loopg [3] k (fun kq v3 w' => ∃ (x3_1 : Int), v3 = .int .i64 x3_1 ∧ Aside0 (le_name.l0 kq a0 x3_1 = some r) ∧ Aside0 (kq ≤ k) ∧ Drawn0 w w')
 case atStart => exact ⟨(0), tS, H', ⟨Nat.le_refl _⟩, tD⟩
 case round =>
  clear H'
  obtain ⟨x3_1, rfl, HA, HK1, ⟨m1, rfl⟩⟩ := hrel
  cases gk with
  | zero => exact absurd HA.out (by simp [le_name.l0])
  | succ k1 =>
   have H := HA.out
   clear HA
   simp only [le_name.l0] at H
   replace H := iD H
   rcases H with ⟨c2b0, H⟩ | ⟨c2b0, H⟩
   ·replace H := niD H
    obtain ⟨c3b0, H⟩ := H
    replace H := iX H
    obtain ⟨t123, A5, H⟩ := H
    replace H := iB H
    rcases H with ⟨rfl, H⟩ | ⟨rfl, H⟩
    ·have H' := Aside0.mk H
     clear H
     have p4 : 0 ≤ (x3_1 : Int) := tA
     have q4 : x3_1 < (a0.size : Int) := tA
     have hx4 := bt_at a0 x3_1
     replace p4 := eq_true p4
     replace q4 := eq_true q4
     go_wp2_with (first | (go_at_call 108; (with_reducible refine (le_letter.calls (bt a0 x3_1) true _ A5.out).mono ?_); rintro e w' ⟨rfl, ⟨nd, rfl⟩⟩))
     go_roundg k1
     case measure => have := HK1.out; omega
     case rel => exact ⟨(wrap64 (x3_1 + 1)), tS, H', ⟨by have := HK1.out; omega⟩, tD⟩
    replace H := iH H
    rcases H with ⟨c7b0, H⟩ | ⟨c7b0, H⟩
    ·replace H := iG H
     rcases H with ⟨c9b0, H⟩ | ⟨c9b0, H⟩
     ·replace H := iD H
      rcases H with ⟨c11b0, H⟩ | ⟨c11b0, H⟩
      ·exact le_name.z0
      exact le_name.z0
     obtain rfl := Option.some.inj H
     have p4 : 0 ≤ (x3_1 : Int) := tA
     have q4 : x3_1 < (a0.size : Int) := tA
     have hx4 := bt_at a0 x3_1
     replace p4 := eq_true p4
     replace q4 := eq_true q4
     go_wp2_with (first | (go_at_call 108; (with_reducible refine (le_letter.calls (bt a0 x3_1) false _ A5.out).mono ?_); rintro e w' ⟨rfl, ⟨nd, rfl⟩⟩; have p8 : 0 ≤ (x3_1 : Int) := tA; have q8 : x3_1 < (a0.size : Int) := tA; have hx8 := bt_at a0 x3_1; replace p8 := eq_true p8; replace q8 := eq_true q8))
     go_ret
     exact ⟨tS, tD⟩
    obtain rfl := Option.some.inj H
    have p4 : 0 ≤ (x3_1 : Int) := tA
    have q4 : x3_1 < (a0.size : Int) := tA
    have hx4 := bt_at a0 x3_1
    replace p4 := eq_true p4
    replace q4 := eq_true q4
    go_wp2_with (first | (go_at_call 108; (with_reducible refine (le_letter.calls (bt a0 x3_1) false _ A5.out).mono ?_); rintro e w' ⟨rfl, ⟨nd, rfl⟩⟩))
    go_ret
    exact ⟨tS, tD⟩
   exact zz5
theorem letter_f (c : UInt8) : le_letter.f (c.toNat : Int) = some (letB c) := by
  unfold le_letter.f letB
  have h95 : ((c.toNat : Int) == 95) = (c.toNat == 95) := by
    rw [Bool.eq_iff_iff, beq_iff_eq, beq_iff_eq]; omega
  rw [h95]
  by_cases h1 : 97 ≤ c.toNat
  · rw [if_pos (by omega), decide_eq_true h1]
    by_cases h2 : c.toNat ≤ 122
    · rw [if_pos (by omega), decide_eq_true h2]; rfl
    · rw [if_neg (by omega), if_pos (by omega), if_neg (by omega), decide_eq_false h2, decide_eq_false (show ¬ c.toNat ≤ 90 by omega)]
      simp
  · rw [if_neg (by omega), decide_eq_false h1]
    by_cases h2 : 65 ≤ c.toNat
    · rw [if_pos (by omega), decide_eq_true h2]
      by_cases h3 : c.toNat ≤ 90
      · rw [if_pos (by omega), decide_eq_true h3]; rfl
      · rw [if_neg (by omega), decide_eq_false h3]; simp
    · rw [if_neg (by omega), decide_eq_false h2]; simp
theorem name_l0 (s : ByteArray) (hs : s.size ≤ 1000000) : ∀ (d k i : Nat), 0 < i → i + d = s.size → d < k → le_name.l0 k s (i : Int) = some ((i + ((s.data.toList.drop i).takeWhile alnB).length : Nat) : Int)
  | _, 0, _, _, _, hk => absurd hk (by omega)
  | 0, k + 1, i, h0, hi, _ => by
    rw [le_name.l0, if_neg (by omega), drop_end s i (by omega)]
    rfl
  | d + 1, k + 1, i, h0, hi, hk => by
    obtain ⟨c, hb, hd⟩ := bt_drop s i (by omega)
    have e2 : wrap64 ((i : Int) + 1) = ((i + 1 : Nat) : Int) := by
      unfold wrap64
      omega
    rw [le_name.l0, if_pos (by omega), if_pos (by omega), hb, letter_f, Option.bind_some, e2, name_l0 s hs d k (i + 1) (by omega) (by omega) (by omega), hd, List.takeWhile_cons]
    unfold alnB digB
    by_cases hl : letB c = true
    · rw [if_pos hl, hl, Bool.true_or, if_pos rfl, List.length_cons]
      congr 2
      omega
    · rw [if_neg hl, Bool.eq_false_iff.2 hl, Bool.false_or, if_pos (by omega)]
      by_cases h1 : 48 ≤ c.toNat
      · rw [if_pos (by omega), decide_eq_true h1, Bool.true_and]
        by_cases h2 : c.toNat ≤ 57
        · rw [if_pos (by omega), if_pos (decide_eq_true h2), List.length_cons]
          congr 2
          omega
        · rw [if_neg (by omega), if_neg (by simp [h2])]
          rfl
      · rw [if_neg (by omega), decide_eq_false h1, Bool.false_and, if_neg (by simp)]
        rfl
theorem name_f (s : ByteArray) (k : Nat) (hs : s.size ≤ 1000000) (hk : s.size < k) : le_name.f k s = some ((nameLen s.data.toList : Nat) : Int) := by
  unfold le_name.f
  obtain ⟨k, rfl⟩ : ∃ k', k = k' + 1 := ⟨k - 1, by omega⟩
  by_cases h0 : s.size = 0
  · have e := drop_end s 0 (by omega)
    rw [List.drop_zero] at e
    rw [le_name.l0, if_neg (by omega), e]
    rfl
  · obtain ⟨c, hb, hd⟩ := bt_drop s 0 (by omega)
    rw [List.drop_zero] at hd
    have hb' : bt s 0 = (c.toNat : Int) := hb
    have e2 : wrap64 ((0 : Int) + 1) = ((1 : Nat) : Int) := by
      unfold wrap64
      omega
    rw [le_name.l0, if_pos (by omega), if_pos (by omega), hb', letter_f, Option.bind_some, e2, name_l0 s hs (s.size - 1) k 1 (by omega) (by omega) (by omega), hd]
    rw [show nameLen (c :: s.data.toList.drop (0 + 1)) = if letB c = true then 1 + ((s.data.toList.drop (0 + 1)).takeWhile alnB).length else 0 from rfl]
    by_cases hl : letB c = true
    · rw [if_pos hl, if_pos hl]
      rfl
    · rw [if_neg hl, if_neg (by omega), if_neg hl]
      rfl
theorem name_calls (s : ByteArray) (hs : s.size ≤ 1000000) (w : World) : Calls Tryz.prog 91 #[.string s] w fun e w' => e = .returned (.int .i64 ((nameLen s.data.toList : Nat) : Int)) ∧ Below w.heap.size w w' := by
  refine (le_name.calls (s.size + 1) s _ w (name_f s _ hs (by omega))).mono ?_
  rintro e w' ⟨rfl, hd⟩
  exact ⟨rfl, hd.below⟩
def lex_one.f (a0 : ByteArray) : Option (Int × ByteArray × Int) := if a0.size ≤ 1000000 then some ((oneT (nameLen a0.data.toList) a0).1, (oneT (nameLen a0.data.toList) a0).2, 0) else none
theorem lex_one.calls (a0 : ByteArray) (r1 : Int) (r2 : ByteArray) (r3 : Int) (w : World) (HT : Aside0 (Tab w)) (h : lex_one.f a0 = some (r1, r2, r3)) :
    Calls Tryz.prog 74 #[.string a0] w fun e w' => e = .returned (.agg #[.int .i64 r1, .string r2, .int .i64 r3]) ∧ Below w.heap.size w w' := by
 unfold lex_one.f at h
 by_cases hr : a0.size ≤ 1000000
 ·rw [if_pos hr] at h
  simp only [Option.some.injEq, Prod.mk.injEq] at h
  obtain ⟨rfl, rfl, rfl⟩ := h
  exact le_one hpre_calls a0 (nameLen a0.data.toList) w HT.out (by rw [Lib.size_eq]; exact nameLen_le _) (name_calls a0 hr)
 ·rw [if_neg hr] at h
  exact absurd h (by simp)
mutual
def le_Scan.l0 : Nat → ByteArray → Int → Option ((List (S110)) × Int × Int)
  | 0, _, _ => none
  | k + 1, x0, x5 => if x5 < (x0.size : Int) then (if 0 ≤ x5 then (if x5 ≤ (x0.size : Int) then ((ut_Decode1.f (x0.extract (x5 : Int).toNat x0.size)).bind fun bt124 => (if bt124.1 = 65533 then (if bt124.2 < 2 then (some (([] : List (S110)), x5, 60)) else (le_Scan.l0 k x0 (wrap64 (x5 + bt124.2)))) else (le_Scan.l0 k x0 (wrap64 (x5 + bt124.2))))) else (none)) else (none)) else ((le_past.f x0 0).bind fun t126 => (le_Scan.l1 k x0 ([] : List (S110)) t126))
def le_Scan.l1 : Nat → ByteArray → List (S110) → Int → Option ((List (S110)) × Int × Int)
  | 0, _, _, _ => none
  | k + 1, x0, x8, x9 => if x9 < (x0.size : Int) then (if 0 ≤ x9 then (if x9 ≤ (x0.size : Int) then ((lex_one.f (x0.extract (x9 : Int).toNat x0.size)).bind fun bt130 => (if bt130.2.1.toList = ([] : List UInt8) then (some (([] : List (S110)), x9, 61)) else (if x8.length < 4398046511104 then ((le_past.f x0 (wrap64 (x9 + (bt130.2.1.size : Int)))).bind fun t137 => (le_Scan.l1 k x0 (x8 ++ [(⟨bt130.1, bt130.2.1, x9⟩ : S110)]) t137)) else (none)))) else (none)) else (none)) else (if x8.length < 4398046511104 then (some ((x8 ++ [(⟨0, (⟨#[]⟩ : ByteArray), (x0.size : Int)⟩ : S110)]), 0, 0)) else (none))
end
def le_Scan.f (k : Nat) (a0 : ByteArray) : Option ((List (S110)) × Int × Int) := if (a0.size : Int) > 65536 then (some (([] : List (S110)), 0, 3)) else (le_Scan.l0 k a0 0)
theorem le_Scan.mono_l : ∀ k, (∀ y0 y1, LeO (le_Scan.l0 k y0 y1) (le_Scan.l0 (k + 1) y0 y1)) ∧ (∀ y0 y1 y2, LeO (le_Scan.l1 k y0 y1 y2) (le_Scan.l1 (k + 1) y0 y1 y2))
  | 0 => ⟨fun _ _ r h => by simp [le_Scan.l0] at h, fun _ _ _ r h => by simp [le_Scan.l1] at h⟩
  | k + 1 => by
    obtain ⟨ih0, ih1⟩ := le_Scan.mono_l k
    refine ⟨?_, ?_⟩
    · intros; unfold le_Scan.l0; exact tMo
    · intros; unfold le_Scan.l1; exact tMo
theorem le_Scan.mono : ∀ a0 k, LeO (le_Scan.f k a0) (le_Scan.f (k + 1) a0) := by
  intro a0 k
  obtain ⟨ih0, ih1⟩ := le_Scan.mono_l k
  unfold le_Scan.f
  exact tMo
theorem le_Scan.z0 {p : Prop} (h_ : p := by (first | (simp only [Option.some.injEq, Prod.mk.injEq] at H; obtain ⟨rfl, rfl, rfl⟩ := H) | (have H' := Aside0.mk H; clear H)); go_wp2_with (first | ((with_reducible refine gf_ 72 rfl ?_); refine gC_ (some 22) Tryz.func72 #[.string (a0.extract (x5_1 : Int).toNat a0.size)] ?_; (with_reducible refine (ut_Decode1.calls (HT := ⟨Tab.below HT.out tB⟩) (a0.extract (x5_1 : Int).toNat a0.size) t124 t125 _ A6.out).mono ?_); rintro e wa ⟨rfl, hb⟩; refine ⟨_, rfl, ?_⟩; replace HB := Aside0.mk (below_step tB hb); (try clear hb))); first | (go_roundg k1; (case measure => have := HK1.out; omega); (case rel => exact ⟨(wrap64 (x5_1 + t125)), tZ, H', ⟨by have := HK1.out; omega⟩, ⟨tB⟩⟩)) | (go_ret3; exact ⟨_, tE, by first | exact Kd.R_nil _ _ _ _ _ | exact Kd.N_nil _ _ _ _ _ | exact Kd.V_nil _ _ _ _ _ | exact Kd.Q_nil _ _ _ _ _ | exact Kd.S_nil _ _ _ _ _, tB⟩)) : p := h_
theorem le_Scan.z1 {p : Prop} (h_ : p := by (first | (simp only [Option.some.injEq, Prod.mk.injEq] at H; obtain ⟨rfl, rfl, rfl⟩ := H) | (have H' := Aside0.mk H; clear H)); go_wp2_with (first | ((with_reducible refine gf_ 74 rfl ?_); refine gC_ (some 44) Tryz.func74 #[.string (a0.extract (x9_2 : Int).toNat a0.size)] ?_; (with_reducible refine (lex_one.calls (HT := ⟨Tab.below HT.out tB⟩) (a0.extract (x9_2 : Int).toNat a0.size) t130 t131 t132 _ A17.out).mono ?_); rintro e wa ⟨rfl, hb⟩; refine ⟨_, rfl, ?_⟩; replace HO_8 := Aside0.mk (Kd.R_below (tR HO_8) hb); replace HB := Aside0.mk (below_step tB hb); (try clear hb)) | ((with_reducible refine gd_ 10 rfl ?_); refine boxE 10 #[.int .i64 0, .string (⟨#[]⟩ : ByteArray), .int .i64 0] 110 ?_; intro gb133 hg wa hbox hb; replace HO_8 := Aside0.mk (Kd.R_below (Kd.R_elderB (tR HO_8) gb133 (Nat.le_of_eq hg.symm)) hb); have BK133 := Aside0.mk (hbox); have GW133 := Aside0.mk (tG : w.heap.size ≤ gb133); have GE133 := Aside0.mk (tG : w.heap.size ≤ gb133); replace HB := Aside0.mk (below_step tB hb); clear hb hbox hg; have hcza := cz3 BK133.out) | ((with_reducible refine gate_builtin (b := .append) (xs := #[.tmp 51, .tmp 53]) rfl ?_); at_builtin; refine Kd.R_append k110 (w0 := w) w.heap.size rfl (.tmp 51) (.tmp 53) 107 110 (.agg #[(.int .i64 0), (.string ⟨#[]⟩), (.int .i64 0)]) 32 rfl Tryz.underlying107 info110 rfl (by decide) (by omega) u8 x8_2 (⟨t130, t131, x9_2⟩ : S110) [.int .i64 t130, .string t131, .int .i64 x9_2] (fun k_ => k_ ≠ gb133) (fun _ => False) rfl (by first | (go_simp; done) | (go_simp; rfl)) ?aP (fun _ hk => hk.elim) ?aF ?aO ?aB ?aS ?aL ?_; (case aP => exact k110_mkM _ _ _ (⟨t130, t131, x9_2⟩ : S110)); (case aB => exact (tBs GE133)); (case aF => exact (fun k_ hk => Kd.freshB (g := gb133) (o := .cells #[.int .i64 t130, .string t131, .int .i64 x9_2] 110 (0, 0)) (tPt BK133) k_ hk)); (case aO => exact (by (with_reducible repeat (first | apply Kd.R_alloc | apply Kd.R_drewN | apply Kd.R_drew)); exact Kd.R_mono (tRf (Kd.R_mono HO_8.out (fun k_ hk => (⟨hk, hk.2⟩ : _ ∧ k_ ≠ gb133)))) (fun _ hk => hk.1.2))); (case aS => exact (below_size (tBs GE133))); (case aL => have := LMc22.out; omega); intro v135 wa ho hb hg hat; rw [← Ny134.out] at ho; replace BK133 := Aside0.mk (blk_grown (g := gb133) (o := .cells #[.int .i64 t130, .string t131, .int .i64 x9_2] 110 (0, 0)) (tPt BK133) hg (Kd.R_away HO_8.out (fun _ hk => hk.2))); replace HB := Aside0.mk (hb); have HO136 := Aside0.mk (ho); clear HO_8 ho hb hg hat; have hcza := cz3 BK133.out) | ((with_reducible refine gf_ 73 rfl ?_); refine gC_ (some 61) Tryz.func73 #[.string a0, .int .i64 (wrap64 (x9_2 + (t131.size : Int)))] ?_; (with_reducible refine (le_past.calls a0 (wrap64 (x9_2 + (t131.size : Int))) t137 _ A23.out).mono ?_); rintro e wa ⟨rfl, hb⟩; refine ⟨_, rfl, ?_⟩; replace HO136 := Aside0.mk (Kd.R_below (tR HO136) hb); replace BK133 := Aside0.mk (blk_below (g := gb133) (o := .cells #[.int .i64 t130, .string t131, .int .i64 x9_2] 110 (0, 0)) (tK BK133) hb); replace HB := Aside0.mk (below_step (tBs GE133) hb); (try clear hb))); first | (go_roundg k2; (case measure => have := HK1.out; have := HK2.out; omega); (case rel => exact ⟨(y134), (t137), tZ, H', ⟨by have := HK1.out; have := HK2.out; omega⟩, ⟨by (with_reducible repeat (first | apply Kd.R_alloc | apply Kd.R_drewN | apply Kd.R_drew)); exact Kd.R_mono HO136.out (fun _ hk => trivial)⟩, ⟨tBs GE133⟩⟩)) | (go_ret3; exact ⟨_, tE, by first | exact Kd.R_nil _ _ _ _ _ | exact Kd.N_nil _ _ _ _ _ | exact Kd.V_nil _ _ _ _ _ | exact Kd.Q_nil _ _ _ _ _ | exact Kd.S_nil _ _ _ _ _, by repeat (first | (with_reducible first | exact HB.out | apply below_alloc | apply pw_below_drewN | apply below_drew1 | refine below_set ?_ GE133.out) | exact HB.out)⟩)) : p := h_
set_option maxHeartbeats 8000000 in
set_option maxRecDepth 100000 in
theorem le_Scan.calls (k : Nat) (a0 : ByteArray) (r1 : List (S110)) (r2 : Int) (r3 : Int) (w : World) (HT : Aside0 (Tab w)) (h : le_Scan.f k a0 = some (r1, r2, r3)) :
  Calls Tryz.prog 53 #[.string a0] w fun e w' => ∃ v0_ : Value, e = .returned (.tuple #[v0_, .int .i64 r2, .int .i64 r3]) ∧ Kd.R k110 110 w' w.heap.size (fun _ => True) v0_ r1 ∧ Below w.heap.size w w' := by
 have hu110 := Tryz.underlying110
 have HB := Aside0.mk (Below.refl w.heap.size w)
 have H : (if (a0.size : Int) > 65536 then (some (([] : List (S110)), 0, 3)) else (le_Scan.l0 k a0 0)) = some (r1, r2, r3) := h
 clear h
 replace H := iHkk H
 rcases H with ⟨c2, c2b0, H⟩ | ⟨c2, c2b0, H⟩
 ·have c2b1 : decide (65536 < a0.size) = true := decide_eq_true (by omega)
  clear c2
  simp only [Option.some.injEq, Prod.mk.injEq] at H
  obtain ⟨rfl, rfl, rfl⟩ := H
  have hss_ := @cell_twice
  go_enter Tryz.func53, Tryz.ntmps53
  exact zz3
 have c2b1 : decide (65536 < a0.size) = false := decide_eq_false (by omega)
 clear c2
 have H' := Aside0.mk H
 clear H
 have hss_ := @cell_twice
 go_enter Tryz.func53, Tryz.ntmps53
 go_wp2
 go_loopg [5] k (fun kq v5 w' => ∃ (x5_1 : Int), v5 = .int .i64 x5_1 ∧ Aside0 (le_Scan.l0 kq a0 x5_1 = some (r1, r2, r3)) ∧ Aside0 (kq ≤ k) ∧ Aside0 (Below w.heap.size w w'))
 case atStart => exact ⟨(0), tZ, H', ⟨Nat.le_refl _⟩, ⟨tB⟩⟩
 case round =>
  clear H'
  try clear c2
  try clear c2b0
  try clear c2b1
  obtain ⟨x5_1, rfl, HA, HK1, HB⟩ := hrel
  cases gk with
  | zero => exact absurd HA.out (by simp [le_Scan.l0])
  | succ k1 =>
   have H := HA.out
   clear HA
   simp only [le_Scan.l0] at H
   replace H := iD H
   rcases H with ⟨c3b0, H⟩ | ⟨c3b0, H⟩
   ·replace H := niT H
    obtain ⟨c4b0, c4b1, H⟩ := H
    replace H := niT H
    obtain ⟨c5b0, c5b1, H⟩ := H
    replace H := iX H
    obtain ⟨⟨t124, t125⟩, A6, H⟩ := H
    try dsimp only at H
    replace H := iE H
    rcases H with ⟨c7b0, c7b1, H⟩ | ⟨c7, c7b0, c7b1, H⟩
    ·replace H := iD H
     rcases H with ⟨c8b0, H⟩ | ⟨c8b0, H⟩
     ·exact le_Scan.z0
     exact le_Scan.z0
    exact le_Scan.z0
   replace H := iX H
   obtain ⟨t126, A12, H⟩ := H
   have H' := Aside0.mk H
   clear H
   go_wp2_with (first | ((with_reducible refine gf_ 73 rfl ?_); refine gC_ (some 36) Tryz.func73 #[.string a0, .int .i64 0] ?_; (with_reducible refine (le_past.calls a0 0 t126 _ A12.out).mono ?_); rintro e w13 ⟨rfl, hb⟩; refine ⟨_, rfl, ?_⟩; replace HB := Aside0.mk (below_step tB hb); (try clear hb)))
   go_loopg [8, 9] k1 (fun kq v8 v9 w' => ∃ (x8_2 : List (S110)) (x9_2 : Int), v9 = .int .i64 x9_2 ∧ Aside0 (le_Scan.l1 kq a0 x8_2 x9_2 = some (r1, r2, r3)) ∧ Aside0 (kq ≤ k1) ∧ Aside0 (Kd.R k110 110 w' w.heap.size (fun _ => True) v8 x8_2) ∧ Aside0 (Below w.heap.size w w'))
   case atStart => exact ⟨(([] : List (S110))), (t126), tZ, H', ⟨Nat.le_refl _⟩, ⟨by first | exact Kd.R_nil _ _ _ _ _ | exact Kd.N_nil _ _ _ _ _ | exact Kd.V_nil _ _ _ _ _ | exact Kd.Q_nil _ _ _ _ _ | exact Kd.S_nil _ _ _ _ _⟩, ⟨tB⟩⟩
   case round =>
    clear H'
    try clear c2
    try clear c2b0
    try clear c2b1
    try clear c3b0
    obtain ⟨x8_2, x9_2, rfl, HA, HK2, HO_8, HB⟩ := hrel
    cases gk with
    | zero => exact absurd HA.out (by simp [le_Scan.l1])
    | succ k2 =>
     have H := HA.out
     clear HA
     simp only [le_Scan.l1] at H
     replace H := iD H
     rcases H with ⟨c14b0, H⟩ | ⟨c14b0, H⟩
     ·replace H := niT H
      obtain ⟨c15b0, c15b1, H⟩ := H
      replace H := niT H
      obtain ⟨c16b0, c16b1, H⟩ := H
      replace H := iX H
      obtain ⟨⟨t130, t131, t132⟩, A17, H⟩ := H
      try dsimp only at H
      replace H := iE H
      rcases H with ⟨c18b0, c18b1, H⟩ | ⟨c18, c18b0, c18b1, H⟩
      ·exact le_Scan.z1
      replace H := niC H
      obtain ⟨c22, H⟩ := H
      have LMc22 := Aside0.mk c22
      clear c22
      obtain ⟨y134, hy134⟩ : ∃ y_ : List (S110), y_ = (x8_2 ++ [(⟨t130, t131, x9_2⟩ : S110)]) := ⟨_, rfl⟩
      replace H : ((le_past.f a0 (wrap64 (x9_2 + (t131.size : Int)))).bind fun t137 => (le_Scan.l1 k2 a0 y134 t137)) = some (r1, r2, r3) := tY hy134 H
      have Ny134 := Aside0.mk hy134
      clear hy134
      replace H := iX H
      obtain ⟨t137, A23, H⟩ := H
      exact le_Scan.z1
     replace H := niC H
     obtain ⟨c30, H⟩ := H
     have LMc30 := Aside0.mk c30
     clear c30
     obtain ⟨y127, hy127⟩ : ∃ y_ : List (S110), y_ = (x8_2 ++ [(⟨0, (⟨#[]⟩ : ByteArray), (a0.size : Int)⟩ : S110)]) := ⟨_, rfl⟩
     replace H : (some (y127, 0, 0)) = some (r1, r2, r3) := tY hy127 H
     have Ny127 := Aside0.mk hy127
     clear hy127
     simp only [Option.some.injEq, Prod.mk.injEq] at H
     obtain ⟨rfl, rfl, rfl⟩ := H
     go_wp2_with (first | ((with_reducible refine gate_builtin (b := .append) (xs := #[.tmp 62, .tmp 66]) rfl ?_); at_builtin; refine Kd.R_append k110 (w0 := w) w.heap.size rfl (.tmp 62) (.tmp 66) 107 110 (.agg #[(.int .i64 0), (.string ⟨#[]⟩), (.int .i64 0)]) 32 rfl Tryz.underlying107 info110 rfl (by decide) (by omega) u8 x8_2 (⟨0, (⟨#[]⟩ : ByteArray), (a0.size : Int)⟩ : S110) [.int .i64 0, .string (⟨#[]⟩ : ByteArray), .int .i64 (a0.size : Int)] (fun _ => True) (fun _ => False) rfl rfl ?aP (fun _ hk => hk.elim) ?aF ?aO ?aB ?aS ?aL ?_; (case aP => exact k110_mkM _ _ _ (⟨0, (⟨#[]⟩ : ByteArray), (a0.size : Int)⟩ : S110)); (case aB => exact tB); (case aF => exact (fun _ _ => trivial)); (case aO => exact (tR HO_8)); (case aS => exact (below_size tB)); (case aL => have := LMc30.out; omega); intro v128 w31 ho hb hg hat; rw [← Ny127.out] at ho; replace HB := Aside0.mk (hb); have HO129 := Aside0.mk (ho); clear HO_8 ho hb hg hat))
     go_ret3
     exact ⟨_, tE, by (with_reducible repeat (first | apply Kd.R_alloc | apply Kd.R_drewN | apply Kd.R_drew)); exact HO129.out, tB⟩
def pa_named.f (k : Nat) (a0 : ByteArray) : Option (Bool) := (le_Scan.f k a0).bind fun bt138 => (if bt138.2.2 = 0 then (if (bt138.1.length : Int) = 2 then (if 0 < (bt138.1.length : Int) then (if ((rd_T110 bt138.1 0).f0) = 1 then (some (((rd_T110 bt138.1 0).f1).toList == a0.toList)) else (some false)) else (none)) else (some false)) else (some false))
theorem pa_named.mono : ∀ a0 k, LeO (pa_named.f k a0) (pa_named.f (k + 1) a0) := by
  intro a0 k
  unfold pa_named.f
  have m0_ := @le_Scan.mono
  exact tMo
set_option maxHeartbeats 8000000 in
set_option maxRecDepth 100000 in
theorem pa_named.calls (k : Nat) (a0 : ByteArray) (r : Bool) (w : World) (HT : Aside0 (Tab w)) (h : pa_named.f k a0 = some r) :
  Calls Tryz.prog 38 #[.string a0] w fun e w' => e = .returned (.bool r) ∧ Below w.heap.size w w' := by
 have HB := Aside0.mk (Below.refl w.heap.size w)
 have H : ((le_Scan.f k a0).bind fun bt138 => (if bt138.2.2 = 0 then (if (bt138.1.length : Int) = 2 then (if 0 < (bt138.1.length : Int) then (if ((rd_T110 bt138.1 0).f0) = 1 then (some (((rd_T110 bt138.1 0).f1).toList == a0.toList)) else (some false)) else (none)) else (some false)) else (some false))) = some r := h
 clear h
 replace H := iX H
 obtain ⟨⟨t138, t139, t140⟩, A2, H⟩ := H
 try dsimp only at H
 replace H := iE H
 rcases H with ⟨c3b0, c3b1, H⟩ | ⟨c3, c3b0, c3b1, H⟩
 ·replace H := iE H
  rcases H with ⟨c4b0, c4b1, H⟩ | ⟨c4, c4b0, c4b1, H⟩
  ·by_cases c5 : 0 < (t138.length : Int)
   ·rw [if_pos c5] at H
    have c5b0 : decide (0 < (t138.length : Int)) = true := decide_eq_true c5
    have c5b1 : decide (0 < t138.length) = true := decide_eq_true (by omega)
    clear c5
    replace H := iE H
    rcases H with ⟨c6b0, c6b1, H⟩ | ⟨c6, c6b0, c6b1, H⟩
    ·obtain rfl := Option.some.inj H
     go_enter Tryz.func38, Tryz.ntmps38
     go_wp2_with (first | ((with_reducible refine gf_ 53 rfl ?_); refine gC_ (some 8) Tryz.func53 #[.string a0] ?_; (with_reducible refine (le_Scan.calls (HT := ⟨Tab.below HT.out tB⟩) k a0 t138 t139 t140 _ A2.out).mono ?_); rintro e w7 ⟨v141, rfl, ho0, hb⟩; refine ⟨_, rfl, ?_⟩; have HO142 := Aside0.mk (Kd.R_lower ho0 (below_size tB)); replace HB := Aside0.mk (below_step tB hb); (try clear hb); (try clear ho0); obtain ⟨Aoh142, coh142, eoh142⟩ := Kd.R_slice HO142.out; subst eoh142; have p143 : 0 ≤ (0 : Int) := (by omega); have q143 : 0 < (t138.length : Int) := tA; obtain ⟨ad143, e143, hx143_0, hx143_1, hx143_2⟩ := at_T110 (Kd.R_reads' HO142.out).2.2 0 p143 q143; cases e143; have qi143 : (0 < t138.length) = True := eq_true (by omega); (try rw [show ((0 : Int)).toNat = 0 from rfl] at hx143_0); (try rw [show 0 * 3 = 0 from rfl] at hx143_0); (try rw [Addr.add_zero'] at hx143_0); (try rw [show ((0 : Int)).toNat = 0 from rfl] at hx143_1); (try rw [show 0 * 3 = 0 from rfl] at hx143_1); (try rw [Addr.add_zero'] at hx143_1); (try rw [show ((0 : Int)).toNat = 0 from rfl] at hx143_2); (try rw [show 0 * 3 = 0 from rfl] at hx143_2); (try rw [Addr.add_zero'] at hx143_2); replace p143 := eq_true p143; replace q143 := eq_true q143; have p144 : 0 ≤ (0 : Int) := (by omega); have q144 : 0 < (t138.length : Int) := tA; obtain ⟨ad144, e144, hx144_0, hx144_1, hx144_2⟩ := at_T110 (Kd.R_reads' HO142.out).2.2 0 p144 q144; obtain rfl : ad143 = ad144 := (by injection e144); have qi144 : (0 < t138.length) = True := eq_true (by omega); (try rw [show ((0 : Int)).toNat = 0 from rfl] at hx144_0); (try rw [show 0 * 3 = 0 from rfl] at hx144_0); (try rw [Addr.add_zero'] at hx144_0); (try rw [show ((0 : Int)).toNat = 0 from rfl] at hx144_1); (try rw [show 0 * 3 = 0 from rfl] at hx144_1); (try rw [Addr.add_zero'] at hx144_1); (try rw [show ((0 : Int)).toNat = 0 from rfl] at hx144_2); (try rw [show 0 * 3 = 0 from rfl] at hx144_2); (try rw [Addr.add_zero'] at hx144_2); replace p144 := eq_true p144; replace q144 := eq_true q144))
     go_ret
     exact ⟨tE, tB⟩
    obtain rfl := Option.some.inj H
    go_enter Tryz.func38, Tryz.ntmps38
    go_wp2_with (first | ((with_reducible refine gf_ 53 rfl ?_); refine gC_ (some 8) Tryz.func53 #[.string a0] ?_; (with_reducible refine (le_Scan.calls (HT := ⟨Tab.below HT.out tB⟩) k a0 t138 t139 t140 _ A2.out).mono ?_); rintro e w9 ⟨v141, rfl, ho0, hb⟩; refine ⟨_, rfl, ?_⟩; have HO142 := Aside0.mk (Kd.R_lower ho0 (below_size tB)); replace HB := Aside0.mk (below_step tB hb); (try clear hb); (try clear ho0); obtain ⟨Aoh142, coh142, eoh142⟩ := Kd.R_slice HO142.out; subst eoh142; have p143 : 0 ≤ (0 : Int) := (by omega); have q143 : 0 < (t138.length : Int) := tA; obtain ⟨ad143, e143, hx143_0, hx143_1, hx143_2⟩ := at_T110 (Kd.R_reads' HO142.out).2.2 0 p143 q143; cases e143; have qi143 : (0 < t138.length) = True := eq_true (by omega); (try rw [show ((0 : Int)).toNat = 0 from rfl] at hx143_0); (try rw [show 0 * 3 = 0 from rfl] at hx143_0); (try rw [Addr.add_zero'] at hx143_0); (try rw [show ((0 : Int)).toNat = 0 from rfl] at hx143_1); (try rw [show 0 * 3 = 0 from rfl] at hx143_1); (try rw [Addr.add_zero'] at hx143_1); (try rw [show ((0 : Int)).toNat = 0 from rfl] at hx143_2); (try rw [show 0 * 3 = 0 from rfl] at hx143_2); (try rw [Addr.add_zero'] at hx143_2); replace p143 := eq_true p143; replace q143 := eq_true q143))
    go_ret
    exact ⟨tE, tB⟩
   ·rw [if_neg c5] at H
    exact absurd H (by simp)
  obtain rfl := Option.some.inj H
  go_enter Tryz.func38, Tryz.ntmps38
  go_wp2_with (first | ((with_reducible refine gf_ 53 rfl ?_); refine gC_ (some 8) Tryz.func53 #[.string a0] ?_; (with_reducible refine (le_Scan.calls (HT := ⟨Tab.below HT.out tB⟩) k a0 t138 t139 t140 _ A2.out).mono ?_); rintro e w11 ⟨v141, rfl, ho0, hb⟩; refine ⟨_, rfl, ?_⟩; have HO142 := Aside0.mk (Kd.R_lower ho0 (below_size tB)); replace HB := Aside0.mk (below_step tB hb); (try clear hb); (try clear ho0); obtain ⟨Aoh142, coh142, eoh142⟩ := Kd.R_slice HO142.out; subst eoh142))
  go_ret
  exact ⟨tE, tB⟩
 obtain rfl := Option.some.inj H
 go_enter Tryz.func38, Tryz.ntmps38
 go_wp2_with (first | ((with_reducible refine gf_ 53 rfl ?_); refine gC_ (some 8) Tryz.func53 #[.string a0] ?_; (with_reducible refine (le_Scan.calls (HT := ⟨Tab.below HT.out tB⟩) k a0 t138 t139 t140 _ A2.out).mono ?_); rintro e w13 ⟨v141, rfl, ho0, hb⟩; refine ⟨_, rfl, ?_⟩; have HO142 := Aside0.mk (Kd.R_lower ho0 (below_size tB)); replace HB := Aside0.mk (below_step tB hb); (try clear hb); (try clear ho0)))
 go_ret
 exact ⟨tE, tB⟩
end
end Go.Proofs.YtahdjajdaggmjaaGreatDoor.XPa
