-- Written for this claim by a program of ours (wip/xp.py), out of the translation and of hand-written contracts.
import Derived.Test.YtahdjajdaggmjaaGreatDoorSx
import Derived.Test.YtahdjajdaggmjaaGreatDoorYrec
import Derived.Test.YtahdjajdaggmjaaGreatDoorYdec
import Derived.Test.YtahdjajdaggmjaaGreatDoorZrall
import Derived.Test.YtahdjajdaggmjaaGreatDoorZwr
import Derived.Test.YtahdjajdaggmjaaGreatDoorXPax9
section
namespace Go.Proofs.YtahdjajdaggmjaaGreatDoor.XPa
noncomputable section
open Go.RowKit Go.Proofs.YtahdjajdaggmjaaGreatDoorW.PrintWords Go.Proofs.YtahdjajdaggmjaaGreatDoorW.PrintLast Go.Proofs.YtahdjajdaggmjaaGreatDoorW.PrintMore
attribute [local go_sem] max2_int min2_int max_two min_two max_three min_three max_four min_four
set_option linter.unusedVariables false
set_option linter.unusedSimpArgs false
def moreI2 (c : Int) : Int × Int := match moreN c.toNat with | some (n, low) => ((n : Int), (low : Int)) | none => (-1, 0)
set_option maxRecDepth 100000 in
theorem morex (c : UInt8) : r06more.f 6 (c.toNat : Int) = some (moreI2 (c.toNat : Int)) := by
  have key : ∀ n : Fin 256, r06more.f 6 ((n.val : Nat) : Int) = some (moreI2 ((n.val : Nat) : Int)) := by decide
  exact key ⟨c.toNat, c.toNat_lt⟩
def r06Utf.f (a0 : ByteArray) : Option Int := if a0.size ≤ 1000000 then some (utfN a0.size a0.data.toList 0) else none
theorem r06Utf.calls (a0 : ByteArray) (r : Int) (w : World) (h : r06Utf.f a0 = some r) :
    Calls Tryz.prog 56 #[.string a0] w fun e w' => e = .returned (.int .i64 r) ∧ Below w.heap.size w w' := by
 unfold r06Utf.f at h
 by_cases hr : a0.size ≤ 1000000
 ·rw [if_pos hr] at h
  obtain rfl := Option.some.inj h
  refine ref06_Utf (fun c w => ?_) a0 w hr
  refine (r06more.calls 6 (c.toNat : Int) _ _ w (morex c)).mono ?_
  rintro e w' ⟨rfl, hd⟩
  refine ⟨?_, hd.below⟩
  try unfold moreI2
  rw [Int.toNat_natCast]
  cases moreN c.toNat with
  | none => rfl
  | some p => rfl
 ·rw [if_neg hr] at h
  exact absurd h (by simp)
def r06blank.f (a0 : Int) : Option (Bool) := if a0 = 32 then (some true) else (if a0 = 9 then (some true) else (if a0 = 10 then (some true) else (some (a0 == 13))))
set_option maxHeartbeats 8000000 in
set_option maxRecDepth 100000 in
theorem r06blank.calls (a0 : Int) (r : Bool) (w : World) (h : r06blank.f a0 = some r) :
  Calls Tryz.prog 57 #[.int .u8 a0] w fun e w' => e = .returned (.bool r) ∧ Drawn0 w w' := by
 have H : (if a0 = 32 then (some true) else (if a0 = 9 then (some true) else (if a0 = 10 then (some true) else (some (a0 == 13))))) = some r := h
 clear h
 replace H := iE H
 rcases H with ⟨c2b0, c2b1, H⟩ | ⟨c2, c2b0, c2b1, H⟩
 ·obtain rfl := Option.some.inj H
  go_enter Tryz.func57, Tryz.ntmps57
  exact zz0
 replace H := iE H
 rcases H with ⟨c3b0, c3b1, H⟩ | ⟨c3, c3b0, c3b1, H⟩
 ·obtain rfl := Option.some.inj H
  go_enter Tryz.func57, Tryz.ntmps57
  exact zz0
 replace H := iE H
 rcases H with ⟨c4b0, c4b1, H⟩ | ⟨c4, c4b0, c4b1, H⟩
 ·obtain rfl := Option.some.inj H
  go_enter Tryz.func57, Tryz.ntmps57
  exact zz0
 obtain rfl := Option.some.inj H
 go_enter Tryz.func57, Tryz.ntmps57
 exact zz0
def r06letter.f (a0 : Int) : Option (Bool) := if a0 = 95 then (some true) else (if a0 ≥ 97 then (if a0 ≤ 122 then (some true) else (if a0 ≥ 65 then (some (decide (a0 ≤ 90))) else (some false))) else (if a0 ≥ 65 then (some (decide (a0 ≤ 90))) else (some false)))
set_option maxHeartbeats 8000000 in
set_option maxRecDepth 100000 in
theorem r06letter.calls (a0 : Int) (r : Bool) (w : World) (h : r06letter.f a0 = some r) :
  Calls Tryz.prog 58 #[.int .u8 a0] w fun e w' => e = .returned (.bool r) ∧ Drawn0 w w' := by
 have H : (if a0 = 95 then (some true) else (if a0 ≥ 97 then (if a0 ≤ 122 then (some true) else (if a0 ≥ 65 then (some (decide (a0 ≤ 90))) else (some false))) else (if a0 ≥ 65 then (some (decide (a0 ≤ 90))) else (some false)))) = some r := h
 clear h
 replace H := iE H
 rcases H with ⟨c2b0, c2b1, H⟩ | ⟨c2, c2b0, c2b1, H⟩
 ·obtain rfl := Option.some.inj H
  go_enter Tryz.func58, Tryz.ntmps58
  exact zz0
 replace H := iG H
 rcases H with ⟨c3b0, H⟩ | ⟨c3b0, H⟩
 ·replace H := iD H
  rcases H with ⟨c4b0, H⟩ | ⟨c4b0, H⟩
  ·obtain rfl := Option.some.inj H
   go_enter Tryz.func58, Tryz.ntmps58
   exact zz0
  replace H := iG H
  rcases H with ⟨c5b0, H⟩ | ⟨c5b0, H⟩
  ·obtain rfl := Option.some.inj H
   go_enter Tryz.func58, Tryz.ntmps58
   exact zz0
  obtain rfl := Option.some.inj H
  go_enter Tryz.func58, Tryz.ntmps58
  exact zz0
 replace H := iG H
 rcases H with ⟨c6b0, H⟩ | ⟨c6b0, H⟩
 ·obtain rfl := Option.some.inj H
  go_enter Tryz.func58, Tryz.ntmps58
  exact zz0
 obtain rfl := Option.some.inj H
 go_enter Tryz.func58, Tryz.ntmps58
 exact zz0
def r06digit.f (a0 : Int) : Option (Bool) := if a0 ≥ 48 then (some (decide (a0 ≤ 57))) else (some false)
set_option maxHeartbeats 8000000 in
set_option maxRecDepth 100000 in
theorem r06digit.calls (a0 : Int) (r : Bool) (w : World) (h : r06digit.f a0 = some r) :
  Calls Tryz.prog 59 #[.int .u8 a0] w fun e w' => e = .returned (.bool r) ∧ Drawn0 w w' := by
 have H : (if a0 ≥ 48 then (some (decide (a0 ≤ 57))) else (some false)) = some r := h
 clear h
 replace H := iG H
 rcases H with ⟨c2b0, H⟩ | ⟨c2b0, H⟩
 ·obtain rfl := Option.some.inj H
  go_enter Tryz.func59, Tryz.ntmps59
  exact zz0
 obtain rfl := Option.some.inj H
 go_enter Tryz.func59, Tryz.ntmps59
 exact zz0
mutual
def r06sign.j0 : Nat → ByteArray → Int → Option (Int)
  | 0, _, _ => none
  | k + 1, x0, x1 => r06sign.l0 k x0 x1 (⟨#[40, 41, 91, 93, 44, 46, 58, 59, 61, 92, 60, 62, 64, 126, 42, 48, 49]⟩ : ByteArray) 0
def r06sign.l0 : Nat → ByteArray → Int → ByteArray → Int → Option (Int)
  | 0, _, _, _, _ => none
  | k + 1, x0, x1, x6, x7 => if x7 < (x6.size : Int) then (if 0 ≤ x1 then (if x1 < (x0.size : Int) then (if 0 ≤ x7 then (if (bt x0 x1) = (bt x6 x7) then (some 1) else (r06sign.l0 k x0 x1 x6 (wrap64 (x7 + 1)))) else (none)) else (none)) else (none)) else (some 0)
end
def r06sign.f (k : Nat) (a0 : ByteArray) (a1 : Int) : Option (Int) := if (wrap64 (a1 + 1)) < (a0.size : Int) then (if 0 ≤ a1 then (if a1 ≤ (wrap64 (a1 + 2)) then (if (wrap64 (a1 + 2)) ≤ (a0.size : Int) then (if (a0.extract (a1 : Int).toNat ((wrap64 (a1 + 2)) : Int).toNat).toList = ([45, 62] : List UInt8) then (some 2) else (if (a0.extract (a1 : Int).toNat ((wrap64 (a1 + 2)) : Int).toNat).toList = ([47, 92] : List UInt8) then (some 2) else (if (a0.extract (a1 : Int).toNat ((wrap64 (a1 + 2)) : Int).toNat).toList = ([92, 47] : List UInt8) then (some 2) else (r06sign.j0 k a0 a1)))) else (none)) else (none)) else (none)) else (r06sign.j0 k a0 a1)
set_option maxHeartbeats 8000000 in
set_option maxRecDepth 100000 in
theorem r06sign.calls (k : Nat) (a0 : ByteArray) (a1 : Int) (r : Int) (w : World) (h : r06sign.f k a0 a1 = some r) :
  Calls Tryz.prog 60 #[.string a0, .int .i64 a1] w fun e w' => e = .returned (.int .i64 r) ∧ Drawn0 w w' := by
 have H : (if (wrap64 (a1 + 1)) < (a0.size : Int) then (if 0 ≤ a1 then (if a1 ≤ (wrap64 (a1 + 2)) then (if (wrap64 (a1 + 2)) ≤ (a0.size : Int) then (if (a0.extract (a1 : Int).toNat ((wrap64 (a1 + 2)) : Int).toNat).toList = ([45, 62] : List UInt8) then (some 2) else (if (a0.extract (a1 : Int).toNat ((wrap64 (a1 + 2)) : Int).toNat).toList = ([47, 92] : List UInt8) then (some 2) else (if (a0.extract (a1 : Int).toNat ((wrap64 (a1 + 2)) : Int).toNat).toList = ([92, 47] : List UInt8) then (some 2) else (r06sign.j0 k a0 a1)))) else (none)) else (none)) else (none)) else (r06sign.j0 k a0 a1)) = some r := h
 clear h
 have HC3 := Aside0.mk H
 clear H
 go_enter Tryz.func60, Tryz.ntmps60
 go_upto_if 12 with (fail)
 repeat (go_quiet (fail); go_upto_if 12 with (fail))
 go_cut [] (fun wc => ∃ (kq : Nat), Aside0 (r06sign.j0 kq a0 a1 = some r) ∧ Aside0 (kq ≤ k) ∧ Drawn0 w wc)
 case first =>
  have H := HC3.out
  clear HC3
  replace H := iD H
  rcases H with ⟨c4b0, H⟩ | ⟨c4b0, H⟩
  ·(first | rw [c4b0] | (simp only [i64_w, i32_w]; rw [c4b0]) | skip)
   replace H := niT H
   obtain ⟨c5b0, c5b1, H⟩ := H
   by_cases c6 : a1 ≤ (wrap64 (a1 + 2))
   ·rw [if_pos c6] at H
    have c6b0 := eq_true c6
    have c6b1 : decide (a1 ≤ (wrap64 (a1 + 2))) = true := decide_eq_true c6
    by_cases c7 : (wrap64 (a1 + 2)) ≤ (a0.size : Int)
    ·rw [if_pos c7] at H
     have c7b0 := eq_true c7
     have c7b1 : decide ((wrap64 (a1 + 2)) ≤ (a0.size : Int)) = true := decide_eq_true c7
     replace H := iE H
     rcases H with ⟨c8b0, c8b1, H⟩ | ⟨c8, c8b0, c8b1, H⟩
     ·exact zz2
     replace H := iE H
     rcases H with ⟨c9b0, c9b1, H⟩ | ⟨c9, c9b0, c9b1, H⟩
     ·exact zz2
     replace H := iE H
     rcases H with ⟨c10b0, c10b1, H⟩ | ⟨c10, c10b0, c10b1, H⟩
     ·exact zz2
     exact zz1
    ·rw [if_neg c7] at H
     exact absurd H (by simp)
   ·rw [if_neg c6] at H
    exact absurd H (by simp)
  (first | rw [c4b0] | (simp only [i64_w, i32_w]; rw [c4b0]) | skip)
  exact zz1
 case rest =>
  clear HC3
  obtain ⟨kq, HA, HJ2, ⟨mc2, rfl⟩⟩ := hcut
  cases kq with
  | zero => exact absurd HA.out (by simp [r06sign.j0])
  | succ kj2 =>
   have H := HA.out
   clear HA
   simp only [r06sign.j0] at H
   have H' := Aside0.mk H
   clear H
   go_wp2
   repeat (go_quiet (fail); try go_wp2)
   go_loopg [7] kj2 (fun kq v7 w' => ∃ (x7_2 : Int), v7 = .int .i64 x7_2 ∧ Aside0 (r06sign.l0 kq a0 a1 (⟨#[40, 41, 91, 93, 44, 46, 58, 59, 61, 92, 60, 62, 64, 126, 42, 48, 49]⟩ : ByteArray) x7_2 = some r) ∧ Aside0 (kq ≤ kj2) ∧ Drawn0 w w')
   case atStart => exact ⟨(0), tZ, H', ⟨Nat.le_refl _⟩, tD⟩
   case round =>
    clear H'
    obtain ⟨x7_2, rfl, HA, HK2, ⟨m2, rfl⟩⟩ := hrel
    cases gk with
    | zero => exact absurd HA.out (by simp [r06sign.l0])
    | succ k2 =>
     have H := HA.out
     clear HA
     simp only [r06sign.l0] at H
     replace H := iDkk H
     rcases H with ⟨c11, c11b0, H⟩ | ⟨c11, c11b0, H⟩
     ·(try have c11b9 : decide (x7_2 < (17 : Int)) = true := c11b0)
      clear c11
      replace H := niD H
      obtain ⟨c12b0, H⟩ := H
      replace H := niD H
      obtain ⟨c13b0, H⟩ := H
      replace H := niD H
      obtain ⟨c15b0, H⟩ := H
      replace H := iE H
      rcases H with ⟨c17b0, c17b1, H⟩ | ⟨c17, c17b0, c17b1, H⟩
      ·obtain rfl := Option.some.inj H
       have p14 : 0 ≤ (a1 : Int) := tA
       have q14 : a1 < (a0.size : Int) := tA
       have hx14 := bt_at a0 a1
       replace p14 := eq_true p14
       replace q14 := eq_true q14
       have p16 : 0 ≤ (x7_2 : Int) := tA
       have q16 : x7_2 < (17 : Int) := tA
       have hx16 := bt_at (⟨#[40, 41, 91, 93, 44, 46, 58, 59, 61, 92, 60, 62, 64, 126, 42, 48, 49]⟩ : ByteArray) x7_2
       replace p16 := eq_true p16
       replace q16 := eq_true q16
       go_wp2
       repeat (go_quiet (fail); try go_wp2)
       go_ret
       exact ⟨tZ, tD⟩
      have H' := Aside0.mk H
      clear H
      have p14 : 0 ≤ (a1 : Int) := tA
      have q14 : a1 < (a0.size : Int) := tA
      have hx14 := bt_at a0 a1
      replace p14 := eq_true p14
      replace q14 := eq_true q14
      have p16 : 0 ≤ (x7_2 : Int) := tA
      have q16 : x7_2 < (17 : Int) := tA
      have hx16 := bt_at (⟨#[40, 41, 91, 93, 44, 46, 58, 59, 61, 92, 60, 62, 64, 126, 42, 48, 49]⟩ : ByteArray) x7_2
      replace p16 := eq_true p16
      replace q16 := eq_true q16
      go_wp2
      repeat (go_quiet (fail); try go_wp2)
      go_roundg k2
      case measure => have := HJ2.out; have := HK2.out; omega
      case rel => exact ⟨(wrap64 (x7_2 + 1)), tZ, H', ⟨by have := HJ2.out; have := HK2.out; omega⟩, tD⟩
     (try have c11b9 : decide (x7_2 < (17 : Int)) = false := c11b0)
     clear c11
     exact zz2
mutual
def r06Scan.l0 : Nat → ByteArray → List (S98) → Int → Option ((List (S98)) × Int × Int)
  | 0, _, _, _ => none
  | k + 1, x0, x6, x7 => if x7 < (x0.size : Int) then (if 0 ≤ x7 then ((r06blank.f (bt x0 x7)).bind fun t198 => (if t198 = true then (r06Scan.l0 k x0 x6 (wrap64 (x7 + 1))) else (if (bt x0 x7) = 45 then (if (wrap64 (x7 + 1)) < (x0.size : Int) then (if 0 ≤ (wrap64 (x7 + 1)) then (r06Scan.j1 k x0 x6 x7 ((bt x0 (wrap64 (x7 + 1))) == 45)) else (none)) else (r06Scan.j1 k x0 x6 x7 false)) else (r06Scan.j1 k x0 x6 x7 false)))) else (none)) else (if x6.length < 4398046511104 then (some ((x6 ++ [(⟨0, (⟨#[]⟩ : ByteArray), (x0.size : Int)⟩ : S98)]), 0, 0)) else (none))
def r06Scan.j1 : Nat → ByteArray → List (S98) → Int → Bool → Option ((List (S98)) × Int × Int)
  | 0, _, _, _, _ => none
  | k + 1, x0, x6, x7, x45 => if x45 = true then (r06Scan.l1 k x0 x6 x7) else (if 0 ≤ x7 then (if x7 < (x0.size : Int) then ((r06letter.f (bt x0 x7)).bind fun t199 => (if t199 = true then (r06Scan.l2 k x0 x6 x7 x7 1) else ((r06sign.f k x0 x7).bind fun t208 => (if (wrap64 (x7 + t208)) = x7 then (some (([] : List (S98)), x7, 61)) else (if x7 ≤ (wrap64 (x7 + t208)) then (if (wrap64 (x7 + t208)) ≤ (x0.size : Int) then (if x6.length < 4398046511104 then (r06Scan.l0 k x0 (x6 ++ [(⟨2, x0.extract (x7 : Int).toNat ((wrap64 (x7 + t208)) : Int).toNat, x7⟩ : S98)]) (wrap64 (x7 + t208))) else (none)) else (none)) else (none)))))) else (none)) else (none))
def r06Scan.l1 : Nat → ByteArray → List (S98) → Int → Option ((List (S98)) × Int × Int)
  | 0, _, _, _ => none
  | k + 1, x0, x6, x7 => if x7 < (x0.size : Int) then (if 0 ≤ x7 then (if (bt x0 x7) = 10 then (r06Scan.l0 k x0 x6 x7) else (r06Scan.l1 k x0 x6 (wrap64 (x7 + 1)))) else (none)) else (r06Scan.l0 k x0 x6 x7)
def r06Scan.l2 : Nat → ByteArray → List (S98) → Int → Int → Int → Option ((List (S98)) × Int × Int)
  | 0, _, _, _, _, _ => none
  | k + 1, x0, x6, x7, x8, x9 => if x8 < (x0.size : Int) then (if 0 ≤ x8 then ((r06letter.f (bt x0 x8)).bind fun t200 => (if t200 = true then (r06Scan.l2 k x0 x6 x7 (wrap64 (x8 + 1)) x9) else ((r06digit.f (bt x0 x8)).bind fun t201 => (if t201 = true then (r06Scan.l2 k x0 x6 x7 (wrap64 (x8 + 1)) x9) else (if x8 = x7 then (some (([] : List (S98)), x7, 61)) else (if 0 ≤ x7 then (if x7 ≤ x8 then (if x8 ≤ (x0.size : Int) then (if x6.length < 4398046511104 then (r06Scan.l0 k x0 (x6 ++ [(⟨x9, x0.extract (x7 : Int).toNat (x8 : Int).toNat, x7⟩ : S98)]) x8) else (none)) else (none)) else (none)) else (none))))))) else (none)) else (if x8 = x7 then (some (([] : List (S98)), x7, 61)) else (if 0 ≤ x7 then (if x7 ≤ x8 then (if x8 ≤ (x0.size : Int) then (if x6.length < 4398046511104 then (r06Scan.l0 k x0 (x6 ++ [(⟨x9, x0.extract (x7 : Int).toNat (x8 : Int).toNat, x7⟩ : S98)]) x8) else (none)) else (none)) else (none)) else (none)))
end
def r06Scan.f (k : Nat) (a0 : ByteArray) : Option ((List (S98)) × Int × Int) := if (a0.size : Int) > 65536 then (some (([] : List (S98)), 0, 3)) else ((r06Utf.f a0).bind fun t194 => (if t194 ≥ 0 then (some (([] : List (S98)), t194, 60)) else (r06Scan.l0 k a0 ([] : List (S98)) 0)))
theorem r06Scan.z0 {p : Prop} (h_ : p := by (first | (simp only [Option.some.injEq, Prod.mk.injEq] at H; obtain ⟨rfl, rfl, rfl⟩ := H) | (have H' := Aside0.mk H; clear H)); (try (have p31 : 0 ≤ (x8_3 : Int) := tA; have q31 : x8_3 < (a0.size : Int) := tA; have hx31 := bt_at a0 x8_3; replace p31 := eq_true p31; replace q31 := eq_true q31)); go_wp2_with (first | (go_at_call 58; (with_reducible refine (r06letter.calls (bt a0 x8_3) false _ A32.out).mono ?_); rintro e w' ⟨rfl, ⟨nd, rfl⟩⟩; have p34 : 0 ≤ (x8_3 : Int) := tA; have q34 : x8_3 < (a0.size : Int) := tA; have hx34 := bt_at a0 x8_3; replace p34 := eq_true p34; replace q34 := eq_true q34) | (go_at_call 59; (with_reducible refine (r06digit.calls (bt a0 x8_3) false _ A35.out).mono ?_); rintro e w' ⟨rfl, ⟨nd, rfl⟩⟩) | ((with_reducible refine gate_builtin (b := .append) (xs := #[.tmp 90, .tmp 98]) rfl ?_); (try (refine gate_guard (by rfl) ?_; dsimp only)); at_builtin; refine Kd.R_append k98 (w0 := w) w.heap.size rfl (.tmp 90) (.tmp 98) 94 98 (.agg #[(.int .i64 0), (.string ⟨#[]⟩), (.int .i64 0)]) 32 rfl Tryz.underlying94 info98 rfl (by decide) (by omega) u6 x6_1 (⟨1, a0.extract (x7_1 : Int).toNat (x8_3 : Int).toNat, x7_1⟩ : S98) [.int .i64 1, .string (a0.extract (x7_1 : Int).toNat (x8_3 : Int).toNat), .int .i64 x7_1] (fun _ => True) (fun _ => False) rfl rfl ?aP (fun _ hk => hk.elim) ?aF ?aO ?aB ?aS ?aL ?_; (case aP => exact k98_mkM _ _ _ (⟨1, a0.extract (x7_1 : Int).toNat (x8_3 : Int).toNat, x7_1⟩ : S98)); (case aB => exact tB); (case aF => exact (fun _ _ => trivial)); (case aO => exact (tR HO_6)); (case aS => exact (below_size tB)); (case aL => have := LMc41.out; omega); intro v203 wa ho hb hg hat; rw [← Ny202.out] at ho; replace HB := Aside0.mk (hb); have HO204 := Aside0.mk (ho); clear HO_6 ho hb hg hat) | (go_at_call 59; (with_reducible refine (r06digit.calls (bt a0 x8_3) true _ A35.out).mono ?_); rintro e w' ⟨rfl, ⟨nd, rfl⟩⟩)); first | (go_roundg k3; (case measure => have := HK1.out; have := HJ11.out; have := HK3.out; omega); (case rel => exact ⟨(y202), (x8_3), tS, H', ⟨by have := HK1.out; have := HJ11.out; have := HK3.out; omega⟩, ⟨tR HO204⟩, ⟨tB⟩⟩)) | (go_roundg k3; (case measure => have := HK1.out; have := HJ11.out; have := HK3.out; omega); (case rel => exact ⟨(wrap64 (x8_3 + 1)), tS, H', ⟨by have := HK1.out; have := HJ11.out; have := HK3.out; omega⟩, ⟨tR HO_6⟩, ⟨tB⟩⟩)) | (go_ret3; exact ⟨_, tE, by first | exact Kd.R_nil _ _ _ _ _ | exact Kd.N_nil _ _ _ _ _ | exact Kd.V_nil _ _ _ _ _ | exact Kd.Q_nil _ _ _ _ _ | exact Kd.S_nil _ _ _ _ _, tB⟩)) : p := h_
theorem r06Scan.z1 {p : Prop} (h_ : p := by (first | (simp only [Option.some.injEq, Prod.mk.injEq] at H; obtain ⟨rfl, rfl, rfl⟩ := H) | (have H' := Aside0.mk H; clear H)); (try (have p26 : 0 ≤ (x7_1 : Int) := tA; have q26 : x7_1 < (a0.size : Int) := tA; have hx26 := bt_at a0 x7_1; replace p26 := eq_true p26; replace q26 := eq_true q26)); go_wp2_with (first | ((with_reducible refine gf_ 58 rfl ?_); refine gC_ (some 62) Tryz.func58 #[.int .u8 (bt a0 x7_1)] ?_; (with_reducible refine (r06letter.calls (bt a0 x7_1) false _ A27.out).mono ?_); rintro e w' ⟨rfl, ⟨nd, rfl⟩⟩; refine ⟨_, rfl, ?_⟩) | ((with_reducible refine gf_ 60 rfl ?_); refine gC_ (some 84) Tryz.func60 #[.string a0, .int .i64 x7_1] ?_; (with_reducible refine (r06sign.calls kj11 a0 x7_1 t208 _ A49.out).mono ?_); rintro e w' ⟨rfl, ⟨nd, rfl⟩⟩; refine ⟨_, rfl, ?_⟩) | ((with_reducible refine gate_builtin (b := .append) (xs := #[.tmp 90, .tmp 98]) rfl ?_); (try (refine gate_guard (by rfl) ?_; dsimp only)); at_builtin; refine Kd.R_append k98 (w0 := w) w.heap.size rfl (.tmp 90) (.tmp 98) 94 98 (.agg #[(.int .i64 0), (.string ⟨#[]⟩), (.int .i64 0)]) 32 rfl Tryz.underlying94 info98 rfl (by decide) (by omega) u6 x6_1 (⟨2, a0.extract (x7_1 : Int).toNat ((wrap64 (x7_1 + t208)) : Int).toNat, x7_1⟩ : S98) [.int .i64 2, .string (a0.extract (x7_1 : Int).toNat ((wrap64 (x7_1 + t208)) : Int).toNat), .int .i64 x7_1] (fun _ => True) (fun _ => False) rfl rfl ?aP (fun _ hk => hk.elim) ?aF ?aO ?aB ?aS ?aL ?_; (case aP => exact k98_mkM _ _ _ (⟨2, a0.extract (x7_1 : Int).toNat ((wrap64 (x7_1 + t208)) : Int).toNat, x7_1⟩ : S98)); (case aB => exact tB); (case aF => exact (fun _ _ => trivial)); (case aO => exact (tR HO_6)); (case aS => exact (below_size tB)); (case aL => have := LMc54.out; omega); intro v210 wa ho hb hg hat; rw [← Ny209.out] at ho; replace HB := Aside0.mk (hb); have HO211 := Aside0.mk (ho); clear HO_6 ho hb hg hat)); first | (go_ret3; exact ⟨_, tE, by first | exact Kd.R_nil _ _ _ _ _ | exact Kd.N_nil _ _ _ _ _ | exact Kd.V_nil _ _ _ _ _ | exact Kd.Q_nil _ _ _ _ _ | exact Kd.S_nil _ _ _ _ _, tB⟩) | (go_roundg kj11; (case measure => have := HK1.out; have := HJ11.out; omega); (case rel => exact ⟨(y209), (wrap64 (x7_1 + t208)), tS, H', ⟨by have := HK1.out; have := HJ11.out; omega⟩, ⟨tR HO211⟩, ⟨tB⟩⟩))) : p := h_
set_option maxHeartbeats 8000000 in
set_option maxRecDepth 100000 in
theorem r06Scan.calls (k : Nat) (a0 : ByteArray) (r1 : List (S98)) (r2 : Int) (r3 : Int) (w : World) (h : r06Scan.f k a0 = some (r1, r2, r3)) :
  Calls Tryz.prog 42 #[.string a0] w fun e w' => ∃ v0_ : Value, e = .returned (.tuple #[v0_, .int .i64 r2, .int .i64 r3]) ∧ Kd.R k98 98 w' w.heap.size (fun _ => True) v0_ r1 ∧ Below w.heap.size w w' := by
 have hu98 := Tryz.underlying98
 have HB := Aside0.mk (Below.refl w.heap.size w)
 have H : (if (a0.size : Int) > 65536 then (some (([] : List (S98)), 0, 3)) else ((r06Utf.f a0).bind fun t194 => (if t194 ≥ 0 then (some (([] : List (S98)), t194, 60)) else (r06Scan.l0 k a0 ([] : List (S98)) 0)))) = some (r1, r2, r3) := h
 clear h
 replace H := iHkk H
 rcases H with ⟨c2, c2b0, H⟩ | ⟨c2, c2b0, H⟩
 ·have c2b1 : decide (65536 < a0.size) = true := decide_eq_true (by omega)
  clear c2
  simp only [Option.some.injEq, Prod.mk.injEq] at H
  obtain ⟨rfl, rfl, rfl⟩ := H
  go_enter Tryz.func42, Tryz.ntmps42
  exact zz3
 have c2b1 : decide (65536 < a0.size) = false := decide_eq_false (by omega)
 clear c2
 replace H := iX H
 obtain ⟨t194, A3, H⟩ := H
 replace H := iG H
 rcases H with ⟨c4b0, H⟩ | ⟨c4b0, H⟩
 ·simp only [Option.some.injEq, Prod.mk.injEq] at H
  obtain ⟨rfl, rfl, rfl⟩ := H
  go_enter Tryz.func42, Tryz.ntmps42
  go_wp2_with (first | ((with_reducible refine gf_ 56 rfl ?_); refine gC_ (some 14) Tryz.func56 #[.string a0] ?_; (with_reducible refine (r06Utf.calls a0 t194 _ A3.out).mono ?_); rintro e w5 ⟨rfl, hb⟩; refine ⟨_, rfl, ?_⟩; replace HB := Aside0.mk (below_step tB hb); (try clear hb)))
  go_ret3
  exact ⟨_, tE, by first | exact Kd.R_nil _ _ _ _ _ | exact Kd.N_nil _ _ _ _ _ | exact Kd.V_nil _ _ _ _ _ | exact Kd.Q_nil _ _ _ _ _ | exact Kd.S_nil _ _ _ _ _, tB⟩
 have H' := Aside0.mk H
 clear H
 go_enter Tryz.func42, Tryz.ntmps42
 go_wp2_with (first | ((with_reducible refine gf_ 56 rfl ?_); refine gC_ (some 14) Tryz.func56 #[.string a0] ?_; (with_reducible refine (r06Utf.calls a0 t194 _ A3.out).mono ?_); rintro e w6 ⟨rfl, hb⟩; refine ⟨_, rfl, ?_⟩; replace HB := Aside0.mk (below_step tB hb); (try clear hb)))
 go_loopg [6, 7] k (fun kq v6 v7 w' => ∃ (x6_1 : List (S98)) (x7_1 : Int), v7 = .int .i64 x7_1 ∧ Aside0 (r06Scan.l0 kq a0 x6_1 x7_1 = some (r1, r2, r3)) ∧ Aside0 (kq ≤ k) ∧ Aside0 (Kd.R k98 98 w' w.heap.size (fun _ => True) v6 x6_1) ∧ Aside0 (Below w.heap.size w w'))
 case atStart => exact ⟨(([] : List (S98))), (0), tS, H', ⟨Nat.le_refl _⟩, ⟨by first | exact Kd.R_nil _ _ _ _ _ | exact Kd.N_nil _ _ _ _ _ | exact Kd.V_nil _ _ _ _ _ | exact Kd.Q_nil _ _ _ _ _ | exact Kd.S_nil _ _ _ _ _⟩, ⟨tB⟩⟩
 case round =>
  clear H'
  try clear c2
  try clear c2b0
  try clear c2b1
  try clear c4b0
  obtain ⟨x6_1, x7_1, rfl, HA, HK1, HO_6, HB⟩ := hrel
  cases gk with
  | zero => exact absurd HA.out (by simp [r06Scan.l0])
  | succ k1 =>
   have H := HA.out
   clear HA
   simp only [r06Scan.l0] at H
   replace H := iD H
   rcases H with ⟨c7b0, H⟩ | ⟨c7b0, H⟩
   ·replace H := niD H
    obtain ⟨c8b0, H⟩ := H
    replace H := iX H
    obtain ⟨t198, A10, H⟩ := H
    replace H := iB H
    rcases H with ⟨rfl, H⟩ | ⟨rfl, H⟩
    ·have H' := Aside0.mk H
     clear H
     have p9 : 0 ≤ (x7_1 : Int) := tA
     have q9 : x7_1 < (a0.size : Int) := tA
     have hx9 := bt_at a0 x7_1
     replace p9 := eq_true p9
     replace q9 := eq_true q9
     go_wp2_with (first | ((with_reducible refine gf_ 57 rfl ?_); refine gC_ (some 25) Tryz.func57 #[.int .u8 (bt a0 x7_1)] ?_; (with_reducible refine (r06blank.calls (bt a0 x7_1) true _ A10.out).mono ?_); rintro e w' ⟨rfl, ⟨nd, rfl⟩⟩; refine ⟨_, rfl, ?_⟩))
     go_roundg k1
     case measure => have := HK1.out; omega
     case rel => exact ⟨(x6_1), (wrap64 (x7_1 + 1)), tS, H', ⟨by have := HK1.out; omega⟩, ⟨tR HO_6⟩, ⟨tB⟩⟩
    have HC12 := Aside0.mk H
    clear H
    have p9 : 0 ≤ (x7_1 : Int) := tA
    have q9 : x7_1 < (a0.size : Int) := tA
    have hx9 := bt_at a0 x7_1
    replace p9 := eq_true p9
    replace q9 := eq_true q9
    go_upto_region 11 with (first | ((with_reducible refine gf_ 57 rfl ?_); refine gC_ (some 25) Tryz.func57 #[.int .u8 (bt a0 x7_1)] ?_; (with_reducible refine (r06blank.calls (bt a0 x7_1) false _ A10.out).mono ?_); rintro e w' ⟨rfl, ⟨nd, rfl⟩⟩; refine ⟨_, rfl, ?_⟩))
    (try simp only [Act.put, List.setIfInBounds_toArray, List.set_cons_zero, List.set_cons_succ])
    go_cut [45] (fun v45 wc => ∃ (kq : Nat) (x45_11 : Bool), v45 = .bool x45_11 ∧ Aside0 (r06Scan.j1 kq a0 x6_1 x7_1 x45_11 = some (r1, r2, r3)) ∧ Aside0 (kq ≤ k1) ∧ Aside0 (Kd.R k98 98 wc w.heap.size (fun _ => True) u6 x6_1) ∧ Aside0 (Below w.heap.size w wc))
    case first =>
     have H := HC12.out
     clear HC12
     replace H := iE H
     rcases H with ⟨c14b0, c14b1, H⟩ | ⟨c14, c14b0, c14b1, H⟩
     ·(first | rw [c14b0] | (simp only [i64_w, i32_w]; rw [c14b0]) | skip)
      replace H := iD H
      rcases H with ⟨c15b0, H⟩ | ⟨c15b0, H⟩
      ·obtain ⟨ji16, hji16⟩ : ∃ j_ : Int, (wrap64 (x7_1 + 1)) = j_ := ⟨_, rfl⟩
       replace H : (if 0 ≤ (ji16) then (r06Scan.j1 k1 a0 x6_1 x7_1 ((bt a0 (ji16)) == 45)) else (none)) = some (r1, r2, r3) := by first | (rw [hji16] at H; exact H) | (simp only [hji16] at H ⊢; exact H)
       (try rw [hji16] at c15b0)
       have hji16w : (IntKind.i64.wrap (x7_1 + 1)) = ji16 := (i64_w _).trans hji16
       replace H := niD H
       obtain ⟨c17b0, H⟩ := H
       have H' := Aside0.mk H
       clear H
       have p13 : 0 ≤ (x7_1 : Int) := tA
       have q13 : x7_1 < (a0.size : Int) := tA
       have hx13 := bt_at a0 x7_1
       replace p13 := eq_true p13
       replace q13 := eq_true q13
       have p18 : 0 ≤ ((ji16) : Int) := tA
       have q18 : (ji16) < (a0.size : Int) := tA
       have hx18 := bt_at a0 (ji16)
       replace p18 := eq_true p18
       replace q18 := eq_true q18
       go_wp2
       go_meet
       case rel => exact ⟨_, (((bt a0 (ji16)) == 45)), (by first | rfl | (simp; done) | (simp only [← hji16] <;> (first | rfl | simp)) | (simp [*]; done)), H', ⟨by have := HK1.out; first | omega | exact Nat.le_refl _⟩, ⟨tR HO_6⟩, ⟨tB⟩⟩
      exact zz4
     (first | rw [c14b0] | (simp only [i64_w, i32_w]; rw [c14b0]) | skip)
     exact zz4
    case rest =>
     clear HC12
     try clear c2
     try clear c2b0
     try clear c2b1
     try clear c4b0
     try clear c7b0
     try clear c8b0
     try clear p9
     try clear q9
     try clear hx9
     try clear p9
     try clear q9
     obtain ⟨kq, x45_11, rfl, HA, HJ11, HO_6, HB⟩ := hcut
     cases kq with
     | zero => exact absurd HA.out (by simp [r06Scan.j1])
     | succ kj11 =>
      have H := HA.out
      clear HA
      simp only [r06Scan.j1] at H
      replace H := iB H
      rcases H with ⟨rfl, H⟩ | ⟨rfl, H⟩
      ·have H' := Aside0.mk H
       clear H
       go_wp2
       go_loopg [7] kj11 (fun kq v7 w' => ∃ (x7_3 : Int), v7 = .int .i64 x7_3 ∧ Aside0 (r06Scan.l1 kq a0 x6_1 x7_3 = some (r1, r2, r3)) ∧ Aside0 (kq ≤ kj11) ∧ Aside0 (Kd.R k98 98 w' w.heap.size (fun _ => True) u6 x6_1) ∧ Aside0 (Below w.heap.size w w'))
       case atStart => exact ⟨(x7_1), tS, H', ⟨Nat.le_refl _⟩, ⟨tR HO_6⟩, ⟨tB⟩⟩
       case round =>
        clear H'
        try clear c2
        try clear c2b0
        try clear c2b1
        try clear c4b0
        try clear c7b0
        try clear c8b0
        try clear p9
        try clear q9
        try clear hx9
        try clear p9
        try clear q9
        obtain ⟨x7_3, rfl, HA, HK3, HO_6, HB⟩ := hrel
        cases gk with
        | zero => exact absurd HA.out (by simp [r06Scan.l1])
        | succ k3 =>
         have H := HA.out
         clear HA
         simp only [r06Scan.l1] at H
         replace H := iD H
         rcases H with ⟨c20b0, H⟩ | ⟨c20b0, H⟩
         ·replace H := niD H
          obtain ⟨c21b0, H⟩ := H
          replace H := iE H
          rcases H with ⟨c23b0, c23b1, H⟩ | ⟨c23, c23b0, c23b1, H⟩
          ·have H' := Aside0.mk H
           clear H
           have p22 : 0 ≤ (x7_3 : Int) := tA
           have q22 : x7_3 < (a0.size : Int) := tA
           have hx22 := bt_at a0 x7_3
           replace p22 := eq_true p22
           replace q22 := eq_true q22
           go_wp2
           go_roundg k3
           case measure => have := HK1.out; have := HJ11.out; have := HK3.out; omega
           case rel => exact ⟨(x6_1), (x7_3), tS, H', ⟨by have := HK1.out; have := HJ11.out; have := HK3.out; omega⟩, ⟨tR HO_6⟩, ⟨tB⟩⟩
          have H' := Aside0.mk H
          clear H
          have p22 : 0 ≤ (x7_3 : Int) := tA
          have q22 : x7_3 < (a0.size : Int) := tA
          have hx22 := bt_at a0 x7_3
          replace p22 := eq_true p22
          replace q22 := eq_true q22
          go_wp2
          go_roundg k3
          case measure => have := HK1.out; have := HJ11.out; have := HK3.out; omega
          case rel => exact ⟨(wrap64 (x7_3 + 1)), tS, H', ⟨by have := HK1.out; have := HJ11.out; have := HK3.out; omega⟩, ⟨tR HO_6⟩, ⟨tB⟩⟩
         have H' := Aside0.mk H
         clear H
         go_wp2
         go_roundg k3
         case measure => have := HK1.out; have := HJ11.out; have := HK3.out; omega
         case rel => exact ⟨(x6_1), (x7_3), tS, H', ⟨by have := HK1.out; have := HJ11.out; have := HK3.out; omega⟩, ⟨tR HO_6⟩, ⟨tB⟩⟩
      replace H := niD H
      obtain ⟨c24b0, H⟩ := H
      replace H := niD H
      obtain ⟨c25b0, H⟩ := H
      replace H := iX H
      obtain ⟨t199, A27, H⟩ := H
      replace H := iB H
      rcases H with ⟨rfl, H⟩ | ⟨rfl, H⟩
      ·have H' := Aside0.mk H
       clear H
       have p26 : 0 ≤ (x7_1 : Int) := tA
       have q26 : x7_1 < (a0.size : Int) := tA
       have hx26 := bt_at a0 x7_1
       replace p26 := eq_true p26
       replace q26 := eq_true q26
       go_wp2_with (first | ((with_reducible refine gf_ 58 rfl ?_); refine gC_ (some 62) Tryz.func58 #[.int .u8 (bt a0 x7_1)] ?_; (with_reducible refine (r06letter.calls (bt a0 x7_1) true _ A27.out).mono ?_); rintro e w' ⟨rfl, ⟨nd, rfl⟩⟩; refine ⟨_, rfl, ?_⟩))
       go_loopg [8] kj11 (fun kq v8 w' => ∃ (x8_3 : Int), v8 = .int .i64 x8_3 ∧ Aside0 (r06Scan.l2 kq a0 x6_1 x7_1 x8_3 1 = some (r1, r2, r3)) ∧ Aside0 (kq ≤ kj11) ∧ Aside0 (Kd.R k98 98 w' w.heap.size (fun _ => True) u6 x6_1) ∧ Aside0 (Below w.heap.size w w'))
       case atStart => exact ⟨(x7_1), tS, H', ⟨Nat.le_refl _⟩, ⟨tR HO_6⟩, ⟨tB⟩⟩
       case round =>
        clear H'
        try clear c2
        try clear c2b0
        try clear c2b1
        try clear c4b0
        try clear c7b0
        try clear c8b0
        try clear p9
        try clear q9
        try clear hx9
        try clear c24b0
        try clear c25b0
        try clear p26
        try clear q26
        try clear hx26
        try clear p26
        try clear p9
        try clear q26
        try clear q9
        obtain ⟨x8_3, rfl, HA, HK3, HO_6, HB⟩ := hrel
        cases gk with
        | zero => exact absurd HA.out (by simp [r06Scan.l2])
        | succ k3 =>
         have H := HA.out
         clear HA
         simp only [r06Scan.l2] at H
         replace H := iD H
         rcases H with ⟨c29b0, H⟩ | ⟨c29b0, H⟩
         ·replace H := niD H
          obtain ⟨c30b0, H⟩ := H
          replace H := iX H
          obtain ⟨t200, A32, H⟩ := H
          replace H := iB H
          rcases H with ⟨rfl, H⟩ | ⟨rfl, H⟩
          ·have H' := Aside0.mk H
           clear H
           have p31 : 0 ≤ (x8_3 : Int) := tA
           have q31 : x8_3 < (a0.size : Int) := tA
           have hx31 := bt_at a0 x8_3
           replace p31 := eq_true p31
           replace q31 := eq_true q31
           go_wp2_with (first | (go_at_call 58; (with_reducible refine (r06letter.calls (bt a0 x8_3) true _ A32.out).mono ?_); rintro e w' ⟨rfl, ⟨nd, rfl⟩⟩))
           go_roundg k3
           case measure => have := HK1.out; have := HJ11.out; have := HK3.out; omega
           case rel => exact ⟨(wrap64 (x8_3 + 1)), tS, H', ⟨by have := HK1.out; have := HJ11.out; have := HK3.out; omega⟩, ⟨tR HO_6⟩, ⟨tB⟩⟩
          replace H := iX H
          obtain ⟨t201, A35, H⟩ := H
          replace H := iB H
          rcases H with ⟨rfl, H⟩ | ⟨rfl, H⟩
          ·exact r06Scan.z0
          replace H := iE H
          rcases H with ⟨c37b0, c37b1, H⟩ | ⟨c37, c37b0, c37b1, H⟩
          ·exact r06Scan.z0
          replace H := niT H
          obtain ⟨c38b0, c38b1, H⟩ := H
          replace H := niT H
          obtain ⟨c39b0, c39b1, H⟩ := H
          replace H := niT H
          obtain ⟨c40b0, c40b1, H⟩ := H
          replace H := niC H
          obtain ⟨c41, H⟩ := H
          have LMc41 := Aside0.mk c41
          clear c41
          obtain ⟨y202, hy202⟩ : ∃ y_ : List (S98), y_ = (x6_1 ++ [(⟨1, a0.extract (x7_1 : Int).toNat (x8_3 : Int).toNat, x7_1⟩ : S98)]) := ⟨_, rfl⟩
          replace H : (r06Scan.l0 k3 a0 y202 x8_3) = some (r1, r2, r3) := tY hy202 H
          have Ny202 := Aside0.mk hy202
          clear hy202
          exact r06Scan.z0
         replace H := iE H
         rcases H with ⟨c43b0, c43b1, H⟩ | ⟨c43, c43b0, c43b1, H⟩
         ·simp only [Option.some.injEq, Prod.mk.injEq] at H
          obtain ⟨rfl, rfl, rfl⟩ := H
          go_wp2
          go_ret3
          exact ⟨_, tE, by first | exact Kd.R_nil _ _ _ _ _ | exact Kd.N_nil _ _ _ _ _ | exact Kd.V_nil _ _ _ _ _ | exact Kd.Q_nil _ _ _ _ _ | exact Kd.S_nil _ _ _ _ _, tB⟩
         replace H := niT H
         obtain ⟨c44b0, c44b1, H⟩ := H
         replace H := niT H
         obtain ⟨c45b0, c45b1, H⟩ := H
         replace H := niT H
         obtain ⟨c46b0, c46b1, H⟩ := H
         replace H := niC H
         obtain ⟨c47, H⟩ := H
         have LMc47 := Aside0.mk c47
         clear c47
         obtain ⟨y205, hy205⟩ : ∃ y_ : List (S98), y_ = (x6_1 ++ [(⟨1, a0.extract (x7_1 : Int).toNat (x8_3 : Int).toNat, x7_1⟩ : S98)]) := ⟨_, rfl⟩
         replace H : (r06Scan.l0 k3 a0 y205 x8_3) = some (r1, r2, r3) := tY hy205 H
         have Ny205 := Aside0.mk hy205
         clear hy205
         have H' := Aside0.mk H
         clear H
         go_wp2_with (first | ((with_reducible refine gate_builtin (b := .append) (xs := #[.tmp 90, .tmp 98]) rfl ?_); (try (refine gate_guard (by rfl) ?_; dsimp only)); at_builtin; refine Kd.R_append k98 (w0 := w) w.heap.size rfl (.tmp 90) (.tmp 98) 94 98 (.agg #[(.int .i64 0), (.string ⟨#[]⟩), (.int .i64 0)]) 32 rfl Tryz.underlying94 info98 rfl (by decide) (by omega) u6 x6_1 (⟨1, a0.extract (x7_1 : Int).toNat (x8_3 : Int).toNat, x7_1⟩ : S98) [.int .i64 1, .string (a0.extract (x7_1 : Int).toNat (x8_3 : Int).toNat), .int .i64 x7_1] (fun _ => True) (fun _ => False) rfl rfl ?aP (fun _ hk => hk.elim) ?aF ?aO ?aB ?aS ?aL ?_; (case aP => exact k98_mkM _ _ _ (⟨1, a0.extract (x7_1 : Int).toNat (x8_3 : Int).toNat, x7_1⟩ : S98)); (case aB => exact tB); (case aF => exact (fun _ _ => trivial)); (case aO => exact (tR HO_6)); (case aS => exact (below_size tB)); (case aL => have := LMc47.out; omega); intro v206 w48 ho hb hg hat; rw [← Ny205.out] at ho; replace HB := Aside0.mk (hb); have HO207 := Aside0.mk (ho); clear HO_6 ho hb hg hat))
         go_roundg k3
         case measure => have := HK1.out; have := HJ11.out; have := HK3.out; omega
         case rel => exact ⟨(y205), (x8_3), tS, H', ⟨by have := HK1.out; have := HJ11.out; have := HK3.out; omega⟩, ⟨tR HO207⟩, ⟨tB⟩⟩
      replace H := iX H
      obtain ⟨t208, A49, H⟩ := H
      replace H := iE H
      rcases H with ⟨c50b0, c50b1, H⟩ | ⟨c50, c50b0, c50b1, H⟩
      ·exact r06Scan.z1
      have c51b0 := eq_true (tA : 0 ≤ x7_1)
      by_cases c52 : x7_1 ≤ (wrap64 (x7_1 + t208))
      ·rw [if_pos c52] at H
       have c52b0 := eq_true c52
       have c52b1 : decide (x7_1 ≤ (wrap64 (x7_1 + t208))) = true := decide_eq_true c52
       by_cases c53 : (wrap64 (x7_1 + t208)) ≤ (a0.size : Int)
       ·rw [if_pos c53] at H
        have c53b0 := eq_true c53
        have c53b1 : decide ((wrap64 (x7_1 + t208)) ≤ (a0.size : Int)) = true := decide_eq_true c53
        replace H := niC H
        obtain ⟨c54, H⟩ := H
        have LMc54 := Aside0.mk c54
        clear c54
        obtain ⟨y209, hy209⟩ : ∃ y_ : List (S98), y_ = (x6_1 ++ [(⟨2, a0.extract (x7_1 : Int).toNat ((wrap64 (x7_1 + t208)) : Int).toNat, x7_1⟩ : S98)]) := ⟨_, rfl⟩
        replace H : (r06Scan.l0 kj11 a0 y209 (wrap64 (x7_1 + t208))) = some (r1, r2, r3) := tY hy209 H
        have Ny209 := Aside0.mk hy209
        clear hy209
        exact r06Scan.z1
       ·rw [if_neg c53] at H
        exact absurd H (by simp)
      ·rw [if_neg c52] at H
       exact absurd H (by simp)
   replace H := niC H
   obtain ⟨c56, H⟩ := H
   have LMc56 := Aside0.mk c56
   clear c56
   obtain ⟨y195, hy195⟩ : ∃ y_ : List (S98), y_ = (x6_1 ++ [(⟨0, (⟨#[]⟩ : ByteArray), (a0.size : Int)⟩ : S98)]) := ⟨_, rfl⟩
   replace H : (some (y195, 0, 0)) = some (r1, r2, r3) := tY hy195 H
   have Ny195 := Aside0.mk hy195
   clear hy195
   simp only [Option.some.injEq, Prod.mk.injEq] at H
   obtain ⟨rfl, rfl, rfl⟩ := H
   go_wp2_with (first | ((with_reducible refine gate_builtin (b := .append) (xs := #[.tmp 101, .tmp 105]) rfl ?_); (try (refine gate_guard (by rfl) ?_; dsimp only)); at_builtin; refine Kd.R_append k98 (w0 := w) w.heap.size rfl (.tmp 101) (.tmp 105) 94 98 (.agg #[(.int .i64 0), (.string ⟨#[]⟩), (.int .i64 0)]) 32 rfl Tryz.underlying94 info98 rfl (by decide) (by omega) u6 x6_1 (⟨0, (⟨#[]⟩ : ByteArray), (a0.size : Int)⟩ : S98) [.int .i64 0, .string (⟨#[]⟩ : ByteArray), .int .i64 (a0.size : Int)] (fun _ => True) (fun _ => False) rfl rfl ?aP (fun _ hk => hk.elim) ?aF ?aO ?aB ?aS ?aL ?_; (case aP => exact k98_mkM _ _ _ (⟨0, (⟨#[]⟩ : ByteArray), (a0.size : Int)⟩ : S98)); (case aB => exact tB); (case aF => exact (fun _ _ => trivial)); (case aO => exact (tR HO_6)); (case aS => exact (below_size tB)); (case aL => have := LMc56.out; omega); intro v196 w57 ho hb hg hat; rw [← Ny195.out] at ho; replace HB := Aside0.mk (hb); have HO197 := Aside0.mk (ho); clear HO_6 ho hb hg hat))
   go_ret3
   exact ⟨_, tE, by (with_reducible repeat (first | apply Kd.R_alloc | apply Kd.R_drewN | apply Kd.R_drew)); exact HO197.out, tB⟩
end
end Go.Proofs.YtahdjajdaggmjaaGreatDoor.XPa
end
